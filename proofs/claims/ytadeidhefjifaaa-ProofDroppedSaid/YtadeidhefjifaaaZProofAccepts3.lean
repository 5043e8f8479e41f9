/- Parts of the proof of ProofAccepts, put together from several texts (words that the printing program wrote for this claim, walks, plain facts): the declarations that this law needs. -/
import Derived.Test.YtadeidhefjifaaaZProofAccepts2
import Derived.Deep.Slices
import Derived.LoopIn
import Derived.LoopNIn
import Derived.Maps.Own
import Derived.Maps.OwnOps
import Derived.Maps.Views
import Derived.OwnWalkIn
import Derived.RangeFuncBound
import Derived.RangeFuncCalls
import Derived.RangeFuncLeaves
import Derived.RangeFuncNested
import Derived.RangeFuncOwn
import Derived.RangeFuncWrites
import Derived.RegionIn
import Derived.Scope
import Derived.Shelf.Abstract
import Derived.Shelf.RegionOpen
import Derived.TacticsInMore
import Derived.WalkKit
section
namespace Go.Proofs.Ytadeidhefjifaaa.Px
set_option linter.unusedVariables false
set_option linter.unusedSimpArgs false
open Go.RowKit Go.Proofs.YtadeidhefjifaaaW.PrintWords Go.Proofs.YtadeidhefjifaaaW.PrintLast Go.Proofs.YtadeidhefjifaaaW.PrintMore
theorem within110 (n lo hi : Int) (w : World) : Calls Try.prog 110 #[.int .i64 n, .int .i64 lo, .int .i64 hi] w fun e w' => e = .returned (.bool (inB n lo hi)) ∧ w' = w := by
  unfold inB
  by_cases h1 : lo ≤ n
  · have b1 : decide (lo ≤ n) = true := decide_eq_true h1
    go_enter Try.func110, Try.ntmps110
    go_wp2
    go_ret
    exact ⟨by simp [b1], rfl⟩
  · have b1 : decide (lo ≤ n) = false := decide_eq_false h1
    go_enter Try.func110, Try.ntmps110
    go_wp2
    go_ret
    exact ⟨by simp [b1], rfl⟩
/-- is an attempt valid -/
def goodA (a : S44) : Bool := inB a.f0 0 4095 && (inB a.f1 0 1023 && (inB a.f2 0 12 && (inB a.f3 0 6 && inB a.f4 0 60)))
set_option maxHeartbeats 2000000 in
set_option maxRecDepth 100000 in
theorem fits104 (a : S44) (w : World) : Calls Try.prog 104 #[.agg #[.int .i64 a.f0, .int .i64 a.f1, .int .i64 a.f2, .int .i64 a.f3, .int .i64 a.f4]] w fun e w' => e = .returned (.bool (goodA a)) ∧ Below w.heap.size w w' := by
  have hu44 := Try.underlying44
  have HB := Aside0.mk (show ∀ o, Below w.heap.size w (w.alloc o) from fun o => below_alloc (Below.refl _ _) o)
  unfold goodA
  cases h1 : inB a.f0 0 4095
  · go_enter Try.func104, Try.ntmps104
    go_wp2_with (first | (go_at_call 110; refine (within110 _ _ _ _).mono ?_; rintro e w' ⟨rfl, rfl⟩))
    go_ret
    exact ⟨by simp, HB.out _⟩
  cases h2 : inB a.f1 0 1023
  · go_enter Try.func104, Try.ntmps104
    go_wp2_with (first | (go_at_call 110; refine (within110 _ _ _ _).mono ?_; rintro e w' ⟨rfl, rfl⟩))
    go_ret
    exact ⟨by simp, HB.out _⟩
  cases h3 : inB a.f2 0 12
  · go_enter Try.func104, Try.ntmps104
    go_wp2_with (first | (go_at_call 110; refine (within110 _ _ _ _).mono ?_; rintro e w' ⟨rfl, rfl⟩))
    go_ret
    exact ⟨by simp, HB.out _⟩
  cases h4 : inB a.f3 0 6
  · go_enter Try.func104, Try.ntmps104
    go_wp2_with (first | (go_at_call 110; refine (within110 _ _ _ _).mono ?_; rintro e w' ⟨rfl, rfl⟩))
    go_ret
    exact ⟨by simp, HB.out _⟩
  go_enter Try.func104, Try.ntmps104
  go_wp2_with (first | (go_at_call 110; refine (within110 _ _ _ _).mono ?_; rintro e w' ⟨rfl, rfl⟩))
  go_ret
  exact ⟨by simp, HB.out _⟩
/-- an attempt that is not valid -/
def badA (a : S44) : Bool := !goodA a
set_option maxHeartbeats 1000000 in
set_option maxRecDepth 100000 in
theorem bad103 (a : S44) (w : World) : Calls Try.prog 103 #[.agg #[.int .i64 a.f0, .int .i64 a.f1, .int .i64 a.f2, .int .i64 a.f3, .int .i64 a.f4]] w fun e w' => e = .returned (.bool (badA a)) ∧ Below w.heap.size w w' := by
  have hu44 := Try.underlying44
  have HB := Aside0.mk (show ∀ o, Below w.heap.size w (w.alloc o) from fun o => below_alloc (Below.refl _ _) o)
  unfold badA
  go_enter Try.func103, Try.ntmps103
  go_wp2_with (first | (go_at_call 104; refine (fits104 a _).mono ?_; rintro e w1 ⟨rfl, hb1⟩; have HB1 := Aside0.mk ((HB.out _).trans (hb1.mono (HB.out _).size)); clear hb1))
  go_ret
  exact ⟨rfl, HB1.out⟩
theorem drop_rdA (l : List S44) (i : Int) (h0 : 0 ≤ i) (h : i < l.length) : l.drop i.toNat = rd_T44 l i :: l.drop (i + 1).toNat := by
  rw [List.drop_eq_getElem_cons (show i.toNat < l.length by omega), show (i + 1).toNat = i.toNat + 1 by omega]
  simp [rd_T44, List.getD, show i.toNat < l.length by omega]
set_option maxHeartbeats 1000000 in
set_option maxRecDepth 100000 in
theorem idx109 (A : Option Addr) (c : Nat) (l : List S44) (w : World) (hr : Kd.C k44 w A l.length l) (hc : l.length ≤ c) :
    Calls Try.prog 109 #[.slice A l.length c, .func (.func 103) #[] #[]] w fun e w' => e = .returned (.int .i64 (fIx badA l 0)) ∧ Below w.heap.size w w' := by
  have hu44 := Try.underlying44
  have hm : (l.length : Int) ≤ 9223372036854775807 := by have := hr.2.1; omega
  have HR := Aside0.mk hr
  clear hr
  go_enter Try.func109, Try.ntmps109
  go_wp2_with fail
  go_loopw [8] (fun v wr => ∃ i : Int, v = .int .i64 i ∧ 0 ≤ i ∧ i ≤ l.length ∧ Aside0 (fIx badA (l.drop i.toNat) i = fIx badA l 0) ∧ Aside0 (Below w.heap.size w wr)) (fun v _ => l.length - (intOf v).toNat)
  case atStart => exact ⟨0, rfl, by omega, by omega, ⟨rfl⟩, ⟨Below.refl _ _⟩⟩
  case round =>
    obtain ⟨i, rfl, h0, h1, HI, HW⟩ := hrel
    by_cases hlt : i < l.length
    · have b0 : decide (i < (l.length : Int)) = true := decide_eq_true hlt
      have b1 : decide (0 ≤ i) = true := decide_eq_true h0
      obtain ⟨ad, e, x0, x1, x2, x3, x4⟩ := at_T44 (Kd.C_below HR.out HW.out) i h0 hlt
      cases e
      have hI := HI.out
      rw [drop_rdA l i h0 hlt, fIx] at hI
      cases hb : badA (rd_T44 l i)
      · rw [hb, if_neg (by decide)] at hI
        have HI' := Aside0.mk hI
        clear hI HI
        go_wp2_with (first | (go_at_call 103; refine (bad103 (rd_T44 l i) _).mono ?_; rintro e w1 ⟨rfl, hb1⟩; have HB1 := Aside0.mk (HW.out.trans (hb1.mono HW.out.size)); clear hb1))
        go_roundw
        case rel => exact ⟨i + 1, rfl, by omega, by omega, HI', HB1⟩
        case measure => simp [intOf]; omega
      · rw [hb, if_pos rfl] at hI
        have HI' := Aside0.mk hI
        clear hI HI
        go_wp2_with (first | (go_at_call 103; refine (bad103 (rd_T44 l i) _).mono ?_; rintro e w1 ⟨rfl, hb1⟩; have HB1 := Aside0.mk (HW.out.trans (hb1.mono HW.out.size)); clear hb1))
        go_ret
        exact ⟨by rw [← HI'.out]; rfl, HB1.out⟩
    · have b0 : decide (i < (l.length : Int)) = false := decide_eq_false hlt
      have hI := HI.out
      rw [List.drop_eq_nil_of_le (by omega), fIx] at hI
      have HI' := Aside0.mk hI
      clear hI
      go_wp2
      go_ret
      exact ⟨by rw [← HI'.out]; rfl, HW.out⟩
set_option maxHeartbeats 1000000 in
set_option maxRecDepth 100000 in
theorem cont102 (A : Option Addr) (c : Nat) (l : List S44) (w : World) (hr : Kd.C k44 w A l.length l) (hc : l.length ≤ c) :
    Calls Try.prog 102 #[.slice A l.length c, .func (.func 103) #[] #[]] w fun e w' => e = .returned (.bool (l.any badA)) ∧ Below w.heap.size w w' := by
  have H := Aside0.mk (fIx_any badA l 0 (by omega))
  go_enter Try.func102, Try.ntmps102
  go_wp2_with (go_at_call 109; refine (idx109 A c l _ hr hc).mono ?_; rintro e w1 ⟨rfl, hb1⟩)
  go_ret
  exact ⟨by rw [← H.out]; rfl, hb1⟩
/-- average.check's answer -/
def attV (l : List S44) : Int := if l.any badA = true then 150 else 0
set_option maxHeartbeats 1000000 in
set_option maxRecDepth 100000 in
theorem check91 (A : Option Addr) (c : Nat) (l : List S44) (w : World) (hr : Kd.C k44 w A l.length l) (hc : l.length ≤ c) :
    Calls Try.prog 91 #[.slice A l.length c] w fun e w' => e = .returned (.int .i64 (attV l)) ∧ Below w.heap.size w w' := by
  unfold attV
  cases h : l.any badA
  · go_enter Try.func91, Try.ntmps91
    go_wp2_with (go_at_call 102; refine (cont102 A c l _ hr hc).mono ?_; rintro e w1 ⟨rfl, hb1⟩)
    go_ret
    exact ⟨rfl, hb1⟩
  · go_enter Try.func91, Try.ntmps91
    go_wp2_with (go_at_call 102; refine (cont102 A c l _ hr hc).mono ?_; rintro e w1 ⟨rfl, hb1⟩)
    go_ret
    exact ⟨rfl, hb1⟩
end Go.Proofs.Ytadeidhefjifaaa.Px
end
section
namespace Go.Proofs.Ytadeidhefjifaaa.Px
set_option linter.unusedVariables false
set_option linter.unusedSimpArgs false
open Go.RowKit Go.Proofs.YtadeidhefjifaaaW.PrintWords Go.Proofs.YtadeidhefjifaaaW.PrintLast Go.Proofs.YtadeidhefjifaaaW.PrintMore
set_option maxHeartbeats 1000000 in
set_option maxRecDepth 100000 in
theorem index94 (A : Option Addr) (c : Nat) (l : List Int) (x : Int) (w : World) (hr : Kd.C (Kd.int .i64) w A l.length l) (hc : l.length ≤ c) :
    Calls Try.prog 94 #[.slice A l.length c, .int .i64 x] w fun e w' => e = .returned (.int .i64 (fIx (fun y => x == y) l 0)) ∧ w' = w := by
  have hm : (l.length : Int) ≤ 9223372036854775807 := by have := hr.2.1; omega
  have HR := Aside0.mk hr
  clear hr
  go_enter Try.func94, Try.ntmps94
  go_wp2_with fail
  go_loopw [8] (fun v wr => ∃ i : Int, v = .int .i64 i ∧ 0 ≤ i ∧ i ≤ l.length ∧ Aside0 (fIx (fun y => x == y) (l.drop i.toNat) i = fIx (fun y => x == y) l 0) ∧ wr = w) (fun v _ => l.length - (intOf v).toNat)
  case atStart => exact ⟨0, rfl, by omega, by omega, ⟨rfl⟩, rfl⟩
  case round =>
    obtain ⟨i, rfl, h0, h1, HI, rfl⟩ := hrel
    by_cases hlt : i < l.length
    · have b0 : decide (i < (l.length : Int)) = true := decide_eq_true hlt
      have b1 : decide (0 ≤ i) = true := decide_eq_true h0
      obtain ⟨ad, e, x0⟩ := rd_atI HR.out i h0 hlt
      cases e
      have hI := HI.out
      rw [drop_rdI l i h0 hlt, fIx] at hI
      obtain ⟨y, hy⟩ : ∃ y, rd l i = y := ⟨_, rfl⟩
      rw [hy] at hI x0
      cases hb : (x == y)
      · rw [hb, if_neg (by decide)] at hI
        have HI' := Aside0.mk hI
        clear hI HI hy
        go_wp2
        go_roundw
        case rel => exact ⟨i + 1, rfl, by omega, by omega, HI', by first | rfl | trivial⟩
        case measure => simp [intOf]; omega
      · rw [hb, if_pos rfl] at hI
        have HI' := Aside0.mk hI
        clear hI HI hy
        go_wp2
        go_ret
        exact ⟨by rw [← HI'.out]; rfl, rfl⟩
    · have b0 : decide (i < (l.length : Int)) = false := decide_eq_false hlt
      have hI := HI.out
      rw [List.drop_eq_nil_of_le (by omega), fIx] at hI
      have HI' := Aside0.mk hI
      clear hI
      go_wp2
      go_ret
      exact ⟨by rw [← HI'.out]; rfl, rfl⟩
/-- does a list hold a number -/
def hasB (l : List Int) (x : Int) : Bool := l.any fun y => x == y
set_option maxHeartbeats 1000000 in
set_option maxRecDepth 100000 in
theorem contains80 (A : Option Addr) (c : Nat) (l : List Int) (x : Int) (w : World) (hr : Kd.C (Kd.int .i64) w A l.length l) (hc : l.length ≤ c) :
    Calls Try.prog 80 #[.slice A l.length c, .int .i64 x] w fun e w' => e = .returned (.bool (hasB l x)) ∧ w' = w := by
  have H := Aside0.mk (fIx_any (fun y => x == y) l 0 (by omega))
  go_enter Try.func80, Try.ntmps80
  go_wp2_with (go_at_call 94; refine (index94 A c l x _ hr hc).mono ?_; rintro e w1 ⟨rfl, rfl⟩)
  go_ret
  exact ⟨by unfold hasB; rw [← H.out]; rfl, rfl⟩
/-- may an attempt count for a requirement -/
def eligB (q : S92) (a : S44) : Bool := hasB q.f5 a.f0 && (decide (q.f2 ≤ a.f2) && (!q.f3 || a.f3 == 0))
set_option maxHeartbeats 2000000 in
set_option maxRecDepth 100000 in
theorem elig65 (q : S92) (a : S44) (A4 A5 : Option Addr) (c4 c5 : Nat) (w : World) (hr : Kd.C (Kd.int .i64) w A5 q.f5.length q.f5) (hc : q.f5.length ≤ c5) :
    Calls Try.prog 65 #[.agg #[.string q.f0, .int .i64 q.f1, .int .i64 q.f2, .bool q.f3, .slice A4 q.f4.length c4, .slice A5 q.f5.length c5], .agg #[.int .i64 a.f0, .int .i64 a.f1, .int .i64 a.f2, .int .i64 a.f3, .int .i64 a.f4]] w
      fun e w' => e = .returned (.bool (eligB q a)) ∧ Below w.heap.size w w' := by
  have hu92 := Try.underlying92
  have hu44 := Try.underlying44
  have HB := Aside0.mk (show ∀ o o', Below w.heap.size w ((w.alloc o).alloc o') from fun o o' => below_alloc (below_alloc (Below.refl _ _) o) o')
  have HR := Aside0.mk (show ∀ o o', Kd.C (Kd.int .i64) ((w.alloc o).alloc o') A5 q.f5.length q.f5 from fun o o' => Kd.C_alloc (Kd.C_alloc hr o) o')
  clear hr
  unfold eligB
  cases h1 : hasB q.f5 a.f0
  · go_enter Try.func65, Try.ntmps65
    go_wp2_with (first | (go_at_call 80; refine (contains80 _ _ _ _ _ (HR.out _ _) hc).mono ?_; rintro e w' ⟨rfl, rfl⟩))
    go_ret
    exact ⟨by simp, HB.out _ _⟩
  by_cases h2 : q.f2 ≤ a.f2
  · have b2 : decide (q.f2 ≤ a.f2) = true := decide_eq_true h2
    clear h2
    cases h3 : q.f3
    · go_enter Try.func65, Try.ntmps65
      go_wp2_with (first | (go_at_call 80; refine (contains80 _ _ _ _ _ (HR.out _ _) hc).mono ?_; rintro e w' ⟨rfl, rfl⟩))
      go_ret
      exact ⟨by simp [b2], HB.out _ _⟩
    · go_enter Try.func65, Try.ntmps65
      go_wp2_with (first | (go_at_call 80; refine (contains80 _ _ _ _ _ (HR.out _ _) hc).mono ?_; rintro e w' ⟨rfl, rfl⟩))
      go_ret
      exact ⟨by simp [b2], HB.out _ _⟩
  · have b2 : decide (q.f2 ≤ a.f2) = false := decide_eq_false h2
    clear h2
    go_enter Try.func65, Try.ntmps65
    go_wp2_with (first | (go_at_call 80; refine (contains80 _ _ _ _ _ (HR.out _ _) hc).mono ?_; rintro e w' ⟨rfl, rfl⟩))
    go_ret
    exact ⟨by simp [b2], HB.out _ _⟩
end Go.Proofs.Ytadeidhefjifaaa.Px
end
section
set_option linter.unusedVariables false
set_option linter.unusedSimpArgs false
namespace Go.Proofs.Ytadeidhefjifaaa.Px
open Go.RowKit Go.Shelf Go.Proofs.YtadeidhefjifaaaW.PrintWords Go.Proofs.YtadeidhefjifaaaW.PrintLast Go.Proofs.YtadeidhefjifaaaW.PrintMore
attribute [local go_sem] Oper.semAt_some
/-- what a round keeps for an iterator: the memory before the call, and one block -/
def KpI (B b1 : Nat) (W W' : World) : Prop := Below B W W' ∧ ∀ (cs : Array Value) (t : TypeId), W.heap[b1]? = some (Obj.cells cs t (0, 0)) → W'.heap[b1]? = some (Obj.cells cs t (0, 0))
theorem KpI.refl (B b1 : Nat) (W : World) : KpI B b1 W W := ⟨Below.refl _ _, fun _ _ h => h⟩
theorem KpI.trans {B b1 : Nat} {W1 W2 W3 : World} (h : KpI B b1 W1 W2) (k : KpI B b1 W2 W3) : KpI B b1 W1 W3 := ⟨h.1.trans k.1, fun cs t e => k.2 cs t (h.2 cs t e)⟩
theorem KpI.put {B b1 : Nat} {w W : World} {l : Nat} {o o' : Obj} (hB : B ≤ w.heap.size) (hb : b1 < w.heap.size) (hl : w.heap.size ≤ l) (h : W.heap[l]? = some o) : KpI B b1 W (W.putObj l o') :=
  ⟨(Below.refl B W).grown (grownBy_putObj' W l o') (by have := (Array.getElem?_eq_some_iff.1 h).1; omega) (fun k e => by cases e; omega), fun cs t hk => (World.putObj_heap_other (by omega)).trans hk⟩
theorem KpI.alloc {B b1 : Nat} {W : World} (hB : B ≤ W.heap.size) (o : Obj) : KpI B b1 W (W.alloc o) :=
  ⟨(Below.refl B W).alloc hB o, fun cs t hk => (Below.heap_alloc W o b1 (Array.getElem?_eq_some_iff.1 hk).1).trans hk⟩
/-- the grade and the credits of an attempt -/
def wtA (a : S44) : Int × Int := (a.f2, a.f4)
def encP (x : Int × Int) : Array Value := #[.int .i64 x.1, .int .i64 x.2]
theorem wt_snoc (l : List S44) (k : Nat) (hk : k < l.length) : (l.take (k + 1)).map wtA = (l.take k).map wtA ++ [((rd_T44 l k).f2, (rd_T44 l k).f4)] := by
  rw [List.take_succ_eq_append_getElem hk, List.map_append, show rd_T44 l k = l[k] by simp [rd_T44, List.getD, hk]]; rfl
set_option maxRecDepth 100000 in
set_option maxHeartbeats 4000000 in
theorem weights1_in (m B l0 b1 : Nat) (hm : 1 ≤ m) (W : World) (A : Option Addr) (c : Nat) (l : List S44) (hr : Kd.C k44 W A l.length l) (hlt : ∀ W', Below B W W' → Kd.C k44 W' A l.length l) (hc : l.length ≤ c)
    (h1 : W.heap[b1]? = some (.cells #[.slice A l.length c] 42 (0, 0))) (hB : B ≤ W.heap.size)
    (J Jx : List (Int × Int) → World → Prop)
    (hY : ∀ pre x W1, J pre W1 → pre.length < l.length → YieldAt Fence.wide (m - 1) Try.prog l0 (encP x) W1 fun e W' =>
      (e = .returned (.bool true) ∧ J (pre ++ [x]) W' ∧ KpI B b1 W1 W') ∨ (e = .returned (.bool false) ∧ Jx (pre ++ [x]) W'))
    (hJa : ∀ pre W1 o, J pre W1 → J pre (W1.alloc o)) (h0 : J [] W) :
    CallsIn Fence.wide m Try.prog 105 #[.func (.yield l0) #[] #[], .pointer (some ⟨b1, 0, none⟩)] W fun e W' => (∃ v, e = .returned v) ∧
      ((∃ ys, ys = l.map wtA ∧ J ys W') ∨ (∃ pre, pre <+: l.map wtA ∧ Jx pre W')) := by
  have hu44 := Try.underlying44
  have c1 : W.cell? ⟨b1, 0, none⟩ = some (.slice A l.length c) := (blk_cell h1 0).trans rfl
  have hrl : (l.length : Int) ≤ 9223372036854775807 := by have := hr.2.1; omega
  have HY := Aside0.mk hY
  have HJA := Aside0.mk hJa
  have H0 := Aside0.mk h0
  have HL := Aside0.mk hlt
  have H1 := Aside0.mk h1
  clear hJa h0 h1 hr hlt
  refine callsIn_of_wp Try.func105 rfl trivial ?_ rfl
  simp only [Try.ntmps105, List.size_toArray, List.length_cons, List.length_nil, Nat.reduceAdd, Nat.reduceSub, Array.replicate_succ, Array.replicate_zero, List.push_toArray, List.append_toArray, List.nil_append, List.cons_append]
  gi_wp2
  gi_loopw [7] (fun i wr => ∃ (k : Nat), k ≤ l.length ∧ i = .int .i64 k ∧ Aside0 (J ((l.take k).map wtA) wr) ∧ Aside0 (KpI B b1 W wr)) (fun i _ => l.length - (intOf i).toNat)
  case atStart => exact ⟨0, by omega, rfl, H0, ⟨KpI.refl _ _ _⟩⟩
  case round =>
    obtain ⟨k, hkl, rfl, HJ, HK⟩ := hrel
    by_cases hlt : k < l.length
    · have q0 : (0 : Int) ≤ (k : Int) := by omega
      have q1 : (k : Int) < (l.length : Int) := by omega
      have b0 : decide (k < l.length) = true := decide_eq_true hlt
      obtain ⟨ad, e, x0, x1, x2, x3, x4⟩ := at_T44 (HL.out _ HK.out.1) k q0 q1
      cases e
      have hsn := wt_snoc l k hlt
      have hpf : (l.take (k + 1)).map wtA <+: l.map wtA := by rw [List.map_take]; exact List.take_prefix _ _
      rw [Int.toNat_natCast] at x0 x1 x2 x3 x4
      have HS := Aside0.mk hsn
      have HP := Aside0.mk hpf
      have hwr : B ≤ wr.heap.size := by have := HK.out.1.size; omega
      have HKA := Aside0.mk (show ∀ o, KpI B b1 W (wr.alloc o) from fun o => HK.out.trans (KpI.alloc hwr o))
      have HYY := Aside0.mk (show ∀ o, YieldAt Fence.wide (m - 1) Try.prog l0 (encP ((rd_T44 l k).f2, (rd_T44 l k).f4)) (wr.alloc o) fun e W' => (e = .returned (.bool true) ∧ J ((l.take (k + 1)).map wtA) W' ∧ KpI B b1 (wr.alloc o) W') ∨ (e = .returned (.bool false) ∧ Jx ((l.take (k + 1)).map wtA) W') from fun o => by
        rw [hsn]
        exact HY.out _ _ _ (HJA.out _ _ o HJ.out) (by rw [List.length_map, List.length_take]; omega))
      clear hsn hpf hwr
      obtain ⟨fn, tmps, assign, body, hy, hR⟩ := HYY.out (.cells #[.int .i64 (rd_T44 l k).f0, .int .i64 (rd_T44 l k).f1, .int .i64 (rd_T44 l k).f2, .int .i64 (rd_T44 l k).f3, .int .i64 (rd_T44 l k).f4] 44)
      unfold encP at hy
      have HRR := Aside0.mk hR
      clear hR
      gi_wp2_with fail
      refine HRR.out.mono ?_
      rintro e W3 (⟨rfl, hJ3, hk3⟩ | ⟨rfl, hJx3⟩)
      · have HJ3 := Aside0.mk hJ3
        have HK3 := Aside0.mk ((HKA.out _).trans hk3)
        clear hJ3 hk3
        gi_wp2
        go_roundw
        case rel => exact ⟨k + 1, by omega, by simp, HJ3, HK3⟩
        case measure => simp [intOf]; omega
      · have HJ3 := Aside0.mk hJx3
        clear hJx3
        gi_wp2
        refine bodyPost_ret (results_none rfl _ _ _) rfl ?_
        exact ⟨⟨_, rfl⟩, .inr ⟨_, HP.out, HJ3.out⟩⟩
    · have b0 : decide (k < l.length) = false := decide_eq_false hlt
      have hJ := HJ.out
      rw [List.take_of_length_le (by omega)] at hJ
      have HJ' := Aside0.mk hJ
      clear hJ
      gi_wp2
      go_end0
      exact ⟨⟨_, rfl⟩, .inl ⟨_, rfl, HJ'.out⟩⟩
set_option maxRecDepth 100000 in
theorem weights_in (W : World) (A : Option Addr) (n c : Nat) (m : Nat) :
    CallsIn Fence.wide m Try.prog 92 #[.slice A n c] W fun e W' => e = .returned (.func (.func 105) #[] #[.pointer (some ⟨W.heap.size, 0, none⟩)]) ∧ W' = W.alloc (.cells #[.slice A n c] 42) := by
  refine callsIn_of_wp Try.func92 rfl trivial ?_ rfl
  simp only [Try.ntmps92, List.size_toArray, List.length_cons, List.length_nil, Nat.reduceAdd, Nat.reduceSub, Array.replicate_succ, Array.replicate_zero, List.push_toArray, List.append_toArray, List.nil_append, List.cons_append]
  gi_wp2
  refine bodyPost_ret (results_tmp rfl _ _ _) rfl ?_
  exact ⟨rfl, rfl⟩
/-- a cell of its own, written -/
theorem set_own {W : World} {b : Nat} {x : Value} {t : TypeId} (h : W.heap[b]? = some (.cells #[x] t (0, 0))) (v : Value) : (W.setCell ⟨b, 0, none⟩ v).heap[b]? = some (.cells #[v] t (0, 0)) := by
  have hlt := blk_lt h
  show (W.heap.modify b _)[b]? = _
  have h' : W.heap[b] = .cells #[x] t (0, 0) := by simpa [Array.getElem?_eq_getElem hlt] using h
  rw [Array.getElem?_eq_getElem (by simpa using hlt), Array.getElem_modify_self, h']
  rfl
theorem set_far {W : World} {b k : Nat} {o : Obj} (h : W.heap[k]? = some o) (hne : k ≠ b) (v : Value) : (W.setCell ⟨b, 0, none⟩ v).heap[k]? = some o := (Below.heap_setCell W ⟨b, 0, none⟩ v k hne).trans h
/-- the sums, one attempt further -/
def sumStep (s : Int × Int) (x : Int × Int) : Int × Int := (wrap64 (s.1 + x.2), wrap64 (s.2 + wrap64 (x.1 * x.2)))
def sumP (l : List (Int × Int)) : Int × Int := l.foldl sumStep (0, 0)
theorem sumP_snoc (l : List (Int × Int)) (x : Int × Int) : sumP (l ++ [x]) = sumStep (sumP l) x := by simp [sumP]
/-- average.Sums's answer -/
def sumsV (l : List S44) : Int × Int × Int := if attV l = 0 then ((sumP (l.map wtA)).1, (sumP (l.map wtA)).2, 0) else (0, 0, attV l)
def average_Sums.f (l : List S44) : Option (Int × Int × Int) := some (sumsV l)
set_option maxHeartbeats 4000000 in
set_option maxRecDepth 100000 in
theorem sums_in (A : Option Addr) (c : Nat) (l : List S44) (w : World) (hr : Kd.C k44 w A l.length l) (hc : l.length ≤ c) :
    CallsIn Fence.wide 3 Try.prog 76 #[.slice A l.length c] w fun e w' => e = .returned (.tuple #[.int .i64 (sumsV l).1, .int .i64 (sumsV l).2.1, .int .i64 (sumsV l).2.2]) ∧ Below w.heap.size w w' := by
  have HB := Aside0.mk (show ∀ o o', Below w.heap.size w ((w.alloc o).alloc o') from fun o o' => below_alloc (below_alloc (Below.refl _ _) o) o')
  have HR := Aside0.mk hr
  clear hr
  refine callsIn_of_wp_marks Try.func76 rfl trivial ?_ rfl
  simp only [Try.ntmps76, List.size_toArray, List.length_cons, List.length_nil, Nat.reduceAdd, Nat.reduceSub, Array.replicate_succ, Array.replicate_zero, List.push_toArray, List.append_toArray, List.nil_append, List.cons_append]
  gi_wp2_with fail
  refine ⟨trivial, (callsIn_wide.2 (check91 A c l _ (Kd.C_below HR.out (HB.out _ _)) hc)).mono ?_⟩
  rintro e w4 ⟨rfl, hb4⟩
  have z2 : w4.heap[w.heap.size]? = some (.cells #[.int .i64 0] 3 (0, 0)) := (hb4.block _ (by simp; omega)).trans ((Below.heap_alloc _ _ _ (by simp)).trans (heap_alloc_new w _))
  have z3 : w4.heap[w.heap.size + 1]? = some (.cells #[.int .i64 0] 3 (0, 0)) := (hb4.block _ (by simp)).trans (by have := heap_alloc_new (w.alloc (Obj.cells #[Value.int IntKind.i64 0] 3)) (Obj.cells #[Value.int IntKind.i64 0] 3); simpa using this)
  have HB4 := Aside0.mk ((HB.out _ _).trans (hb4.mono (HB.out _ _).size))
  have c2 : w4.cell? ⟨w.heap.size, 0, none⟩ = some (.int .i64 0) := (blk_cell z2 0).trans rfl
  have c3 : w4.cell? ⟨w.heap.size + 1, 0, none⟩ = some (.int .i64 0) := (blk_cell z3 0).trans rfl
  have f2 := blk_frozen z2 0
  have f3 := blk_frozen z3 0
  have Z2 := Aside0.mk z2
  have Z3 := Aside0.mk z3
  clear hb4 z2 z3
  by_cases ha : attV l = 0
  · have b0 : (attV l != 0) = false := by simp [ha]
    have HV := Aside0.mk (show sumsV l = ((sumP (l.map wtA)).1, (sumP (l.map wtA)).2, 0) by unfold sumsV; rw [if_pos ha])
    clear ha c2 c3 f2 f3
    gi_wp2_with fail
    refine ⟨trivial, (weights_in w4 A l.length c 2).mono ?_⟩
    rintro e w5 ⟨rfl, rfl⟩
    gi_wp2_with fail
    obtain ⟨W5, hW5⟩ : ∃ W5, w4.alloc (Obj.cells #[Value.slice A l.length c] 42) = W5 := ⟨_, rfl⟩
    have hbox : W5.heap[w4.heap.size]? = some (.cells #[.slice A l.length c] 42 (0, 0)) := by rw [← hW5]; exact heap_alloc_new _ _
    have hs5 : W5.heap.size = w4.heap.size + 1 := by rw [← hW5]; simp
    have y2 : W5.heap[w.heap.size]? = some (.cells #[.int .i64 0] 3 (0, 0)) := by rw [← hW5]; exact (Below.heap_alloc _ _ _ (blk_lt Z2.out)).trans Z2.out
    have y3 : W5.heap[w.heap.size + 1]? = some (.cells #[.int .i64 0] 3 (0, 0)) := by rw [← hW5]; exact (Below.heap_alloc _ _ _ (blk_lt Z3.out)).trans Z3.out
    have hb5 : Below w.heap.size w W5 := by rw [← hW5]; exact HB4.out.alloc HB4.out.size _
    rw [hW5]
    have l2 := blk_lt Z2.out
    have l3 := blk_lt Z3.out
    have l4 := hb5.size
    have BX := Aside0.mk hbox
    clear hW5 hbox
    refine wpIn_rangeFunc_ownG (α := Int × Int) (encs := encP) (Kp := KpI w.heap.size w4.heap.size) (S := fun ys => ys = l.map wtA) (Sp := fun pre => pre <+: l.map wtA) (N := l.length) (w0 := W5)
      rfl (by decide) (gf := 105) rfl trivial (enters_of Try.func105 (by kernel_rfl) rfl)
      (fun l0 J Jx W hW hJ _ hY h0 => weights1_in 2 w.heap.size l0 w4.heap.size (by decide) W A c l (Kd.C_below HR.out (hb5.trans (hW.mono l4))) (fun W' hb => Kd.C_below HR.out ((hb5.trans (hW.mono l4)).trans hb)) hc
        ((hW.block _ (by omega)).trans BX.out) (by have := hW.size; omega) J Jx hY (fun pre W1 o hj => hJ pre W1 _ none hj (World.grownBy_alloc W1 o none) (fun r e => by cases e)) h0)
      KpI.trans (fun W l o o' hl h _ _ => KpI.put (w := W5) (by omega) (by omega) hl h) (Below.refl _ _) (fun _ => rfl)
      (fun pre W => W.heap[w.heap.size]? = some (.cells #[.int .i64 (sumP pre).1] 3 (0, 0)) ∧ W.heap[w.heap.size + 1]? = some (.cells #[.int .i64 (sumP pre).2] 3 (0, 0)) ∧ Below w.heap.size w W)
      (fun _ _ _ => False) ?hI (fun _ _ _ _ _ hs _ _ => hs) ⟨y2, y3, hb5⟩
      (fun x => { tmps := #[Value.slice A l.length c, undef, Value.pointer (some ⟨w.heap.size, 0, none⟩), Value.pointer (some ⟨w.heap.size + 1, 0, none⟩), Value.int IntKind.i64 (attV l), .int .i64 x.1, .int .i64 x.2, Value.slice A l.length c, Value.int IntKind.i64 (attV l), Value.int IntKind.i64 (attV l), Value.bool false,
          undef, Value.slice A l.length c, Value.func (Fn.func 105) #[] #[Value.pointer (some ⟨w4.heap.size, 0, none⟩)], .int .i64 x.1, .int .i64 x.2, undef, undef, undef, undef, undef, undef, undef, undef, undef, undef], defers := [] }) ?assign ?body ?done ?stop
    case hI =>
      intro pre X Y row hs hg hr
      exact ⟨(hg.block _ (blk_lt hs.1) (fun e => by have := (hr _ e.symm).1; omega)).trans hs.1, (hg.block _ (blk_lt hs.2.1) (fun e => by have := (hr _ e.symm).1; omega)).trans hs.2.1, hs.2.2.grown hg hs.2.2.size (fun k e => by have := (hr k e).1; omega)⟩
    case assign =>
      intro l0 x W K hK
      unfold encP
      gi_wp2
      exact hK
    case body =>
      rintro l0 pre ⟨x0, x1⟩ W ⟨h2, h3, hB⟩ _
      have d2 : W.cell? ⟨w.heap.size, 0, none⟩ = some (.int .i64 (sumP pre).1) := (blk_cell h2 0).trans rfl
      have d3 : W.cell? ⟨w.heap.size + 1, 0, none⟩ = some (.int .i64 (sumP pre).2) := (blk_cell h3 0).trans rfl
      have g2 := blk_frozen h2 0
      have g3 := blk_frozen h3 0
      have H2 := Aside0.mk h2
      have H3 := Aside0.mk h3
      have HBB := Aside0.mk hB
      clear h2 h3 hB
      gi_wp2
      have n1 : w4.heap.size ≠ w.heap.size := by omega
      have n2 : w4.heap.size ≠ w.heap.size + 1 := by omega
      refine ⟨((KeepsOthers.setCell _ _ _).trans (KeepsOthers.setCell _ _ _)).from _, ⟨((Below.refl _ W).setCell (p := ⟨w.heap.size, 0, none⟩) (Nat.le_refl _) _).setCell (p := ⟨w.heap.size + 1, 0, none⟩) (by simp) _, fun cs t hk => set_far (set_far hk n1 _) n2 _⟩, ?_, ?_, (HBB.out.setCell (p := ⟨w.heap.size, 0, none⟩) (Nat.le_refl _) _).setCell (p := ⟨w.heap.size + 1, 0, none⟩) (by simp) _⟩
      · rw [sumP_snoc]; exact set_far (set_own H2.out _) (by omega) _
      · rw [sumP_snoc]; exact set_own (set_far H3.out (by omega) _) _
    case done =>
      rintro D ys W hD rfl ⟨h2, h3, hB⟩ hK
      have d2 : W.cell? ⟨w.heap.size, 0, none⟩ = some (.int .i64 (sumP (l.map wtA)).1) := (blk_cell h2 0).trans rfl
      have d3 : W.cell? ⟨w.heap.size + 1, 0, none⟩ = some (.int .i64 (sumP (l.map wtA)).2) := (blk_cell h3 0).trans rfl
      have g2 := blk_frozen h2 0
      have g3 := blk_frozen h3 0
      have H2 := Aside0.mk h2
      have H3 := Aside0.mk h3
      have HBB := Aside0.mk hB
      have HK := Aside0.mk hK
      clear h2 h3 hB hK
      gi_wp2
      gi_region
      obtain ⟨W6, hW6⟩ : ∃ W6, ((W.setCell ⟨w.heap.size, 0, none⟩ (.int .i64 (sumP (l.map wtA)).1)).setCell ⟨w.heap.size + 1, 0, none⟩ (.int .i64 (sumP (l.map wtA)).2)).drew = W6 := ⟨_, rfl⟩
      have k1 : W6.heap[D]? = some (.deferred (some [])) := by rw [← hW6]; exact set_far (set_far HK.out (by omega) _) (by omega) _
      have e2 : W6.heap[w.heap.size]? = some (.cells #[.int .i64 (sumP (l.map wtA)).1] 3 (0, 0)) := by rw [← hW6]; exact set_far (set_own H2.out _) (by omega) _
      have e3 : W6.heap[w.heap.size + 1]? = some (.cells #[.int .i64 (sumP (l.map wtA)).2] 3 (0, 0)) := by rw [← hW6]; exact set_own (set_far H3.out (by omega) _) _
      have b6 : Below w.heap.size w W6 := by rw [← hW6]; exact below_drew1 ((HBB.out.setCell (p := ⟨w.heap.size, 0, none⟩) (Nat.le_refl _) _).setCell (p := ⟨w.heap.size + 1, 0, none⟩) (by simp) _)
      have b7 : Below w.heap.size w (W6.putObj D (.deferred none)) := b6.grown (grownBy_putObj' W6 D _) b6.size (fun k e => by cases e; omega)
      have K1 := Aside0.mk k1
      have E2 := Aside0.mk ((World.putObj_heap_other (by omega)).trans e2 : (W6.putObj D (.deferred none)).heap[w.heap.size]? = _)
      have E3 := Aside0.mk ((World.putObj_heap_other (by omega)).trans e3 : (W6.putObj D (.deferred none)).heap[w.heap.size + 1]? = _)
      have B7 := Aside0.mk b7
      rw [hW6]
      clear hW6 k1 e2 e3 b6 b7 d2 d3 g2 g3
      gi_wp2
      refine ⟨by simp, .inl ⟨_, _, rfl, run_takeDeferred K1.out, ?_⟩⟩
      refine ⟨.tuple #[.int .i64 (sumP (l.map wtA)).1, .int .i64 (sumP (l.map wtA)).2, .int .i64 0], ?_, ?_, B7.out⟩
      · have r2 := (blk_cell E2.out 0).trans (show _ = some _ from rfl)
        have r3 := (blk_cell E3.out 0).trans (show _ = some _ from rfl)
        have hr : Try.f76.results = #[.cell 2 3, .cell 3 3, .tmp 4] := rfl
        have hu := Try.underlying3
        simp [results, hr, go_sem, r2, r3, hu, loadVar]
      · rw [HV.out]
    case stop =>
      rintro D cc pre W _ _ h _
      exact h.elim
  · have b0 : (attV l != 0) = true := by simp [ha]
    have HV := Aside0.mk (show sumsV l = (0, 0, attV l) by unfold sumsV; rw [if_neg ha])
    clear ha
    gi_wp2
    refine ⟨.tuple #[.int .i64 0, .int .i64 0, .int .i64 (attV l)], ?_, ?_, ?_⟩
    · have e2 := set_far (set_own Z2.out (.int .i64 0)) (show w.heap.size ≠ w.heap.size + 1 by omega) (.int .i64 0)
      have e3 := set_own (set_far Z3.out (show w.heap.size + 1 ≠ w.heap.size by omega) (.int .i64 0)) (.int .i64 0)
      have r2 := (blk_cell e2 0).trans (show _ = some _ from rfl)
      have r3 := (blk_cell e3 0).trans (show _ = some _ from rfl)
      have hr : Try.f76.results = #[.cell 2 3, .cell 3 3, .tmp 4] := rfl
      have hu := Try.underlying3
      simp [results, hr, go_sem, r2, r3, hu, loadVar]
    · rw [HV.out]
    · exact (HB4.out.setCell (p := ⟨w.heap.size, 0, none⟩) (Nat.le_refl _) _).setCell (p := ⟨w.heap.size + 1, 0, none⟩) (by simp) _
theorem average_Sums.calls (A1 : Option Addr) (c1 : Nat) (l1 : List S44) (r1 r2 r3 : Int) (w : World) (hr1 : Kd.C k44 w A1 l1.length l1) (hc1 : l1.length ≤ c1) (h : average_Sums.f l1 = some (r1, r2, r3)) :
    Calls Try.prog 76 #[.slice A1 l1.length c1] w fun e w' => e = .returned (.tuple #[.int .i64 r1, .int .i64 r2, .int .i64 r3]) ∧ Below w.heap.size w w' := by
  have e := Option.some.inj h
  have := callsIn_wide.1 (sums_in A1 c1 l1 w hr1 hc1)
  rw [e] at this
  exact this
end Go.Proofs.Ytadeidhefjifaaa.Px
end
section
namespace Go.Proofs.Ytadeidhefjifaaa.Px
noncomputable section
open Go.RowKit Go.Proofs.YtadeidhefjifaaaW.PrintWords Go.Proofs.YtadeidhefjifaaaW.PrintLast Go.Proofs.YtadeidhefjifaaaW.PrintMore
attribute [local go_sem] max2_int min2_int max_two min_two max_three min_three max_four min_four   -- for this text's walks alone
set_option linter.unusedVariables false
set_option linter.unusedSimpArgs false
def proof_asked.f (a0_0 : ByteArray) (a0_1 : Int) (a0_2 : Int) (a0_3 : Int) (a0_4 : Int) (a0_5 : Int) (l0_6 : List (S92)) (l1 : List (S44)) : Option (Int) := (degree_Check.f a0_0 a0_1 a0_2 a0_3 a0_4 a0_5 l0_6).bind fun t275 => (if t275 = 0 then ((average_Sums.f l1).bind fun bt276 => (some bt276.2.2)) else (some t275))
set_option maxHeartbeats 8000000 in
set_option maxRecDepth 100000 in
theorem proof_asked.calls (a0_0 : ByteArray) (a0_1 : Int) (a0_2 : Int) (a0_3 : Int) (a0_4 : Int) (a0_5 : Int) (A0_6 : Option Addr) (c0_6 : Nat) (l0_6 : List (S92)) (A1 : Option Addr) (c1 : Nat) (l1 : List (S44)) (r : Int) (w : World) (hr0_6 : Kd.C k92 w A0_6 l0_6.length l0_6) (hc0_6 : l0_6.length ≤ c0_6) (hr1 : Kd.C k44 w A1 l1.length l1) (hc1 : l1.length ≤ c1) (h : proof_asked.f a0_0 a0_1 a0_2 a0_3 a0_4 a0_5 l0_6 l1 = some r) :
    Calls Try.prog 64 #[.agg #[.string a0_0, .int .i64 a0_1, .int .i64 a0_2, .int .i64 a0_3, .int .i64 a0_4, .int .i64 a0_5, .slice A0_6 l0_6.length c0_6], .slice A1 l1.length c1] w fun e w' => e = .returned (.int .i64 r) ∧ Below w.heap.size w w' := by
  have hu41 := Try.underlying41
  have HR0_6 := Aside0.mk hr0_6
  have HC0_6 := Aside0.mk hc0_6
  clear hr0_6 hc0_6
  have HR1 := Aside0.mk hr1
  have HC1 := Aside0.mk hc1
  clear hr1 hc1
  have HB := Aside0.mk (Below.refl w.heap.size w)
  have H : ((degree_Check.f a0_0 a0_1 a0_2 a0_3 a0_4 a0_5 l0_6).bind fun t275 => (if t275 = 0 then ((average_Sums.f l1).bind fun bt276 => (some bt276.2.2)) else (some t275))) = some r := h
  clear h
  replace H := Option.bind_eq_some_iff.mp H
  obtain ⟨t275, A30, H⟩ := H
  replace H : (if t275 = 0 then ((average_Sums.f l1).bind fun bt276 => (some bt276.2.2)) else (some t275)) = some r := H
  have A3 := Aside0.mk A30
  clear A30
  by_cases c4 : t275 = 0
  · rw [if_pos c4] at H
    have c4b0 : (t275 == 0) = true := beq_iff_eq.mpr c4
    have c4b1 : (t275 != 0) = false := bne_eq_false_iff_eq.mpr c4
    clear c4
    replace H := Option.bind_eq_some_iff.mp H
    obtain ⟨⟨t276, t277, t278⟩, A50, H⟩ := H
    replace H : (some t278) = some r := H
    have A5 := Aside0.mk A50
    clear A50
    obtain rfl := Option.some.inj H
    go_enter Try.func64, Try.ntmps64
    go_wp2_with (first | ((with_reducible refine gate_dst (N := 2) rfl ?_); refine box_event ?hg (N := 2) ?hd (cs := #[.string a0_0, .int .i64 a0_1, .int .i64 a0_2, .int .i64 a0_3, .int .i64 a0_4, .int .i64 a0_5, .slice A0_6 l0_6.length c0_6]) (t := 41) ?hr ?_; (case hd => rfl); (case hg => rfl); (case hr => first | (go_simp; done) | (go_simp; rfl)); intro gb274 hg w6 hbox hb; have n0_ := Aside0.mk (below_step (by repeat (first | (with_reducible first | exact HB.out | apply below_alloc | apply pw_below_drewN | apply below_drew1) | exact HB.out)) hb); have n1_ := Aside0.mk (hbox); have n2_ := Aside0.mk ((by rw [hg]; exact (below_size (by repeat (first | (with_reducible first | exact HB.out | apply below_alloc | apply pw_below_drewN | apply below_drew1) | exact HB.out))) : w.heap.size ≤ gb274)); have n3_ := Aside0.mk ((by rw [hg]; exact (below_size (by repeat (first | (with_reducible first | exact HB.out | apply below_alloc | apply pw_below_drewN | apply below_drew1) | exact HB.out))) : w.heap.size ≤ gb274)); clear HB; have HB := n0_; have BK274 := n1_; have GW274 := n2_; have GE274 := n3_; clear n0_ n1_ n2_ n3_; clear hb hbox hg; have hcz7_0 : w6.cell? ⟨gb274, 0, none⟩ = some (.string a0_0) := (blk_cell BK274.out 0).trans rfl; have hcz7_1 : w6.cell? ⟨gb274, 1, none⟩ = some (.int .i64 a0_1) := (blk_cell BK274.out 1).trans rfl; have hcz7_2 : w6.cell? ⟨gb274, 2, none⟩ = some (.int .i64 a0_2) := (blk_cell BK274.out 2).trans rfl; have hcz7_3 : w6.cell? ⟨gb274, 3, none⟩ = some (.int .i64 a0_3) := (blk_cell BK274.out 3).trans rfl; have hcz7_4 : w6.cell? ⟨gb274, 4, none⟩ = some (.int .i64 a0_4) := (blk_cell BK274.out 4).trans rfl; have hcz7_5 : w6.cell? ⟨gb274, 5, none⟩ = some (.int .i64 a0_5) := (blk_cell BK274.out 5).trans rfl; have hcz7_6 : w6.cell? ⟨gb274, 6, none⟩ = some (.slice A0_6 l0_6.length c0_6) := (blk_cell BK274.out 6).trans rfl; have hfz7_0 := blk_frozen BK274.out 0; have hfz7_1 := blk_frozen BK274.out 1; have hfz7_2 := blk_frozen BK274.out 2; have hfz7_3 := blk_frozen BK274.out 3; have hfz7_4 := blk_frozen BK274.out 4; have hfz7_5 := blk_frozen BK274.out 5; have hfz7_6 := blk_frozen BK274.out 6) | ((with_reducible refine gate_callee (f := 66) rfl ?_); refine goesL_ (some 6) rfl rfl Try.func66 (by kernel_rfl) rfl #[.agg #[.string a0_0, .int .i64 a0_1, .int .i64 a0_2, .int .i64 a0_3, .int .i64 a0_4, .int .i64 a0_5, .slice A0_6 l0_6.length c0_6]] rfl (by (try simp only [List.map_toArray, List.map_cons, List.map_nil]); first | done | rfl | (simp only [List.length_drop, List.length_take]; rfl)) ?_; (with_reducible refine (degree_Check.calls a0_0 a0_1 a0_2 a0_3 a0_4 a0_5 _ _ l0_6 t275 _ ?side1 ?side2 A3.out).mono ?_); (case side1 => repeat (first | exact (Kd.C_below HR0_6.out HB.out) | (with_reducible refine Kd.C_alloc ?_ _) | (with_reducible refine Kd.C_drewN ?_ _) | (with_reducible refine Kd.C_drew ?_))); (case side2 => exact HC0_6.out); rintro e w8 ⟨rfl, hb⟩; refine ⟨_, rfl, ?_⟩; have n0_ := Aside0.mk (blk_below (g := gb274) (o := .cells #[.string a0_0, .int .i64 a0_1, .int .i64 a0_2, .int .i64 a0_3, .int .i64 a0_4, .int .i64 a0_5, .slice A0_6 l0_6.length c0_6] 41 (0, 0)) (by (with_reducible repeat (first | refine blk_drewN ?_ _ | refine blk_drew ?_ | refine blk_alloc ?_ _)); exact BK274.out) hb); have n1_ := Aside0.mk (below_step (by repeat (first | (with_reducible first | exact HB.out | apply below_alloc | apply pw_below_drewN | apply below_drew1 | refine below_set ?_ GE274.out) | exact HB.out)) hb); clear BK274; clear HB; have BK274 := n0_; have HB := n1_; clear n0_ n1_; (try clear hb); (try clear hb2); (try clear hk); (try clear hi)) | ((with_reducible refine gate_callee (f := 76) rfl ?_); refine goesL_ (some 12) rfl rfl Try.func76 (by kernel_rfl) rfl #[.slice A1 l1.length c1] rfl (by (try simp only [List.map_toArray, List.map_cons, List.map_nil]); first | done | rfl | (simp only [List.length_drop, List.length_take]; rfl)) ?_; (with_reducible refine (average_Sums.calls _ _ l1 t276 t277 t278 _ ?side1 ?side2 A5.out).mono ?_); (case side1 => repeat (first | exact (Kd.C_below HR1.out HB.out) | (with_reducible refine Kd.C_alloc ?_ _) | (with_reducible refine Kd.C_drewN ?_ _) | (with_reducible refine Kd.C_drew ?_))); (case side2 => exact HC1.out); rintro e w9 ⟨rfl, hb⟩; refine ⟨_, rfl, ?_⟩; have n0_ := Aside0.mk (blk_below (g := gb274) (o := .cells #[.string a0_0, .int .i64 a0_1, .int .i64 a0_2, .int .i64 a0_3, .int .i64 a0_4, .int .i64 a0_5, .slice A0_6 l0_6.length c0_6] 41 (0, 0)) (by (with_reducible repeat (first | refine blk_drewN ?_ _ | refine blk_drew ?_ | refine blk_alloc ?_ _)); exact BK274.out) hb); have n1_ := Aside0.mk (below_step (by repeat (first | (with_reducible first | exact HB.out | apply below_alloc | apply pw_below_drewN | apply below_drew1 | refine below_set ?_ GE274.out) | exact HB.out)) hb); clear BK274; clear HB; have BK274 := n0_; have HB := n1_; clear n0_ n1_; (try clear hb); (try clear hb2); (try clear hk); (try clear hi)))
    go_ret
    exact ⟨by first | rfl | (simp [errW_none, errW_some] <;> rfl) | (simp [*, errW_none, errW_some] <;> rfl), by repeat (first | (with_reducible first | exact HB.out | apply below_alloc | apply pw_below_drewN | apply below_drew1 | refine below_set ?_ GE274.out) | exact HB.out)⟩
  · rw [if_neg c4] at H
    have c4b0 : (t275 == 0) = false := beq_eq_false_iff_ne.mpr c4
    have c4b1 : (t275 != 0) = true := bne_iff_ne.mpr c4
    obtain rfl := Option.some.inj H
    go_enter Try.func64, Try.ntmps64
    go_wp2_with (first | ((with_reducible refine gate_dst (N := 2) rfl ?_); refine box_event ?hg (N := 2) ?hd (cs := #[.string a0_0, .int .i64 a0_1, .int .i64 a0_2, .int .i64 a0_3, .int .i64 a0_4, .int .i64 a0_5, .slice A0_6 l0_6.length c0_6]) (t := 41) ?hr ?_; (case hd => rfl); (case hg => rfl); (case hr => first | (go_simp; done) | (go_simp; rfl)); intro gb274 hg w10 hbox hb; have n0_ := Aside0.mk (below_step (by repeat (first | (with_reducible first | exact HB.out | apply below_alloc | apply pw_below_drewN | apply below_drew1) | exact HB.out)) hb); have n1_ := Aside0.mk (hbox); have n2_ := Aside0.mk ((by rw [hg]; exact (below_size (by repeat (first | (with_reducible first | exact HB.out | apply below_alloc | apply pw_below_drewN | apply below_drew1) | exact HB.out))) : w.heap.size ≤ gb274)); have n3_ := Aside0.mk ((by rw [hg]; exact (below_size (by repeat (first | (with_reducible first | exact HB.out | apply below_alloc | apply pw_below_drewN | apply below_drew1) | exact HB.out))) : w.heap.size ≤ gb274)); clear HB; have HB := n0_; have BK274 := n1_; have GW274 := n2_; have GE274 := n3_; clear n0_ n1_ n2_ n3_; clear hb hbox hg; have hcz11_0 : w10.cell? ⟨gb274, 0, none⟩ = some (.string a0_0) := (blk_cell BK274.out 0).trans rfl; have hcz11_1 : w10.cell? ⟨gb274, 1, none⟩ = some (.int .i64 a0_1) := (blk_cell BK274.out 1).trans rfl; have hcz11_2 : w10.cell? ⟨gb274, 2, none⟩ = some (.int .i64 a0_2) := (blk_cell BK274.out 2).trans rfl; have hcz11_3 : w10.cell? ⟨gb274, 3, none⟩ = some (.int .i64 a0_3) := (blk_cell BK274.out 3).trans rfl; have hcz11_4 : w10.cell? ⟨gb274, 4, none⟩ = some (.int .i64 a0_4) := (blk_cell BK274.out 4).trans rfl; have hcz11_5 : w10.cell? ⟨gb274, 5, none⟩ = some (.int .i64 a0_5) := (blk_cell BK274.out 5).trans rfl; have hcz11_6 : w10.cell? ⟨gb274, 6, none⟩ = some (.slice A0_6 l0_6.length c0_6) := (blk_cell BK274.out 6).trans rfl; have hfz11_0 := blk_frozen BK274.out 0; have hfz11_1 := blk_frozen BK274.out 1; have hfz11_2 := blk_frozen BK274.out 2; have hfz11_3 := blk_frozen BK274.out 3; have hfz11_4 := blk_frozen BK274.out 4; have hfz11_5 := blk_frozen BK274.out 5; have hfz11_6 := blk_frozen BK274.out 6) | ((with_reducible refine gate_callee (f := 66) rfl ?_); refine goesL_ (some 6) rfl rfl Try.func66 (by kernel_rfl) rfl #[.agg #[.string a0_0, .int .i64 a0_1, .int .i64 a0_2, .int .i64 a0_3, .int .i64 a0_4, .int .i64 a0_5, .slice A0_6 l0_6.length c0_6]] rfl (by (try simp only [List.map_toArray, List.map_cons, List.map_nil]); first | done | rfl | (simp only [List.length_drop, List.length_take]; rfl)) ?_; (with_reducible refine (degree_Check.calls a0_0 a0_1 a0_2 a0_3 a0_4 a0_5 _ _ l0_6 t275 _ ?side1 ?side2 A3.out).mono ?_); (case side1 => repeat (first | exact (Kd.C_below HR0_6.out HB.out) | (with_reducible refine Kd.C_alloc ?_ _) | (with_reducible refine Kd.C_drewN ?_ _) | (with_reducible refine Kd.C_drew ?_))); (case side2 => exact HC0_6.out); rintro e w12 ⟨rfl, hb⟩; refine ⟨_, rfl, ?_⟩; have n0_ := Aside0.mk (blk_below (g := gb274) (o := .cells #[.string a0_0, .int .i64 a0_1, .int .i64 a0_2, .int .i64 a0_3, .int .i64 a0_4, .int .i64 a0_5, .slice A0_6 l0_6.length c0_6] 41 (0, 0)) (by (with_reducible repeat (first | refine blk_drewN ?_ _ | refine blk_drew ?_ | refine blk_alloc ?_ _)); exact BK274.out) hb); have n1_ := Aside0.mk (below_step (by repeat (first | (with_reducible first | exact HB.out | apply below_alloc | apply pw_below_drewN | apply below_drew1 | refine below_set ?_ GE274.out) | exact HB.out)) hb); clear BK274; clear HB; have BK274 := n0_; have HB := n1_; clear n0_ n1_; (try clear hb); (try clear hb2); (try clear hk); (try clear hi)))
    go_ret
    exact ⟨by first | rfl | (simp [errW_none, errW_some] <;> rfl) | (simp [*, errW_none, errW_some] <;> rfl), by repeat (first | (with_reducible first | exact HB.out | apply below_alloc | apply pw_below_drewN | apply below_drew1 | refine below_set ?_ GE274.out) | exact HB.out)⟩
end
end Go.Proofs.Ytadeidhefjifaaa.Px
end
section
set_option linter.unusedVariables false
set_option linter.unusedSimpArgs false
namespace Go.Proofs.Ytadeidhefjifaaa.Px
open Go.RowKit Go.Maps Go.Proofs.YtadeidhefjifaaaW.PrintWords Go.Proofs.YtadeidhefjifaaaW.PrintLast Go.Proofs.YtadeidhefjifaaaW.PrintMore
theorem key3 : Keyed Try.prog 3 := int_keyed Try.underlying3
theorem zero3 (w : World) : (zeroValue 3).run Try.prog w = .ok (.int .i64 0) w := by kernel_rfl
/-- block b is a map of at most k entries that says what m says -/
def MapIs (W : World) (b k : Nat) (m : Int → Int) : Prop := ∃ D : DataW Unit, W.ownsMap Try.prog 3 (plainElem Try.prog 3) b k D ∧ IsMap D ∧ ∀ x : Int, D.atKey (.int .i64 x) (.lit (.int .i64 0)) = .lit (.int .i64 (m x))
theorem MapIs.made (W : World) : MapIs (W.alloc (.map #[] 0)) W.heap.size 0 (fun _ => 0) := ⟨.map [], World.ownsMap_made _ _ _ _, ⟨[], rfl⟩, fun _ => rfl⟩
theorem MapIs.kept {W W' : World} {b k : Nat} {m : Int → Int} {row : Option Nat} (h : MapIs W b k m) (hg : W.grownBy W' row) (hne : some b ≠ row) : MapIs W' b k m := by
  obtain ⟨D, h1, h2⟩ := h; exact ⟨D, h1.kept hg hne, h2⟩
theorem MapIs.lt {W : World} {b k : Nat} {m : Int → Int} (h : MapIs W b k m) : b < W.heap.size := by obtain ⟨D, h1, _⟩ := h; exact h1.lt
theorem MapIs.below {W W' : World} {b k : Nat} {m : Int → Int} (h : MapIs W b k m) (hb : Below W.heap.size W W') : MapIs W' b k m := by
  obtain ⟨D, ⟨es, clock, h1, h2⟩, h3⟩ := h
  exact ⟨D, ⟨es, clock, (hb.block b (Array.getElem?_eq_some_iff.1 h1).1).trans h1, h2⟩, h3⟩
/-- a map's entry, one added -/
def updM (m : Int → Int) (x v : Int) : Int → Int := fun y => if y = x then v else m y
theorem MapIs.put {W' : World} {b n : Nat} {m : Int → Int} {D : DataW Unit} (x v : Int) (hD : IsMap D) (hat : ∀ x : Int, D.atKey (.int .i64 x) (.lit (.int .i64 0)) = .lit (.int .i64 (m x)))
    (h : W'.ownsMap Try.prog 3 (plainElem Try.prog 3) b n (D.put (.int .i64 x) (.lit (.int .i64 v)))) : MapIs W' b n (updM m x v) := by
  refine ⟨_, h, ?_, fun y => ?_⟩
  · obtain ⟨es, rfl⟩ := hD; exact ⟨_, rfl⟩
  · unfold updM
    by_cases e : y = x
    · subst e; rw [if_pos rfl]; exact atKey_put_same hD (show WideAt.IsKeyLit (.int .i64 y) from True.intro) _ _
    · rw [if_neg e, atKey_put_other (by simp [e]) _ _]; exact hat y
section
variable {ops : Array Oper} {rest : List Oper} {o : Oper} {a : Act} {Q : Exit → Act → World → Prop} {w : World} {mo xo vo : Operand} {b k : Nat} {mm : Int → Int}
/-- a store into such a map -/
theorem upd_own (hg : o.guard = none) (hop : o.op = Op.mapUpdate 102 mo xo vo) (hM : MapIs w b k mm) (hk : k < maxLen) (x v : Int) (hm : a.eval mo = .map (some b)) (hx : a.eval xo = .int .i64 x) (hv : a.eval vo = .int .i64 v)
    (wx : (Lit.int .i64 x).wf = true) (wv : (Lit.int .i64 v).wf = true) (hK : ∀ w', MapIs w' b (k + 1) (updM mm x v) → w.grownBy w' (some b) → wpList Try.prog ops Q rest (a.put o.dst undef) w') : wpList Try.prog ops Q (o :: rest) a w := by
  obtain ⟨D, h1, h2, h3⟩ := hM
  exact wpList_mapUpdate_own w hg mo xo vo 102 hop 3 3 key3 Try.underlying102 (plainElem Try.prog 3) b k D hm h1 hk (.int .i64 x) (.int .i64 v) (.int .i64 x) hx hv (keyOf_int_mk Try.underlying3 wx) (.lit (.int .i64 v)) [] (plainElem_int Try.underlying3 wv)
    (fun w' h4 hg' => hK w' (MapIs.put x v h2 h3 h4) hg')
/-- a look-up in it -/
theorem look_own (hg : o.guard = none) (hop : o.op = Op.lookup 102 mo xo false) (hM : MapIs w b k mm) (x : Int) (hm : a.eval mo = .map (some b)) (hx : a.eval xo = .int .i64 x) (wx : (Lit.int .i64 x).wf = true)
    (hK : wpList Try.prog ops Q rest (a.put o.dst (.int .i64 (mm x))) w) : wpList Try.prog ops Q (o :: rest) a w := by
  obtain ⟨D, h1, h2, h3⟩ := hM
  refine wpList_lookup_own_int w hg mo xo 102 hop 3 3 .i64 key3 Try.underlying102 Try.underlying3 (zero3 _) b k D hm h1 (.int .i64 x) (.int .i64 x) hx (keyOf_int_mk Try.underlying3 wx) ?_
  intro c hat _
  rw [h3] at hat
  cases hat
  exact hK
end
/-- what the loop keeps -/
structure AS (w : World) (pv : Array Value) (b1 b2 k k' : Nat) (m1 m2 : Int → Int) (W : World) : Prop where
  below : Below w.heap.size w W
  box : W.heap[w.heap.size]? = some (.cells pv 41 (0, 0))
  mp1 : MapIs W b1 k m1
  mp2 : MapIs W b2 k' m2
  l1 : w.heap.size < b1
  l2 : b1 < b2
theorem AS.after {w W W' : World} {pv : Array Value} {b1 b2 k k' : Nat} {m1 m2 : Int → Int} (h : AS w pv b1 b2 k k' m1 m2 W) (hb : Below W.heap.size W W') : AS w pv b1 b2 k k' m1 m2 W' :=
  ⟨h.below.trans (hb.mono h.below.size), (hb.block _ (Array.getElem?_eq_some_iff.1 h.box).1).trans h.box, h.mp1.below hb, h.mp2.below hb, h.l1, h.l2⟩
theorem AS.put1 {w W W' : World} {pv : Array Value} {b1 b2 k k' : Nat} {m1 m2 m : Int → Int} (h : AS w pv b1 b2 k k' m1 m2 W) (hg : W.grownBy W' (some b1)) (hm : MapIs W' b1 (k + 1) m) : AS w pv b1 b2 (k + 1) k' m m2 W' :=
  ⟨h.below.grown hg h.below.size (fun j e => by cases e; have := h.l1; omega), (hg.block _ (Array.getElem?_eq_some_iff.1 h.box).1 (fun e => by have := h.l1; cases e; omega)).trans h.box, hm,
    h.mp2.kept hg (fun e => by have := h.l2; cases e; omega), h.l1, h.l2⟩
theorem AS.put2 {w W W' : World} {pv : Array Value} {b1 b2 k k' : Nat} {m1 m2 m : Int → Int} (h : AS w pv b1 b2 k k' m1 m2 W) (hg : W.grownBy W' (some b2)) (hm : MapIs W' b2 (k' + 1) m) : AS w pv b1 b2 k (k' + 1) m1 m W' :=
  ⟨h.below.grown hg h.below.size (fun j e => by cases e; have := h.l1; have := h.l2; omega), (hg.block _ (Array.getElem?_eq_some_iff.1 h.box).1 (fun e => by have := h.l1; have := h.l2; cases e; omega)).trans h.box,
    h.mp1.kept hg (fun e => by have := h.l2; cases e; omega), hm, h.l1, h.l2⟩
/-- the boxes of a round: a use, an attempt, a requirement -/
structure AB (g ga gq : Nat) (uv av qv : Array Value) (W : World) : Prop where
  u : W.heap[g]? = some (.cells uv 57 (0, 0))
  a : W.heap[ga]? = some (.cells av 44 (0, 0))
  q : W.heap[gq]? = some (.cells qv 92 (0, 0))
theorem AB.after {g ga gq : Nat} {uv av qv : Array Value} {W W' : World} (h : AB g ga gq uv av qv W) (hb : Below W.heap.size W W') : AB g ga gq uv av qv W' :=
  ⟨(hb.block _ (Array.getElem?_eq_some_iff.1 h.u).1).trans h.u, (hb.block _ (Array.getElem?_eq_some_iff.1 h.a).1).trans h.a, (hb.block _ (Array.getElem?_eq_some_iff.1 h.q).1).trans h.q⟩
theorem MapIs.ne {W : World} {b k g : Nat} {m : Int → Int} {cs : Array Value} {t : TypeId} (h : MapIs W b k m) (hg : W.heap[g]? = some (.cells cs t (0, 0))) : some g ≠ some b := fun e => by
  obtain ⟨D, ⟨es, clock, h1, _⟩, _⟩ := h
  cases e; rw [h1] at hg; cases hg
theorem AB.put {g ga gq b k : Nat} {uv av qv : Array Value} {W W' : World} {m : Int → Int} (h : AB g ga gq uv av qv W) (hm : MapIs W b k m) (hg : W.grownBy W' (some b)) : AB g ga gq uv av qv W' :=
  ⟨(hg.block _ (Array.getElem?_eq_some_iff.1 h.u).1 (hm.ne h.u)).trans h.u, (hg.block _ (Array.getElem?_eq_some_iff.1 h.a).1 (hm.ne h.a)).trans h.a, (hg.block _ (Array.getElem?_eq_some_iff.1 h.q).1 (hm.ne h.q)).trans h.q⟩
/-- the error of a programme, or of attempts -/
def askV (n u e mn md : Int) (q : List S92) (l : List S44) : Int := if degV n u e mn md q = 0 then attV l else degV n u e mn md q
theorem ask_eq (s : ByteArray) (n u e mn md : Int) (q : List S92) (l : List S44) : proof_asked.f s n u e mn md q l = some (askV n u e mn md q l) := by
  simp only [proof_asked.f, degree_Check.f, average_Sums.f, Option.bind_some, askV]
  split
  · simp only [sumsV]; split
    · rename_i h; simp [h]
    · rfl
  · rfl
/-- does a use name an attempt and a requirement -/
def useIn (q : List S92) (l : List S44) (u : S57) : Bool := decide (0 ≤ u.f0) && decide (u.f0 < l.length) && decide (0 ≤ u.f1) && decide (u.f1 < q.length)
/-- does a use stand behind the one before it -/
def useAft (pr : Option S57) (u : S57) : Bool := match pr with
  | none => true
  | some v => !(decide (u.f0 < v.f0) || (v.f0 == u.f0 && decide (u.f1 ≤ v.f1)))
/-- does a use take credits that it may take -/
def useFit (q : List S92) (l : List S44) (u : S57) : Bool := decide (1 ≤ u.f2) && decide (u.f2 ≤ (rd_T44 l u.f0).f4) && eligB (rd_T92 q u.f1) (rd_T44 l u.f0)
/-- the rest of the uses, behind some -/
def alGo (q : List S92) (l : List S44) (pu : Int) : Option S57 → (Int → Int) → (Int → Int) → List S57 → Bool
  | _, _, _, [] => true
  | pr, m1, m2, u :: us => useIn q l u && (useAft pr u && (useFit q l u &&
      (decide (wrap64 (m1 u.f0 + u.f2) ≤ wrap64 ((rd_T44 l u.f0).f4 * pu)) && (decide (wrap64 (m2 u.f1 + u.f2) ≤ (rd_T92 q u.f1).f1) &&
        alGo q l pu (some u) (updM m1 u.f0 (wrap64 (m1 u.f0 + u.f2))) (updM m2 u.f1 (wrap64 (m2 u.f1 + u.f2))) us))))
/-- proof.Allowed's answer -/
def alV (n u e mn md : Int) (q : List S92) (l : List S44) (us : List S57) : Int :=
  if askV n u e mn md q l = 0 then (if alGo q l u none (fun _ => 0) (fun _ => 0) us = true then 0 else 200) else askV n u e mn md q l
def proof_Allowed.f (a0_0 : ByteArray) (a0_1 a0_2 a0_3 a0_4 a0_5 : Int) (l0_6 : List S92) (l1 : List S44) (l2 : List S57) : Option Int := some (alV a0_1 a0_2 a0_3 a0_4 a0_5 l0_6 l1 l2)
end Go.Proofs.Ytadeidhefjifaaa.Px
end
section
set_option linter.unusedVariables false
set_option linter.unusedSimpArgs false
namespace Go.Proofs.Ytadeidhefjifaaa.Px
open Go.RowKit Go.Maps Go.Proofs.YtadeidhefjifaaaW.PrintWords Go.Proofs.YtadeidhefjifaaaW.PrintLast Go.Proofs.YtadeidhefjifaaaW.PrintMore
set_option maxHeartbeats 4000000 in
set_option maxRecDepth 100000 in
theorem proof_Allowed.calls (a0_0 : ByteArray) (a0_1 a0_2 a0_3 a0_4 a0_5 : Int) (A0_6 : Option Addr) (c0_6 : Nat) (l0_6 : List S92) (A1 : Option Addr) (c1 : Nat) (l1 : List S44) (A2 : Option Addr) (c2 : Nat) (l2 : List S57) (r : Int) (w : World)
    (hr0_6 : Kd.C k92 w A0_6 l0_6.length l0_6) (hc0_6 : l0_6.length ≤ c0_6) (hr1 : Kd.C k44 w A1 l1.length l1) (hc1 : l1.length ≤ c1) (hr2 : Kd.C k57 w A2 l2.length l2) (hc2 : l2.length ≤ c2) (h : proof_Allowed.f a0_0 a0_1 a0_2 a0_3 a0_4 a0_5 l0_6 l1 l2 = some r) :
    Calls Try.prog 33 #[.agg #[.string a0_0, .int .i64 a0_1, .int .i64 a0_2, .int .i64 a0_3, .int .i64 a0_4, .int .i64 a0_5, .slice A0_6 l0_6.length c0_6], .slice A1 l1.length c1, .slice A2 l2.length c2] w fun e w' => e = .returned (.int .i64 r) ∧ Below w.heap.size w w' := by
  obtain rfl := Option.some.inj h
  clear h
  have hu41 := Try.underlying41
  have hu92 := Try.underlying92
  have hu44 := Try.underlying44
  have hu57 := Try.underlying57
  have hmm := @run_makeMap Try.prog
  have hm0 : (l0_6.length : Int) ≤ 9223372036854775807 := by have := hr0_6.2.1; omega
  have hm1 : (l1.length : Int) ≤ 9223372036854775807 := by have := hr1.2.1; omega
  have hm2 : (l2.length : Int) ≤ 9223372036854775807 := by have := hr2.2.1; omega
  have HM := Aside0.mk hr2.2.1
  have HB := Aside0.mk (show ∀ o, Below w.heap.size w (w.alloc o) from fun o => below_alloc (Below.refl _ _) o)
  have HR0 := Aside0.mk hr0_6
  have HR1 := Aside0.mk hr1
  have HR2 := Aside0.mk hr2
  have HASK := Aside0.mk (show ∀ o, Calls Try.prog 64 #[.agg #[.string a0_0, .int .i64 a0_1, .int .i64 a0_2, .int .i64 a0_3, .int .i64 a0_4, .int .i64 a0_5, .slice A0_6 l0_6.length c0_6], .slice A1 l1.length c1] (w.alloc o) fun e w' => e = .returned (.int .i64 (askV a0_1 a0_2 a0_3 a0_4 a0_5 l0_6 l1)) ∧ Below (w.alloc o).heap.size (w.alloc o) w'
    from fun o => proof_asked.calls a0_0 a0_1 a0_2 a0_3 a0_4 a0_5 A0_6 c0_6 l0_6 A1 c1 l1 _ _ (Kd.C_alloc hr0_6 o) hc0_6 (Kd.C_alloc hr1 o) hc1 (ask_eq _ _ _ _ _ _ _ _))
  clear hr0_6 hr1 hr2
  by_cases ha : askV a0_1 a0_2 a0_3 a0_4 a0_5 l0_6 l1 = 0
  case neg =>
    have b0 : (askV a0_1 a0_2 a0_3 a0_4 a0_5 l0_6 l1 != 0) = true := by simp [ha]
    have HV := Aside0.mk (show alV a0_1 a0_2 a0_3 a0_4 a0_5 l0_6 l1 l2 = askV a0_1 a0_2 a0_3 a0_4 a0_5 l0_6 l1 by unfold alV; rw [if_neg ha])
    clear ha
    go_enter Try.func33, Try.ntmps33
    go_wp2_with fail
    refine wp_scope_straight ?_
    go_wp2_with (go_at_call 64; refine (HASK.out _).mono ?_; rintro e w1 ⟨rfl, hb1⟩; have HB1 := Aside0.mk ((HB.out _).trans (hb1.mono (HB.out _).size)); clear hb1)
    rw [Exit.noGoto_ret]
    (try rw [Exit.noGoto_ret])
    go_ret
    exact ⟨by rw [HV.out]; rfl, HB1.out⟩
  have b0 : (askV a0_1 a0_2 a0_3 a0_4 a0_5 l0_6 l1 != 0) = false := by simp [ha]
  have HV := Aside0.mk (show alV a0_1 a0_2 a0_3 a0_4 a0_5 l0_6 l1 l2 = if alGo l0_6 l1 a0_2 none (fun _ => 0) (fun _ => 0) l2 = true then 0 else 200 by unfold alV; rw [if_pos ha])
  clear ha
  go_enter Try.func33, Try.ntmps33
  go_wp2_with fail
  refine wp_scope_straight ?_
  go_wp2_with (go_at_call 64; refine (HASK.out _).mono ?_; rintro e w1 ⟨rfl, hb1⟩; have HK1 := Aside0.mk ((hb1.block w.heap.size (by simp)).trans (heap_alloc_new w _)); have HB1 := Aside0.mk ((HB.out _).trans (hb1.mono (HB.out _).size)); clear hb1)
  refine wp_label ?_
  obtain ⟨b1, hb1⟩ : ∃ b1, w1.heap.size = b1 := ⟨_, rfl⟩
  obtain ⟨pv, hpv⟩ : ∃ pv, #[Value.string a0_0, .int .i64 a0_1, .int .i64 a0_2, .int .i64 a0_3, .int .i64 a0_4, .int .i64 a0_5, .slice A0_6 l0_6.length c0_6] = pv := ⟨_, rfl⟩
  have hlt : w.heap.size < w1.heap.size := (Array.getElem?_eq_some_iff.1 HK1.out).1
  have hS0 : AS w pv b1 (b1 + 1) 0 0 (fun _ => 0) (fun _ => 0) ((w1.alloc (Obj.map #[] 0)).alloc (Obj.map #[] 0)) := by
    subst hb1
    refine ⟨(HB1.out.alloc (Nat.le_of_lt hlt) _).alloc (by simp; omega) _, ?_, ?_, ?_, hlt, Nat.lt_succ_self _⟩
    · rw [← hpv]; exact ((below_alloc (below_alloc (Below.refl _ _) _) _).block _ hlt).trans HK1.out
    · exact (MapIs.made w1).below (below_alloc (Below.refl _ _) _)
    · have := MapIs.made (w1.alloc (Obj.map #[] 0)); simpa using this
  have HS0 := Aside0.mk hS0
  have HPV := Aside0.mk hpv
  rw [hb1]
  clear hS0 hlt HK1 HB1 hpv hb1
  generalize (w1.alloc (Obj.map #[] 0)).alloc (Obj.map #[] 0) = W0 at HS0 ⊢
  go_wp2_with fail
  go_loopw [9, 24] (fun v9 v wr => v9 = .bool false ∧ ∃ (i : Int) (pr : Option S57) (m1 m2 : Int → Int), v = .int .i64 i ∧ 0 ≤ i ∧ i ≤ l2.length ∧ Aside0 (alGo l0_6 l1 a0_2 pr m1 m2 (l2.drop i.toNat) = alGo l0_6 l1 a0_2 none (fun _ => 0) (fun _ => 0) l2) ∧
      Aside0 (pr = if i = 0 then none else some (rd_T57 l2 (i - 1))) ∧ Aside0 (AS w pv b1 (b1 + 1) i.toNat i.toNat m1 m2 wr)) (fun _ v _ => l2.length - (intOf v).toNat)
  case atStart => exact ⟨rfl, 0, none, _, _, rfl, by omega, by omega, ⟨rfl⟩, ⟨rfl⟩, HS0⟩
  case round =>
    obtain ⟨rfl, i, pr, m1, m2, rfl, i0, i1, HI, HP, HS⟩ := hrel
    by_cases hlt : i < l2.length
    case neg =>
      have q0 : decide (i < (l2.length : Int)) = false := decide_eq_false hlt
      have HV2 := Aside0.mk (show alV a0_1 a0_2 a0_3 a0_4 a0_5 l0_6 l1 l2 = 0 by
        have := HI.out
        rw [List.drop_eq_nil_of_le (by omega), alGo] at this
        rw [HV.out, ← this, if_pos rfl])
      go_wp2
      (try rw [Exit.noGoto_ret])
      go_ret
      exact ⟨by rw [HV2.out]; rfl, HS.out.below⟩
    have q0 : decide (i < (l2.length : Int)) = true := decide_eq_true hlt
    have q1 : decide (0 ≤ i) = true := decide_eq_true i0
    obtain ⟨ad, e, x0, x1, x2⟩ := at_T57 (Kd.C_below HR2.out HS.out.below) i i0 hlt
    cases e
    have hI := HI.out
    rw [List.drop_eq_getElem_cons (show i.toNat < l2.length by omega), alGo, show l2[i.toNat]'(by omega) = rd_T57 l2 i by simp [rd_T57, List.getD, show i.toNat < l2.length by omega], show i.toNat + 1 = (i + 1).toNat by omega] at hI
    obtain ⟨u, hu⟩ : ∃ u, rd_T57 l2 i = u := ⟨_, rfl⟩
    rw [hu] at hI x0 x1 x2
    have HI2 := Aside0.mk hI
    have HU := Aside0.mk hu
    have lw : w.heap.size < wr.heap.size := (Array.getElem?_eq_some_iff.1 HS.out.box).1
    have p6 : wr.cell? ⟨w.heap.size, 6, none⟩ = some (.slice A0_6 l0_6.length c0_6) := (blk_cell HS.out.box 6).trans (by rw [← HPV.out]; rfl)
    have p2 : wr.cell? ⟨w.heap.size, 2, none⟩ = some (.int .i64 a0_2) := (blk_cell HS.out.box 2).trans (by rw [← HPV.out]; rfl)
    have HA := Aside0.mk (show ∀ o, AS w pv b1 (b1 + 1) i.toNat i.toNat m1 m2 (wr.alloc o) from fun o => HS.out.after (below_alloc (Below.refl _ _) o))
    clear hI hu HI
    have bad : useIn l0_6 l1 u = false → alV a0_1 a0_2 a0_3 a0_4 a0_5 l0_6 l1 l2 = 200 := fun h => by
      rw [HV.out, ← HI2.out, h]; simp
    have HBAD := Aside0.mk bad
    clear bad
    by_cases h1 : u.f0 < 0
    · have b1' : decide (u.f0 < 0) = true := decide_eq_true h1
      have HV2 := Aside0.mk (HBAD.out (by unfold useIn; rw [decide_eq_false (show ¬ 0 ≤ u.f0 by omega)]; rfl))
      clear h1
      go_wp2
      (try rw [Exit.noGoto_ret])
      go_ret
      exact ⟨by rw [HV2.out]; rfl, (HA.out _).below⟩
    have b1' : decide (u.f0 < 0) = false := decide_eq_false h1
    by_cases h2 : (l1.length : Int) ≤ u.f0
    · have b2' : decide ((l1.length : Int) ≤ u.f0) = true := decide_eq_true h2
      have HV2 := Aside0.mk (HBAD.out (by unfold useIn; rw [decide_eq_false (show ¬ u.f0 < (l1.length : Int) by omega)]; simp))
      clear h1 h2
      go_wp2
      (try rw [Exit.noGoto_ret])
      go_ret
      exact ⟨by rw [HV2.out]; rfl, (HA.out _).below⟩
    have b2' : decide ((l1.length : Int) ≤ u.f0) = false := decide_eq_false h2
    by_cases h3 : u.f1 < 0
    · have b3' : decide (u.f1 < 0) = true := decide_eq_true h3
      have HV2 := Aside0.mk (HBAD.out (by unfold useIn; rw [decide_eq_false (show ¬ 0 ≤ u.f1 by omega)]; simp))
      clear h1 h2 h3
      go_wp2
      (try rw [Exit.noGoto_ret])
      go_ret
      exact ⟨by rw [HV2.out]; rfl, (HA.out _).below⟩
    have b3' : decide (u.f1 < 0) = false := decide_eq_false h3
    by_cases h4 : (l0_6.length : Int) ≤ u.f1
    · have b4' : decide ((l0_6.length : Int) ≤ u.f1) = true := decide_eq_true h4
      have HV2 := Aside0.mk (HBAD.out (by unfold useIn; rw [decide_eq_false (show ¬ u.f1 < (l0_6.length : Int) by omega)]; simp))
      clear h1 h2 h3 h4
      go_wp2
      (try rw [Exit.noGoto_ret])
      go_ret
      exact ⟨by rw [HV2.out]; rfl, (HA.out _).below⟩
    have b4' : decide ((l0_6.length : Int) ≤ u.f1) = false := decide_eq_false h4
    have hin : useIn l0_6 l1 u = true := by unfold useIn; rw [decide_eq_true (show 0 ≤ u.f0 by omega), decide_eq_true (show u.f0 < (l1.length : Int) by omega), decide_eq_true (show 0 ≤ u.f1 by omega), decide_eq_true (show u.f1 < (l0_6.length : Int) by omega)]; simp
    have hI3 := HI2.out
    rw [hin, Bool.true_and] at hI3
    have HI3 := Aside0.mk hI3
    clear hI3
    have HIN := Aside0.mk (show (0 ≤ u.f0 ∧ u.f0 < (l1.length : Int)) ∧ 0 ≤ u.f1 ∧ u.f1 < (l0_6.length : Int) by omega)
    clear h1 h2 h3 h4 hin HI2 HBAD
    go_upto_region 14 with (fail)
    have HA1 := Aside0.mk (HA.out (Obj.cells #[Value.int IntKind.i64 u.f0, Value.int IntKind.i64 u.f1, Value.int IntKind.i64 u.f2] 57))
    have ub : (wr.alloc (Obj.cells #[Value.int IntKind.i64 u.f0, Value.int IntKind.i64 u.f1, Value.int IntKind.i64 u.f2] 57)).heap[wr.heap.size]? = some (.cells #[Value.int IntKind.i64 u.f0, Value.int IntKind.i64 u.f1, Value.int IntKind.i64 u.f2] 57 (0, 0)) := heap_alloc_new _ _
    have HKB := Aside0.mk (Kd.C_below HR2.out (HA.out (Obj.cells #[Value.int IntKind.i64 u.f0, Value.int IntKind.i64 u.f1, Value.int IntKind.i64 u.f2] 57)).below)
    generalize wr.alloc (Obj.cells #[Value.int IntKind.i64 u.f0, Value.int IntKind.i64 u.f1, Value.int IntKind.i64 u.f2] 57) = W1 at HA1 ub HKB ⊢
    obtain ⟨g, hg⟩ : ∃ g, wr.heap.size = g := ⟨_, rfl⟩
    rw [hg] at ub ⊢
    have UB := Aside0.mk ub
    clear HA x0 x1 x2 p6 p2 lw hg b1' b2' b3' b4'
    go_cut [47] (fun v47 wc => v47 = .bool (!useAft pr u) ∧ Aside0 (AS w pv b1 (b1 + 1) i.toNat i.toNat m1 m2 wc) ∧ Aside0 (wc.heap[g]? = some (.cells #[Value.int IntKind.i64 u.f0, Value.int IntKind.i64 u.f1, Value.int IntKind.i64 u.f2] 57 (0, 0))))
    case first =>
      have u0 := (blk_cell ub 0).trans (show _ = some _ from rfl)
      have u1 := (blk_cell ub 1).trans (show _ = some _ from rfl)
      have HAD := Aside0.mk (show ∀ n, AS w pv b1 (b1 + 1) i.toNat i.toNat m1 m2 (W1.drewN n) from fun n => HA1.out.after (pw_below_drewN (Below.refl _ _) n))
      have UBD := Aside0.mk (show ∀ n, (W1.drewN n).heap[g]? = some (.cells #[Value.int IntKind.i64 u.f0, Value.int IntKind.i64 u.f1, Value.int IntKind.i64 u.f2] 57 (0, 0)) from fun n => UB.out)
      clear ub UB HA1
      by_cases hi : 0 < i
      · have c0 : decide (0 < i) = true := decide_eq_true hi
        have cw : IntKind.i64.wrap (i - 1) = i - 1 := by simp [IntKind.wrap, IntKind.bits, IntKind.signed]; omega
        have c1' : (0 ≤ i - 1) = True := eq_true (by omega)
        have c2' : (i - 1 < (l2.length : Int)) = True := eq_true (by omega)
        have c3' : (1 ≤ i) = True := eq_true (by omega)
        have c4' : (i ≤ (l2.length : Int)) = True := eq_true (by omega)
        have c5' : (i < (l2.length : Int) + 1) = True := eq_true (by omega)
        obtain ⟨ad2, e2, y0, y1, y2⟩ := at_T57 HKB.out (i - 1) (by omega) (by omega)
        obtain rfl : ad = ad2 := by injection e2
        obtain ⟨v, hv⟩ : ∃ v, rd_T57 l2 (i - 1) = v := ⟨_, rfl⟩
        have hp := HP.out
        rw [if_neg (by omega), hv] at hp
        rw [hv, show (i - 1).toNat = i.toNat - 1 by omega] at y0 y1 y2
        subst hp
        have HW := Aside0.mk hv
        clear hv e2
        by_cases k1 : u.f0 < v.f0
        · have k1' : decide (u.f0 < v.f0) = true := decide_eq_true k1
          clear k1
          go_quiet (fail)
          go_wp2
          go_meet
          case rel => exact ⟨by simp [useAft, k1'], ⟨HAD.out _⟩, ⟨UBD.out _⟩⟩
        · have k1' : decide (u.f0 < v.f0) = false := decide_eq_false k1
          clear k1
          cases k2 : (v.f0 == u.f0)
          · go_quiet (fail)
            go_wp2
            go_meet
            case rel => exact ⟨by simp [useAft, k1', k2], ⟨HAD.out _⟩, ⟨UBD.out _⟩⟩
          · go_quiet (fail)
            go_wp2
            go_meet
            case rel => exact ⟨by simp [useAft, k1', k2], ⟨HAD.out _⟩, ⟨UBD.out _⟩⟩
      · have c0 : decide (0 < i) = false := decide_eq_false hi
        have hp := HP.out
        rw [if_pos (by omega)] at hp
        subst hp
        go_quiet (fail)
        go_wp2
        go_meet
        case rel => exact ⟨by simp [useAft], ⟨HAD.out _⟩, ⟨UBD.out _⟩⟩
    case rest =>
      clear HA1 ub UB HKB
      obtain ⟨rfl, HA1, UB⟩ := hcut
      cases hA : useAft pr u
      · have HV2 := Aside0.mk (show alV a0_1 a0_2 a0_3 a0_4 a0_5 l0_6 l1 l2 = 200 by rw [HV.out, ← HI3.out, hA]; simp)
        go_wp2
        (try rw [Exit.noGoto_ret])
        go_ret
        exact ⟨by rw [HV2.out]; rfl, HA1.out.below⟩
      have hI4 := HI3.out
      rw [hA, Bool.true_and] at hI4
      have HI4 := Aside0.mk hI4
      have v0 := (blk_cell UB.out 0).trans (show _ = some _ from rfl)
      have v1 := (blk_cell UB.out 1).trans (show _ = some _ from rfl)
      have v2 := (blk_cell UB.out 2).trans (show _ = some _ from rfl)
      have p6 : wc.cell? ⟨w.heap.size, 6, none⟩ = some (.slice A0_6 l0_6.length c0_6) := (blk_cell HA1.out.box 6).trans (by rw [← HPV.out]; rfl)
      have g0 : (0 ≤ u.f0) = True := eq_true HIN.out.1.1
      have g1 : (u.f0 < (l1.length : Int)) = True := eq_true HIN.out.1.2
      have g2 : (0 ≤ u.f1) = True := eq_true HIN.out.2.1
      have g3 : (u.f1 < (l0_6.length : Int)) = True := eq_true HIN.out.2.2
      have lg : g < wc.heap.size := (Array.getElem?_eq_some_iff.1 UB.out).1
      have lw : w.heap.size < wc.heap.size := (Array.getElem?_eq_some_iff.1 HA1.out.box).1
      obtain ⟨ada, ea, xa0, xa1, xa2, xa3, xa4⟩ := at_T44 (Kd.C_below HR1.out HA1.out.below) u.f0 HIN.out.1.1 HIN.out.1.2
      obtain ⟨adq, A4, c4, A5, c5, eq, xq0, xq1, xq2, xq3, xq4, xq5, g4l, g4, g5l, g5⟩ := at_T92 (Kd.C_below HR0.out HA1.out.below) u.f1 HIN.out.2.1 HIN.out.2.2
      have lt_of : ∀ {p : Addr} {v : Value}, wc.cell? p = some v → p.block < wc.heap.size := fun h => by obtain ⟨o, ho, _⟩ := cells_of_cell h; exact (Array.getElem?_eq_some_iff.1 ho).1
      have la1 := lt_of xa0
      have la2 := lt_of xq0
      clear lt_of
      cases ea
      cases eq
      have G5 := Aside0.mk g5
      have G5L := Aside0.mk g5l
      clear g4 g5 g4l g5l hI4
      obtain ⟨a, ha⟩ : ∃ a, rd_T44 l1 u.f0 = a := ⟨_, rfl⟩
      obtain ⟨q, hq⟩ : ∃ q, rd_T92 l0_6 u.f1 = q := ⟨_, rfl⟩
      rw [ha] at xa0 xa1 xa2 xa3 xa4
      rw [hq] at xq0 xq1 xq2 xq3 xq4 xq5 G5 G5L
      have HAQ := Aside0.mk (And.intro ha hq)
      clear ha hq
      go_upto_region 16 with (fail)
      have HAW := Aside0.mk (show ∀ o o', AS w pv b1 (b1 + 1) i.toNat i.toNat m1 m2 (((wc.alloc o).alloc o').drew) ∧ Below wc.heap.size wc (((wc.alloc o).alloc o').drew) from fun o o' => ⟨HA1.out.after (below_drew1 (below_alloc (below_alloc (Below.refl _ _) o) o')), below_drew1 (below_alloc (below_alloc (Below.refl _ _) o) o')⟩)
      have HN0 := Aside0.mk (show ∀ o o', (((wc.alloc o).alloc o').drew).heap[wc.heap.size]? = some o from fun o o' => (Below.heap_alloc _ _ _ (by simp)).trans (heap_alloc_new wc o))
      have HN1 := Aside0.mk (show ∀ o o', (((wc.alloc o).alloc o').drew).heap[wc.heap.size + 1]? = some o' from fun o o' => by have h_ := heap_alloc_new (wc.alloc o) o'; rw [World.size_alloc] at h_; exact h_)
      go_cut [12, 13] (fun v12 v13 wd => ∃ ga gq : Nat, v12 = .pointer (some ⟨ga, 0, none⟩) ∧ v13 = .pointer (some ⟨gq, 0, none⟩) ∧ Aside0 (AS w pv b1 (b1 + 1) i.toNat i.toNat m1 m2 wd) ∧
        Aside0 (AB g ga gq #[.int .i64 u.f0, .int .i64 u.f1, .int .i64 u.f2] #[.int .i64 a.f0, .int .i64 a.f1, .int .i64 a.f2, .int .i64 a.f3, .int .i64 a.f4] #[.string q.f0, .int .i64 q.f1, .int .i64 q.f2, .bool q.f3, .slice A4 q.f4.length c4, .slice A5 q.f5.length c5] wd) ∧
        Aside0 (Kd.C (Kd.int .i64) wd A5 q.f5.length q.f5))
      case first =>
        go_region
        · go_wp2
          go_meet
          case rel => exact ⟨_, _, rfl, rfl, ⟨(HAW.out _ _).1⟩, ⟨⟨((HAW.out _ _).2.block _ lg).trans UB.out, HN0.out _ _, HN1.out _ _⟩⟩, ⟨Kd.C_below G5.out (HAW.out _ _).2⟩⟩
        · go_wp2
          go_meet
          case rel => exact ⟨_, _, rfl, rfl, ⟨(HAW.out _ _).1⟩, ⟨⟨((HAW.out _ _).2.block _ lg).trans UB.out, HN1.out _ _, HN0.out _ _⟩⟩, ⟨Kd.C_below G5.out (HAW.out _ _).2⟩⟩
      case rest =>
        clear HAW HN0 HN1 HA1 UB G5 v0 v1 v2 p6 xa0 xa1 xa2 xa3 xa4 xq0 xq1 xq2 xq3 xq4 xq5 la1 la2 lg lw
        obtain ⟨ga, gq, rfl, rfl, HA1, HBX, G5⟩ := hcut
        have hAQ := HAQ.out
        have hI4 := HI4.out
        rw [hAQ.1, hAQ.2] at hI4
        have HI5 := Aside0.mk hI4
        have bad2 : useFit l0_6 l1 u = false → alV a0_1 a0_2 a0_3 a0_4 a0_5 l0_6 l1 l2 = 200 := fun h => by
          have h_ := HI5.out
          rw [h, Bool.false_and] at h_
          rw [HV.out, ← h_]; simp
        have bad3 : useFit l0_6 l1 u = true → decide (wrap64 (m1 u.f0 + u.f2) ≤ wrap64 (a.f4 * a0_2)) = false → alV a0_1 a0_2 a0_3 a0_4 a0_5 l0_6 l1 l2 = 200 := fun h h' => by
          have h_ := HI5.out
          rw [h, h', Bool.true_and, Bool.false_and] at h_
          rw [HV.out, ← h_]; simp
        have bad4 : useFit l0_6 l1 u = true → decide (wrap64 (m1 u.f0 + u.f2) ≤ wrap64 (a.f4 * a0_2)) = true → decide (wrap64 (m2 u.f1 + u.f2) ≤ q.f1) = false → alV a0_1 a0_2 a0_3 a0_4 a0_5 l0_6 l1 l2 = 200 := fun h h' h'' => by
          have h_ := HI5.out
          rw [h, h', h'', Bool.true_and, Bool.true_and, Bool.false_and] at h_
          rw [HV.out, ← h_]; simp
        have good5 : useFit l0_6 l1 u = true → decide (wrap64 (m1 u.f0 + u.f2) ≤ wrap64 (a.f4 * a0_2)) = true → decide (wrap64 (m2 u.f1 + u.f2) ≤ q.f1) = true → alGo l0_6 l1 a0_2 (some u) (updM m1 u.f0 (wrap64 (m1 u.f0 + u.f2))) (updM m2 u.f1 (wrap64 (m2 u.f1 + u.f2))) (l2.drop (i + 1).toNat) = alGo l0_6 l1 a0_2 none (fun _ => 0) (fun _ => 0) l2 := fun h h' h'' => by
          have h_ := HI5.out
          rw [h, h', h'', Bool.true_and, Bool.true_and, Bool.true_and] at h_
          exact h_
        have fit : useFit l0_6 l1 u = (decide (1 ≤ u.f2) && decide (u.f2 ≤ a.f4) && eligB q a) := by unfold useFit; rw [hAQ.1, hAQ.2]
        rw [fit] at bad2 bad3 bad4 good5
        have BAD2 := Aside0.mk bad2
        have BAD3 := Aside0.mk bad3
        have BAD4 := Aside0.mk bad4
        have GOOD5 := Aside0.mk good5
        clear hAQ hI4 bad2 bad3 bad4 good5 fit HI3 HI4 HI5 g0 g1 g2 g3 hA
        have v2 := (blk_cell HBX.out.u 2).trans (show _ = some _ from rfl)
        have w4 := (blk_cell HBX.out.a 4).trans (show _ = some _ from rfl)
        by_cases k1 : u.f2 < 1
        · have k1' : decide (u.f2 < 1) = true := decide_eq_true k1
          have HV2 := Aside0.mk (BAD2.out (by rw [decide_eq_false (show ¬ 1 ≤ u.f2 by omega)]; rfl))
          clear k1
          go_wp2
          (try rw [Exit.noGoto_ret])
          go_ret
          exact ⟨by rw [HV2.out]; rfl, HA1.out.below⟩
        have k1' : decide (u.f2 < 1) = false := decide_eq_false k1
        have t1 : decide (1 ≤ u.f2) = true := decide_eq_true (by omega)
        rw [t1] at BAD2 BAD3 BAD4 GOOD5
        by_cases k2 : a.f4 < u.f2
        · have k2' : decide (a.f4 < u.f2) = true := decide_eq_true k2
          have HV2 := Aside0.mk (BAD2.out (by rw [decide_eq_false (show ¬ u.f2 ≤ a.f4 by omega)]; rfl))
          clear k1 k2 t1
          go_wp2
          (try rw [Exit.noGoto_ret])
          go_ret
          exact ⟨by rw [HV2.out]; rfl, HA1.out.below⟩
        have k2' : decide (a.f4 < u.f2) = false := decide_eq_false k2
        have t2 : decide (u.f2 ≤ a.f4) = true := decide_eq_true (by omega)
        rw [t2] at BAD2 BAD3 BAD4 GOOD5
        clear k1 k2 t1 t2
        have w0 := (blk_cell HBX.out.a 0).trans (show _ = some _ from rfl)
        have w1 := (blk_cell HBX.out.a 1).trans (show _ = some _ from rfl)
        have w2 := (blk_cell HBX.out.a 2).trans (show _ = some _ from rfl)
        have w3 := (blk_cell HBX.out.a 3).trans (show _ = some _ from rfl)
        have z0 := (blk_cell HBX.out.q 0).trans (show _ = some _ from rfl)
        have z1 := (blk_cell HBX.out.q 1).trans (show _ = some _ from rfl)
        have z2 := (blk_cell HBX.out.q 2).trans (show _ = some _ from rfl)
        have z3 := (blk_cell HBX.out.q 3).trans (show _ = some _ from rfl)
        have z4 := (blk_cell HBX.out.q 4).trans (show _ = some _ from rfl)
        have z5 := (blk_cell HBX.out.q 5).trans (show _ = some _ from rfl)
        have HEL := Aside0.mk (elig65 q a A4 A5 c4 c5 wc G5.out G5L.out)
        cases he : eligB q a
        · have HV2 := Aside0.mk (BAD2.out (by rw [he]; rfl))
          rw [he] at HEL
          go_wp2_with (go_at_call 65; refine HEL.out.mono ?_; rintro e W3 ⟨rfl, hb3⟩; have HB3 := Aside0.mk (HA1.out.after hb3); clear hb3)
          (try rw [Exit.noGoto_ret])
          go_ret
          exact ⟨by rw [HV2.out]; rfl, HB3.out.below⟩
        rw [he] at HEL BAD2 BAD3 BAD4 GOOD5
        go_upto_region 19 with (go_at_call 65; refine HEL.out.mono ?_; rintro e W3 ⟨rfl, hb3⟩; have HA3 := Aside0.mk (HA1.out.after hb3); have HB3 := Aside0.mk (HBX.out.after hb3); clear hb3)
        have LK := Aside0.mk (show i.toNat < maxLen by have := HM.out; unfold maxLen; omega)
        have F0 := Aside0.mk (show (Lit.int .i64 u.f0).wf = true from WalkArith.wf_i64 (by have := HIN.out; omega))
        have F1 := Aside0.mk (show (Lit.int .i64 u.f1).wf = true from WalkArith.wf_i64 (by have := HIN.out; omega))
        clear w0 w1 w2 w3 z0 z1 z2 z3 z4 z5 v2 w4 HEL
        -- the first map
        have v0 := (blk_cell HB3.out.u 0).trans (show _ = some _ from rfl)
        have v2 := (blk_cell HB3.out.u 2).trans (show _ = some _ from rfl)
        go_upto_region 20 with (first
          | (at_lookup; refine look_own rfl rfl HA3.out.mp1 u.f0 rfl rfl F0.out ?_)
          | (at_mapUpdate; refine upd_own rfl rfl HA3.out.mp1 LK.out u.f0 (wrap64 (m1 u.f0 + u.f2)) rfl rfl rfl F0.out (wrap64_wf _) ?_; intro W4 hown4 hgrow4; have HA4 := Aside0.mk (HA3.out.put1 hgrow4 hown4); have HB4 := Aside0.mk (HB3.out.put HA3.out.mp1 hgrow4); clear hown4 hgrow4))
        clear v0 v2 HA3 HB3
        -- the second map
        have v1 := (blk_cell HB4.out.u 1).trans (show _ = some _ from rfl)
        have v2 := (blk_cell HB4.out.u 2).trans (show _ = some _ from rfl)
        go_upto_region 21 with (first
          | (at_lookup; refine look_own rfl rfl HA4.out.mp2 u.f1 rfl rfl F1.out ?_)
          | (at_mapUpdate; refine upd_own rfl rfl HA4.out.mp2 LK.out u.f1 (wrap64 (m2 u.f1 + u.f2)) rfl rfl rfl F1.out (wrap64_wf _) ?_; intro W5 hown5 hgrow5; have HA5 := Aside0.mk (HA4.out.put2 hgrow5 hown5); have HB5 := Aside0.mk (HB4.out.put HA4.out.mp2 hgrow5); clear hown5 hgrow5))
        clear v1 v2 HA4 HB4 LK
        -- the bounds
        have v0 := (blk_cell HB5.out.u 0).trans (show _ = some _ from rfl)
        have v1 := (blk_cell HB5.out.u 1).trans (show _ = some _ from rfl)
        have w4 := (blk_cell HB5.out.a 4).trans (show _ = some _ from rfl)
        have z1 := (blk_cell HB5.out.q 1).trans (show _ = some _ from rfl)
        have p2 : W5.cell? ⟨w.heap.size, 2, none⟩ = some (.int .i64 a0_2) := (blk_cell HA5.out.box 2).trans (by rw [← HPV.out]; rfl)
        have s1 : updM m1 u.f0 (wrap64 (m1 u.f0 + u.f2)) u.f0 = wrap64 (m1 u.f0 + u.f2) := by unfold updM; rw [if_pos rfl]
        have s2 : updM m2 u.f1 (wrap64 (m2 u.f1 + u.f2)) u.f1 = wrap64 (m2 u.f1 + u.f2) := by unfold updM; rw [if_pos rfl]
        by_cases j1 : wrap64 (a.f4 * a0_2) < wrap64 (m1 u.f0 + u.f2)
        · have j1' : decide (wrap64 (a.f4 * a0_2) < wrap64 (m1 u.f0 + u.f2)) = true := decide_eq_true j1
          have HV2 := Aside0.mk (BAD3.out rfl (decide_eq_false (by omega)))
          clear j1
          go_wp2_with (at_lookup; refine look_own rfl rfl HA5.out.mp1 u.f0 rfl rfl F0.out ?_; rw [s1])
          (try rw [Exit.noGoto_ret])
          go_ret
          exact ⟨by rw [HV2.out]; rfl, HA5.out.below⟩
        have j1' : decide (wrap64 (a.f4 * a0_2) < wrap64 (m1 u.f0 + u.f2)) = false := decide_eq_false j1
        have t3 : decide (wrap64 (m1 u.f0 + u.f2) ≤ wrap64 (a.f4 * a0_2)) = true := decide_eq_true (by omega)
        rw [t3] at BAD4 GOOD5
        clear j1 t3
        by_cases j2 : q.f1 < wrap64 (m2 u.f1 + u.f2)
        · have j2' : decide (q.f1 < wrap64 (m2 u.f1 + u.f2)) = true := decide_eq_true j2
          have HV2 := Aside0.mk (BAD4.out rfl rfl (decide_eq_false (by omega)))
          clear j2
          go_wp2_with (first
            | (at_lookup; refine look_own rfl rfl HA5.out.mp1 u.f0 rfl rfl F0.out ?_; rw [s1])
            | (at_lookup; refine gate_guard (by rfl) ?_; dsimp only; refine look_own rfl rfl HA5.out.mp2 u.f1 rfl rfl F1.out ?_; rw [s2]))
          (try rw [Exit.noGoto_ret])
          go_ret
          exact ⟨by rw [HV2.out]; rfl, HA5.out.below⟩
        have j2' : decide (q.f1 < wrap64 (m2 u.f1 + u.f2)) = false := decide_eq_false j2
        have HG := Aside0.mk (GOOD5.out rfl rfl (decide_eq_true (by omega)))
        clear j2
        go_wp2_with (first
          | (at_lookup; refine look_own rfl rfl HA5.out.mp1 u.f0 rfl rfl F0.out ?_; rw [s1])
          | (at_lookup; refine gate_guard (by rfl) ?_; dsimp only; refine look_own rfl rfl HA5.out.mp2 u.f1 rfl rfl F1.out ?_; rw [s2]))
        go_roundw
        case rel => exact ⟨rfl, i + 1, some u, _, _, rfl, by omega, by omega, HG, ⟨by rw [if_neg (by omega), show i + 1 - 1 = i by omega, HU.out]⟩, ⟨by rw [show (i + 1).toNat = i.toNat + 1 by omega]; exact HA5.out⟩⟩
        case measure => simp [intOf]; omega
end Go.Proofs.Ytadeidhefjifaaa.Px
end
section
set_option linter.unusedVariables false
set_option linter.unusedSimpArgs false
namespace Go.Proofs.Ytadeidhefjifaaa.Px
open Go.RowKit Go.Shelf Go.Proofs.YtadeidhefjifaaaW.PrintWords Go.Proofs.YtadeidhefjifaaaW.PrintLast Go.Proofs.YtadeidhefjifaaaW.PrintMore
attribute [local go_sem] Oper.semAt_some
theorem grown_of_below {W W' : World} (h : Below W.heap.size W W') : W.grownBy W' none := ⟨h.os, h.tape, h.output, h.size, fun k hk _ => h.block k hk⟩
/-- what a round keeps for the iterator: the memory before the call, and every block of cells but one -/
structure KpM (B bm : Nat) (W W' : World) : Prop where
  below : Below B W W'
  cells : ∀ (k : Nat) (o : Obj), k ≠ bm → W.heap[k]? = some o → o.isCells = true → W'.heap[k]? = some o
theorem KpM.refl (B bm : Nat) (W : World) : KpM B bm W W := ⟨Below.refl _ _, fun _ _ _ h _ => h⟩
theorem KpM.trans {B bm : Nat} {W1 W2 W3 : World} (h : KpM B bm W1 W2) (k : KpM B bm W2 W3) : KpM B bm W1 W3 := ⟨h.1.trans k.1, fun i o hi ho hc => k.2 i o hi (h.2 i o hi ho hc) hc⟩
theorem KpM.of_below {B bm : Nat} {W W' : World} (h : Below W.heap.size W W') (hB : B ≤ W.heap.size) : KpM B bm W W' := ⟨h.mono hB, fun k o _ ho _ => (h.block k (Array.getElem?_eq_some_iff.1 ho).1).trans ho⟩
theorem KpM.put {B bm : Nat} {W : World} {l : Nat} {o o' : Obj} (hB : B ≤ l) (h : W.heap[l]? = some o) (hc : o.isCells = false) : KpM B bm W (W.putObj l o') :=
  ⟨(Below.refl B W).grown (grownBy_putObj' W l o') (by have := (Array.getElem?_eq_some_iff.1 h).1; omega) (fun k e => by cases e; exact hB), fun k p _ hp hcp => (World.putObj_heap_other (fun e => by subst e; rw [h] at hp; cases hp; rw [hc] at hcp; cases hcp)).trans hp⟩
theorem KpM.set {B bm : Nat} {W : World} (hB : B ≤ bm) (v : Value) : KpM B bm W (W.setCell ⟨bm, 0, none⟩ v) :=
  ⟨(Below.refl B W).setCell (p := ⟨bm, 0, none⟩) hB v, fun k o hk ho _ => (Below.heap_setCell W ⟨bm, 0, none⟩ v k hk).trans ho⟩
theorem KpM.blk {B bm : Nat} {W W' : World} (h : KpM B bm W W') {k : Nat} {cs : Array Value} {t : TypeId} (hk : k ≠ bm) (hc : W.heap[k]? = some (.cells cs t (0, 0))) : W'.heap[k]? = some (.cells cs t (0, 0)) := h.cells k _ hk hc rfl
section
variable (q : List S92) (l : List S44) (pu : Int) (ca cr : List Bool)
/-- the edges from an attempt that lies inside, to the first k requirements -/
def rowP (a : S44) (k : Nat) : List Int := (List.range k).flatMap fun (j : Nat) => if rdOf false cr j = false ∧ eligB (rd_T92 q j) a = true then [a.f4] else []
/-- the edges to and from the first i attempts -/
def outP (i : Nat) : List Int := (List.range i).flatMap fun (j : Nat) => if rdOf false ca j = false then [wrap64 ((rd_T44 l j).f4 * pu)] else rowP q cr (rd_T44 l j) q.length
/-- the edges from the first k requirements -/
def finP (k : Nat) : List Int := (List.range k).flatMap fun (j : Nat) => if rdOf false cr j = true then [(rd_T92 q j).f1] else []
/-- all of them -/
def acrL : List Int := outP q l pu ca cr l.length ++ finP q cr q.length
theorem range_flat (f : Nat → List Int) (k : Nat) : (List.range (k + 1)).flatMap f = (List.range k).flatMap f ++ f k := by rw [List.range_succ, List.flatMap_append]; simp
theorem range_pre (f : Nat → List Int) {i k : Nat} (h : i ≤ k) : (List.range i).flatMap f <+: (List.range k).flatMap f := by
  induction h with
  | refl => exact List.prefix_rfl
  | step h ih => exact ih.trans (by rw [range_flat]; exact List.prefix_append _ _)
theorem out_pre {i : Nat} (h : i ≤ l.length) : outP q l pu ca cr i <+: acrL q l pu ca cr := by
  unfold acrL outP
  exact (range_pre _ h).trans (List.prefix_append _ _)
theorem row_pre {i k : Nat} (h : i < l.length) (hc : rdOf false ca i = true) (hk : k ≤ q.length) : outP q l pu ca cr i ++ rowP q cr (rd_T44 l i) k <+: acrL q l pu ca cr := by
  refine List.IsPrefix.trans ?_ (out_pre q l pu ca cr (show i + 1 ≤ l.length from h))
  unfold outP
  rw [range_flat, if_neg (by rw [hc]; decide)]
  obtain ⟨t, ht⟩ := range_pre (fun (j : Nat) => if rdOf false cr j = false ∧ eligB (rd_T92 q j) (rd_T44 l i) = true then [(rd_T44 l i).f4] else []) hk
  exact ⟨t, by rw [List.append_assoc]; congr 1⟩
theorem fin_pre {k : Nat} (hk : k ≤ q.length) : outP q l pu ca cr l.length ++ finP q cr k <+: acrL q l pu ca cr := by
  obtain ⟨t, ht⟩ := range_pre (fun (j : Nat) => if rdOf false cr j = true then [(rd_T92 q j).f1] else []) hk
  exact ⟨t, by unfold acrL finP; rw [List.append_assoc, ht]⟩
end
theorem pre_lt {α : Type} {a l : List α} {x : α} (h : a ++ [x] <+: l) : a.length < l.length := by have := h.length_le; simp at this; omega
set_option maxRecDepth 100000 in
set_option maxHeartbeats 8000000 in
theorem across1_in (m B bm l0 b1 b2 b3 b4 : Nat) (hm : 1 ≤ m) (W : World) (Al Aq Aa Ar : Option Addr) (cl cq cca ccr : Nat) (q : List S92) (l : List S44) (ca cr : List Bool) (s0 : ByteArray) (i1 pu i3 i4 i5 : Int)
    (hR : ∀ W', Below B W W' → Kd.C k44 W' Al l.length l ∧ Kd.C k92 W' Aq q.length q ∧ Kd.C Kd.bool W' Aa ca.length ca ∧ Kd.C Kd.bool W' Ar cr.length cr) (hca : l.length ≤ ca.length) (hcr : q.length ≤ cr.length)
    (h1 : W.heap[b1]? = some (.cells #[.slice Al l.length cl] 42 (0, 0))) (h2 : W.heap[b2]? = some (.cells #[.slice Aa ca.length cca] 24 (0, 0)))
    (h3 : W.heap[b3]? = some (.cells #[.string s0, .int .i64 i1, .int .i64 pu, .int .i64 i3, .int .i64 i4, .int .i64 i5, .slice Aq q.length cq] 41 (0, 0))) (h4 : W.heap[b4]? = some (.cells #[.slice Ar cr.length ccr] 24 (0, 0)))
    (n1 : b1 ≠ bm) (n2 : b2 ≠ bm) (n3 : b3 ≠ bm) (n4 : b4 ≠ bm) (hbm : bm < W.heap.size) (hB : B ≤ W.heap.size)
    (J Jx : List Int → World → Prop)
    (hY : ∀ pre x W1, J pre W1 → pre.length < (acrL q l pu ca cr).length → YieldAt Fence.wide (m - 1) Try.prog l0 #[.int .i64 x] W1 fun e W' =>
      (e = .returned (.bool true) ∧ J (pre ++ [x]) W' ∧ KpM B bm W1 W') ∨ (e = .returned (.bool false) ∧ Jx (pre ++ [x]) W'))
    (hJa : ∀ pre W1 W2, J pre W1 → Below W1.heap.size W1 W2 → J pre W2) (h0 : J [] W) :
    CallsIn Fence.wide m Try.prog 87 #[.func (.yield l0) #[] #[], .pointer (some ⟨b1, 0, none⟩), .pointer (some ⟨b2, 0, none⟩), .pointer (some ⟨b3, 0, none⟩), .pointer (some ⟨b4, 0, none⟩)] W fun e W' => (∃ v, e = .returned v) ∧
      ((∃ ys, ys = acrL q l pu ca cr ∧ J ys W') ∨ (∃ pre, pre <+: acrL q l pu ca cr ∧ Jx pre W')) := by
  have hu41 := Try.underlying41
  have hu44 := Try.underlying44
  have hu92 := Try.underlying92
  have c1 : W.cell? ⟨b1, 0, none⟩ = some (.slice Al l.length cl) := (blk_cell h1 0).trans rfl
  have hl0 := (hR W (Below.refl _ _)).1.2.1
  have hq0 := (hR W (Below.refl _ _)).2.1.2.1
  have hl1 : (l.length : Int) ≤ 9223372036854775807 := by omega
  have hq1 : (q.length : Int) ≤ 9223372036854775807 := by omega
  have HY := Aside0.mk hY
  have HJ := Aside0.mk hJa
  have H0 := Aside0.mk h0
  have HR := Aside0.mk hR
  have HW := Aside0.mk (And.intro h1 (And.intro h2 (And.intro h3 h4)))
  have HN := Aside0.mk (And.intro n1 (And.intro n2 (And.intro n3 n4)))
  clear hY hJa h0 hR h1 h2 h3 h4 n1 n2 n3 n4 hl0 hq0
  refine callsIn_of_wp Try.func87 rfl trivial ?_ rfl
  simp only [Try.ntmps87, List.size_toArray, List.length_cons, List.length_nil, Nat.reduceAdd, Nat.reduceSub, Array.replicate_succ, Array.replicate_zero, List.push_toArray, List.append_toArray, List.nil_append, List.cons_append]
  gi_wp2
  gi_loopw [14] (fun i wr => ∃ (k : Nat), k ≤ l.length ∧ i = .int .i64 k ∧ Aside0 (J (outP q l pu ca cr k) wr) ∧ Aside0 (KpM B bm W wr)) (fun i _ => l.length - (intOf i).toNat)
  case atStart => exact ⟨0, by omega, rfl, H0, ⟨KpM.refl _ _ _⟩⟩
  case round =>
    obtain ⟨k, hkl, rfl, HJ1, HK⟩ := hrel
    have c1 : wr.cell? ⟨b1, 0, none⟩ = some (.slice Al l.length cl) := (blk_cell (HK.out.blk HN.out.1 HW.out.1) 0).trans rfl
    have c2 : wr.cell? ⟨b2, 0, none⟩ = some (.slice Aa ca.length cca) := (blk_cell (HK.out.blk HN.out.2.1 HW.out.2.1) 0).trans rfl
    have k3 := HK.out.blk HN.out.2.2.1 HW.out.2.2.1
    have c32 : wr.cell? ⟨b3, 2, none⟩ = some (.int .i64 pu) := (blk_cell k3 2).trans rfl
    have c36 : wr.cell? ⟨b3, 6, none⟩ = some (.slice Aq q.length cq) := (blk_cell k3 6).trans rfl
    by_cases hlt : k < l.length
    · have b0 : decide (k < l.length) = true := decide_eq_true hlt
      obtain ⟨r44, r92, rca, rcr⟩ := HR.out _ HK.out.1
      obtain ⟨ad, e, x0, x1, x2, x3, x4⟩ := at_T44 r44 k (by omega) (by omega)
      cases e
      obtain ⟨ab, e, y0⟩ := Kd.at_bool rca k (by omega) (by omega)
      cases e
      rw [Int.toNat_natCast] at x0 x1 x2 x3 x4 y0
      have b1' : (k < ca.length) = True := eq_true (by omega)
      obtain ⟨a, ha⟩ : ∃ a, rd_T44 l k = a := ⟨_, rfl⟩
      rw [ha] at x0 x1 x2 x3 x4
      have HA := Aside0.mk ha
      have HBW := Aside0.mk (show B ≤ wr.heap.size from by have := HK.out.1.size; omega)
      have lt_of : ∀ {p : Addr} {v : Value}, wr.cell? p = some v → p.block < wr.heap.size := fun h => by obtain ⟨o, ho, _⟩ := cells_of_cell h; exact (Array.getElem?_eq_some_iff.1 ho).1
      have t2 := lt_of c2
      have t3 := lt_of c32
      have ty := lt_of y0
      have tx := lt_of x0
      have HAL := Aside0.mk (show ∀ o, KpM B bm W (wr.alloc o) ∧ Below wr.heap.size wr (wr.alloc o) from fun o => ⟨HK.out.trans (KpM.of_below (below_alloc (Below.refl _ _) o) HBW.out), below_alloc (Below.refl _ _) o⟩)
      clear ha r44 r92 rca rcr lt_of k3
      cases hca' : rdOf false ca k
      · rw [hca'] at y0
        have hout : outP q l pu ca cr (k + 1) = outP q l pu ca cr k ++ [wrap64 (a.f4 * pu)] := by unfold outP; rw [range_flat, if_pos hca', HA.out]
        have hpre := out_pre q l pu ca cr (show k + 1 ≤ l.length from hlt)
        rw [hout] at hpre
        have HP := Aside0.mk hpre
        have HO := Aside0.mk hout
        have hyy := HY.out (outP q l pu ca cr k) (wrap64 (a.f4 * pu)) (wr.alloc (.cells #[.int .i64 a.f0, .int .i64 a.f1, .int .i64 a.f2, .int .i64 a.f3, .int .i64 a.f4] 44)) (HJ.out _ _ _ HJ1.out (HAL.out _).2) (pre_lt hpre)
        obtain ⟨fn, tmps, assign, body, hy, hR⟩ := hyy
        have HRR := Aside0.mk hR
        clear hR hpre hout
        gi_wp2_with fail
        refine HRR.out.mono ?_
        rintro e W3 (⟨rfl, hJ3, hk3⟩ | ⟨rfl, hJx3⟩)
        · rw [← HO.out] at hJ3
          have HJ3 := Aside0.mk hJ3
          have HK3 := Aside0.mk ((HAL.out _).1.trans hk3)
          clear hJ3 hk3
          gi_wp2
          go_roundw
          case rel => exact ⟨k + 1, by omega, by simp, HJ3, HK3⟩
          case measure => simp [intOf]; omega
        · have HJ3 := Aside0.mk hJx3
          clear hJx3
          gi_wp2
          refine bodyPost_ret (results_none rfl _ _ _) rfl ?_
          exact ⟨⟨_, rfl⟩, .inr ⟨_, HP.out, HJ3.out⟩⟩
      · rw [hca'] at y0
        gi_wp2_with fail
        have HAL1 := Aside0.mk (HAL.out (.cells #[.int .i64 a.f0, .int .i64 a.f1, .int .i64 a.f2, .int .i64 a.f3, .int .i64 a.f4] 44))
        have HG1 := Aside0.mk (heap_alloc_new wr (.cells #[.int .i64 a.f0, .int .i64 a.f1, .int .i64 a.f2, .int .i64 a.f3, .int .i64 a.f4] 44))
        have HJ2 := Aside0.mk (HJ.out _ _ _ HJ1.out HAL1.out.2)
        have HGN := Aside0.mk (show wr.heap.size ≠ bm from by have := HK.out.1.size; omega)
        generalize wr.alloc (.cells #[.int .i64 a.f0, .int .i64 a.f1, .int .i64 a.f2, .int .i64 a.f3, .int .i64 a.f4] 44) = W1 at HAL1 HG1 HJ2 ⊢
        generalize wr.heap.size = g at HG1 HGN ⊢
        have hrow0 : outP q l pu ca cr k ++ rowP q cr a 0 = outP q l pu ca cr k := by unfold rowP; simp
        have HR0 := Aside0.mk hrow0
        clear x0 x1 x2 x3 x4 y0 t2 t3 ty tx c1 c2 c32 c36 HAL hrow0
        gi_loopw [35] (fun v wi => ∃ (j : Nat), j ≤ q.length ∧ v = .int .i64 j ∧ Aside0 (J (outP q l pu ca cr k ++ rowP q cr a j) wi) ∧ Aside0 (KpM B bm W wi) ∧ Aside0 (wi.heap[g]? = some (.cells #[.int .i64 a.f0, .int .i64 a.f1, .int .i64 a.f2, .int .i64 a.f3, .int .i64 a.f4] 44 (0, 0)))) (fun v _ => q.length - (intOf v).toNat)
        case atStart => exact ⟨0, by omega, rfl, ⟨by rw [HR0.out]; exact HJ2.out⟩, ⟨HAL1.out.1⟩, HG1⟩
        case round =>
          obtain ⟨j, hjq, rfl, HJ3, HK3, HG3⟩ := hrel
          by_cases hjt : j < q.length
          · have b2 : decide (j < q.length) = true := decide_eq_true hjt
            obtain ⟨r44, r92, rca, rcr⟩ := HR.out _ HK3.out.1
            obtain ⟨adq, A4, c4, A5, c5, e, z0, z1, z2, z3, z4, z5, g4l, g4, g5l, g5⟩ := at_T92 r92 j (by omega) (by omega)
            cases e
            obtain ⟨ar, e, y1⟩ := Kd.at_bool rcr j (by omega) (by omega)
            cases e
            rw [Int.toNat_natCast] at z0 z1 z2 z3 z4 z5 y1
            have b3' : (j < cr.length) = True := eq_true (by omega)
            have c4' : wr.cell? ⟨b4, 0, none⟩ = some (.slice (some ar) cr.length ccr) := (blk_cell (HK3.out.blk HN.out.2.2.2 HW.out.2.2.2) 0).trans rfl
            have lt_of : ∀ {p : Addr} {v : Value}, wr.cell? p = some v → p.block < wr.heap.size := fun h => by obtain ⟨o, ho, _⟩ := cells_of_cell h; exact (Array.getElem?_eq_some_iff.1 ho).1
            have t4 := lt_of c4'
            have ty := lt_of y1
            have tg : g < wr.heap.size := (Array.getElem?_eq_some_iff.1 HG3.out).1
            have HBW3 := Aside0.mk (show B ≤ wr.heap.size from by have := HK3.out.1.size; omega)
            obtain ⟨r, hr⟩ : ∃ r, rd_T92 q j = r := ⟨_, rfl⟩
            rw [hr] at z0 z1 z2 z3 z4 z5 g4l g5l g5
            have hrow : rowP q cr a (j + 1) = rowP q cr a j ++ (if rdOf false cr j = false ∧ eligB r a = true then [a.f4] else []) := by unfold rowP; rw [range_flat, hr]
            have G5 := Aside0.mk g5
            have G5L := Aside0.mk g5l
            have hp3 := row_pre q l pu ca cr hlt hca' (show j + 1 ≤ q.length from hjt)
            rw [HA.out] at hp3
            have HP3 := Aside0.mk hp3
            have HAL3 := Aside0.mk (show ∀ o, KpM B bm W (wr.alloc o) ∧ Below wr.heap.size wr (wr.alloc o) from fun o => ⟨HK3.out.trans (KpM.of_below (below_alloc (Below.refl _ _) o) HBW3.out), below_alloc (Below.refl _ _) o⟩)
            clear r44 r92 rca rcr g4 g5 g4l g5l lt_of hp3 hr
            cases hcr' : rdOf false cr j
            · rw [hcr'] at y1 hrow
              have w0 := (blk_cell HG3.out 0).trans (show _ = some _ from rfl)
              have w1 := (blk_cell HG3.out 1).trans (show _ = some _ from rfl)
              have w2 := (blk_cell HG3.out 2).trans (show _ = some _ from rfl)
              have w3 := (blk_cell HG3.out 3).trans (show _ = some _ from rfl)
              have w4 := (blk_cell HG3.out 4).trans (show _ = some _ from rfl)
              have HEL := Aside0.mk (show ∀ o, Calls Try.prog 65 #[.agg #[.string r.f0, .int .i64 r.f1, .int .i64 r.f2, .bool r.f3, .slice A4 r.f4.length c4, .slice A5 r.f5.length c5], .agg #[.int .i64 a.f0, .int .i64 a.f1, .int .i64 a.f2, .int .i64 a.f3, .int .i64 a.f4]] (wr.alloc o)
                fun e w' => e = .returned (.bool (eligB r a)) ∧ KpM B bm W w' ∧ Below wr.heap.size wr w' ∧ w'.cell? ⟨g, 4, none⟩ = some (.int .i64 a.f4) from fun o => (elig65 r a A4 A5 c4 c5 (wr.alloc o) (Kd.C_alloc G5.out o) G5L.out).mono fun e w' h => ⟨h.1, (HAL3.out o).1.trans (KpM.of_below h.2 (by have := HBW3.out; have := (HAL3.out o).2.size; omega)), (HAL3.out o).2.trans (h.2.mono (HAL3.out o).2.size), by
                  have h_ := ((HAL3.out o).2.trans (h.2.mono (HAL3.out o).2.size)).block g tg
                  exact (blk_cell (h_.trans HG3.out) 4).trans rfl⟩)
              cases hel : eligB r a
              · rw [hel] at hrow HEL
                rw [if_neg (by simp), List.append_nil] at hrow
                have HRO := Aside0.mk hrow
                clear hrow
                gi_wp2_with fail
                refine ⟨trivial, (callsIn_wide.2 (HEL.out _)).mono ?_⟩
                rintro e W4 ⟨rfl, hk4, hb4, -⟩
                have HJ4 := Aside0.mk (HJ.out _ _ _ HJ3.out hb4)
                have HG4 := Aside0.mk ((hb4.block g tg).trans HG3.out)
                have HK4 := Aside0.mk hk4
                clear hk4 hb4
                gi_wp2
                refine ⟨fun _ h => (by cases h), ?_⟩
                gi_wp2
                go_roundw
                case rel => exact ⟨j + 1, by omega, by simp, ⟨by rw [HRO.out]; exact HJ4.out⟩, HK4, HG4⟩
                case measure => simp [intOf]; omega
              · rw [hel] at hrow HEL
                rw [if_pos (by simp)] at hrow
                have HRO := Aside0.mk hrow
                have hpl := HP3.out
                rw [hrow, ← List.append_assoc] at hpl
                have HPL := Aside0.mk hpl
                clear hrow hpl
                gi_wp2_with fail
                refine ⟨trivial, (callsIn_wide.2 (HEL.out _)).mono ?_⟩
                rintro e W4 ⟨rfl, hk4, hb4, cg4⟩
                have HG4 := Aside0.mk ((hb4.block g tg).trans HG3.out)
                have HK4 := Aside0.mk hk4
                have hyy := HY.out _ a.f4 W4 (HJ.out _ _ _ HJ3.out hb4) (pre_lt HPL.out)
                obtain ⟨fn, tmps, assign, body, hy, hR⟩ := hyy
                have HRR := Aside0.mk hR
                clear hR hk4 hb4
                gi_wp2_with fail
                refine HRR.out.mono ?_
                rintro e W5 (⟨rfl, hJ5, hk5⟩ | ⟨rfl, hJx5⟩)
                · rw [List.append_assoc, ← HRO.out] at hJ5
                  have HJ5 := Aside0.mk hJ5
                  have HK5 := Aside0.mk (HK4.out.trans hk5)
                  have HG5 := Aside0.mk (hk5.blk HGN.out HG4.out)
                  clear hJ5 hk5
                  gi_wp2
                  go_roundw
                  case rel => exact ⟨j + 1, by omega, by simp, HJ5, HK5, HG5⟩
                  case measure => simp [intOf]; omega
                · have HJ5 := Aside0.mk hJx5
                  clear hJx5
                  gi_wp2
                  refine bodyPost_ret (results_none rfl _ _ _) rfl ?_
                  exact ⟨⟨_, rfl⟩, .inr ⟨_, HPL.out, HJ5.out⟩⟩
            · rw [hcr'] at y1 hrow
              rw [if_neg (by simp), List.append_nil] at hrow
              have HRO := Aside0.mk hrow
              have HJ4 := Aside0.mk (show ∀ o, J (outP q l pu ca cr k ++ rowP q cr a j) (wr.alloc o) from fun o => HJ.out _ _ _ HJ3.out (HAL3.out o).2)
              have HG4 := Aside0.mk (show ∀ o, (wr.alloc o).heap[g]? = some (.cells #[.int .i64 a.f0, .int .i64 a.f1, .int .i64 a.f2, .int .i64 a.f3, .int .i64 a.f4] 44 (0, 0)) from fun o => ((HAL3.out o).2.block g tg).trans HG3.out)
              clear hrow
              gi_wp2_with fail
              refine ⟨trivial, ?_⟩
              gi_wp2
              refine ⟨fun _ h => (by cases h), ?_⟩
              gi_wp2
              go_roundw
              case rel => exact ⟨j + 1, by omega, by simp, ⟨by rw [HRO.out]; exact HJ4.out _⟩, ⟨(HAL3.out _).1⟩, ⟨HG4.out _⟩⟩
              case measure => simp [intOf]; omega
          · have b2 : decide (j < q.length) = false := decide_eq_false hjt
            have hj : j = q.length := by omega
            subst hj
            have hout : outP q l pu ca cr (k + 1) = outP q l pu ca cr k ++ rowP q cr a q.length := by unfold outP; rw [range_flat, if_neg (by rw [hca']; decide), HA.out]
            have HO := Aside0.mk hout
            clear hout
            gi_wp2
            go_roundw
            case rel => exact ⟨k + 1, by omega, by simp, ⟨by rw [HO.out]; exact HJ3.out⟩, HK3⟩
            case measure => simp [intOf]; omega
    · have b0 : decide (k < l.length) = false := decide_eq_false hlt
      have hk : k = l.length := by omega
      subst hk
      have hf0 : outP q l pu ca cr l.length ++ finP q cr 0 = outP q l pu ca cr l.length := by unfold finP; simp
      have HF0 := Aside0.mk hf0
      clear hf0 c1 c2 c32 k3
      gi_wp2_with fail
      gi_loopw [62] (fun v wi => ∃ (j : Nat), j ≤ q.length ∧ v = .int .i64 j ∧ Aside0 (J (outP q l pu ca cr l.length ++ finP q cr j) wi) ∧ Aside0 (KpM B bm W wi)) (fun v _ => q.length - (intOf v).toNat)
      case atStart => exact ⟨0, by omega, rfl, ⟨by rw [HF0.out]; exact HJ1.out⟩, HK⟩
      case round =>
        obtain ⟨j, hjq, rfl, HJ3, HK3⟩ := hrel
        by_cases hjt : j < q.length
        · have b2 : decide (j < q.length) = true := decide_eq_true hjt
          obtain ⟨r44, r92, rca, rcr⟩ := HR.out _ HK3.out.1
          obtain ⟨adq, A4, c4, A5, c5, e, z0, z1, z2, z3, z4, z5, g4l, g4, g5l, g5⟩ := at_T92 r92 j (by omega) (by omega)
          cases e
          obtain ⟨ar, e, y1⟩ := Kd.at_bool rcr j (by omega) (by omega)
          cases e
          rw [Int.toNat_natCast] at z0 z1 z2 z3 z4 z5 y1
          have b3' : (j < cr.length) = True := eq_true (by omega)
          have c4' : wr.cell? ⟨b4, 0, none⟩ = some (.slice (some ar) cr.length ccr) := (blk_cell (HK3.out.blk HN.out.2.2.2 HW.out.2.2.2) 0).trans rfl
          have lt_of : ∀ {p : Addr} {v : Value}, wr.cell? p = some v → p.block < wr.heap.size := fun h => by obtain ⟨o, ho, _⟩ := cells_of_cell h; exact (Array.getElem?_eq_some_iff.1 ho).1
          have t4 := lt_of c4'
          have ty := lt_of y1
          have HBW3 := Aside0.mk (show B ≤ wr.heap.size from by have := HK3.out.1.size; omega)
          obtain ⟨r, hr⟩ : ∃ r, rd_T92 q j = r := ⟨_, rfl⟩
          rw [hr] at z0 z1 z2 z3 z4 z5
          have hrow : finP q cr (j + 1) = finP q cr j ++ (if rdOf false cr j = true then [r.f1] else []) := by unfold finP; rw [range_flat, hr]
          have hp3 := fin_pre q l pu ca cr (show j + 1 ≤ q.length from hjt)
          have HP3 := Aside0.mk hp3
          have HAL3 := Aside0.mk (show ∀ o, KpM B bm W (wr.alloc o) ∧ J (outP q l pu ca cr l.length ++ finP q cr j) (wr.alloc o) from fun o => ⟨HK3.out.trans (KpM.of_below (below_alloc (Below.refl _ _) o) HBW3.out), HJ.out _ _ _ HJ3.out (below_alloc (Below.refl _ _) o)⟩)
          clear r44 r92 rca rcr g4 g5 g4l g5l lt_of hp3 hr
          cases hcr' : rdOf false cr j
          · rw [hcr'] at y1 hrow
            rw [if_neg (by decide), List.append_nil] at hrow
            have HRO := Aside0.mk hrow
            clear hrow
            gi_wp2
            refine ⟨fun _ h => (by cases h), ?_⟩
            gi_wp2
            go_roundw
            case rel => exact ⟨j + 1, by omega, by simp, ⟨by rw [HRO.out]; exact (HAL3.out _).2⟩, ⟨(HAL3.out _).1⟩⟩
            case measure => simp [intOf]; omega
          · rw [hcr'] at y1 hrow
            rw [if_pos rfl] at hrow
            have HRO := Aside0.mk hrow
            have hpl := HP3.out
            rw [hrow, ← List.append_assoc] at hpl
            have HPL := Aside0.mk hpl
            clear hrow hpl
            have hyy := HY.out _ r.f1 (wr.alloc (.cells #[.string r.f0, .int .i64 r.f1, .int .i64 r.f2, .bool r.f3, .slice A4 r.f4.length c4, .slice A5 r.f5.length c5] 92)) (HAL3.out _).2 (pre_lt HPL.out)
            obtain ⟨fn, tmps, assign, body, hy, hR⟩ := hyy
            have HRR := Aside0.mk hR
            clear hR
            gi_wp2_with fail
            refine HRR.out.mono ?_
            rintro e W5 (⟨rfl, hJ5, hk5⟩ | ⟨rfl, hJx5⟩)
            · rw [List.append_assoc, ← HRO.out] at hJ5
              have HJ5 := Aside0.mk hJ5
              have HK5 := Aside0.mk ((HAL3.out _).1.trans hk5)
              clear hJ5 hk5
              gi_wp2
              go_roundw
              case rel => exact ⟨j + 1, by omega, by simp, HJ5, HK5⟩
              case measure => simp [intOf]; omega
            · have HJ5 := Aside0.mk hJx5
              clear hJx5
              gi_wp2
              refine bodyPost_ret (results_none rfl _ _ _) rfl ?_
              exact ⟨⟨_, rfl⟩, .inr ⟨_, HPL.out, HJ5.out⟩⟩
        · have b2 : decide (j < q.length) = false := decide_eq_false hjt
          have hj : j = q.length := by omega
          subst hj
          gi_wp2
          go_end0
          exact ⟨⟨_, rfl⟩, .inl ⟨_, rfl, HJ3.out⟩⟩
end Go.Proofs.Ytadeidhefjifaaa.Px
end
section
set_option linter.unusedVariables false
set_option linter.unusedSimpArgs false
namespace Go.Proofs.Ytadeidhefjifaaa.Px
open Go.RowKit Go.Shelf Go.Proofs.YtadeidhefjifaaaW.PrintWords Go.Proofs.YtadeidhefjifaaaW.PrintLast Go.Proofs.YtadeidhefjifaaaW.PrintMore
attribute [local go_sem] Oper.semAt_some
/-- a part of a slice of bools -/
theorem C_part {w : World} {A : Option Addr} {n : Nat} {xs : List Bool} (h : Kd.C Kd.bool w A n xs) (i k : Nat) (hk : i + k ≤ n) : Kd.C Kd.bool w (A.map (·.add i)) k ((xs.drop i).take k) := by
  have hl : xs.length = n := h.1
  refine ⟨by simp; omega, by have := h.2.1; omega, fun h0 => ?_⟩
  obtain ⟨ad, e, hc⟩ := h.2.2 (by omega)
  subst e
  refine ⟨ad.add i, rfl, fun j p hj => ?_⟩
  rw [List.getElem?_take] at hj
  split at hj
  · rw [List.getElem?_drop] at hj
    obtain ⟨c, h1, h2, h3⟩ := hc (i + j) p hj
    refine ⟨c, h1, h2, fun x u hx => ?_⟩
    have := h3 x u hx
    rw [Go.Deep.add_add]
    rw [show (i + j) * Kd.bool.sz + x = i + (j * Kd.bool.sz + x) from by show (i + j) * 1 + x = i + (j * 1 + x); omega] at this
    exact this
  · cases hj
set_option maxRecDepth 100000 in
set_option maxHeartbeats 2000000 in
theorem across_calls (A1 A3 : Option Addr) (c1 c3 : Nat) (l1 : List S44) (l3 : List Bool) (w : World) (pv : Array Value) (hl : 2 + l1.length ≤ l3.length) (hc : l3.length ≤ c3) (hm : l3.length ≤ 9223372036854775807) :
    Calls Try.prog 70 #[.agg pv, .slice A1 l1.length c1, .slice A3 l3.length c3] w fun e w' => ∃ b2 b4, e = .returned (.func (.func 87) #[] #[.pointer (some ⟨w.heap.size + 1, 0, none⟩), .pointer (some ⟨b2, 0, none⟩), .pointer (some ⟨w.heap.size, 0, none⟩), .pointer (some ⟨b4, 0, none⟩)]) ∧
      Below w.heap.size w w' ∧ w'.heap[w.heap.size]? = some (.cells pv 41 (0, 0)) ∧ w'.heap[w.heap.size + 1]? = some (.cells #[.slice A1 l1.length c1] 42 (0, 0)) ∧
      w'.heap[b2]? = some (.cells #[.slice (A3.map (·.add 1)) l1.length (c3 - 1)] 24 (0, 0)) ∧ w'.heap[b4]? = some (.cells #[.slice (A3.map (·.add (1 + l1.length))) (l3.length - (1 + l1.length)) (c3 - (1 + l1.length))] 24 (0, 0)) ∧
      w.heap.size ≤ b2 ∧ w.heap.size ≤ b4 := by
  have HA := Aside0.mk (show ∀ o0 o1 o2 o3, Below w.heap.size w ((((w.alloc o0).alloc o1).alloc o2).alloc o3).drew from fun o0 o1 o2 o3 => below_drew1 (below_alloc (below_alloc (below_alloc (below_alloc (Below.refl _ _) o0) o1) o2) o3))
  have H0 := Aside0.mk (show ∀ o0 o1 o2 o3, ((((w.alloc o0).alloc o1).alloc o2).alloc o3).drew.heap[w.heap.size]? = some o0 from fun o0 o1 o2 o3 => by
    refine (Below.heap_alloc _ _ _ (by simp <;> omega)).trans ((Below.heap_alloc _ _ _ (by simp <;> omega)).trans ((Below.heap_alloc _ _ _ (by simp <;> omega)).trans (heap_alloc_new w o0))))
  have H1 := Aside0.mk (show ∀ o0 o1 o2 o3, ((((w.alloc o0).alloc o1).alloc o2).alloc o3).drew.heap[w.heap.size + 1]? = some o1 from fun o0 o1 o2 o3 => by
    refine (Below.heap_alloc _ _ _ (by simp <;> omega)).trans ((Below.heap_alloc _ _ _ (by simp <;> omega)).trans ?_)
    have h_ := heap_alloc_new (w.alloc o0) o1; rw [World.size_alloc] at h_; exact h_)
  have H2 := Aside0.mk (show ∀ o0 o1 o2 o3, ((((w.alloc o0).alloc o1).alloc o2).alloc o3).drew.heap[w.heap.size + 1 + 1]? = some o2 from fun o0 o1 o2 o3 => by
    refine (Below.heap_alloc _ _ _ (by simp <;> omega)).trans ?_
    have h_ := heap_alloc_new ((w.alloc o0).alloc o1) o2; rw [World.size_alloc, World.size_alloc] at h_; exact h_)
  have H3 := Aside0.mk (show ∀ o0 o1 o2 o3, ((((w.alloc o0).alloc o1).alloc o2).alloc o3).drew.heap[w.heap.size + 1 + 1 + 1]? = some o3 from fun o0 o1 o2 o3 => by
    have h_ := heap_alloc_new (((w.alloc o0).alloc o1).alloc o2) o3; rw [World.size_alloc, World.size_alloc, World.size_alloc] at h_; exact h_)
  go_enter Try.func70, Try.ntmps70
  go_wp2
  go_region
  · go_wp2
    go_ret
    exact ⟨w.heap.size + 1 + 1, w.heap.size + 1 + 1 + 1, rfl, HA.out _ _ _ _, H0.out _ _ _ _, H1.out _ _ _ _, H2.out _ _ _ _, H3.out _ _ _ _, by omega, by omega⟩
  · go_wp2
    go_ret
    exact ⟨w.heap.size + 1 + 1 + 1, w.heap.size + 1 + 1, rfl, HA.out _ _ _ _, H0.out _ _ _ _, H1.out _ _ _ _, H3.out _ _ _ _, H2.out _ _ _ _, by omega, by omega⟩
/-- the credits of all requirements -/
def totV (q : List S92) : Int := q.foldl (fun n x => wrap64 (n + x.f1)) 0
set_option maxRecDepth 100000 in
set_option maxHeartbeats 2000000 in
theorem total_calls (s0 : ByteArray) (i1 i2 i3 i4 i5 : Int) (A : Option Addr) (c : Nat) (q : List S92) (w : World) (hr : Kd.C k92 w A q.length q) (hc : q.length ≤ c) :
    Calls Try.prog 69 #[.agg #[.string s0, .int .i64 i1, .int .i64 i2, .int .i64 i3, .int .i64 i4, .int .i64 i5, .slice A q.length c]] w fun e w' => e = .returned (.int .i64 (totV q)) ∧ Below w.heap.size w w' := by
  have hu41 := Try.underlying41
  have hu92 := Try.underlying92
  have hm : (q.length : Int) ≤ 9223372036854775807 := by have := hr.2.1; omega
  have HB := Aside0.mk (show ∀ o, Below w.heap.size w (w.alloc o) from fun o => below_alloc (Below.refl _ _) o)
  have HR := Aside0.mk hr
  clear hr
  go_enter Try.func69, Try.ntmps69
  go_wp2
  go_loopw [2, 8] (fun v2 v wr => ∃ (i : Int) (n : Int), v = .int .i64 i ∧ v2 = .int .i64 n ∧ 0 ≤ i ∧ i ≤ q.length ∧ Aside0 ((q.drop i.toNat).foldl (fun n x => wrap64 (n + x.f1)) n = totV q) ∧ Aside0 (Below w.heap.size w wr)) (fun _ v _ => q.length - (intOf v).toNat)
  case atStart => exact ⟨0, 0, rfl, rfl, by omega, by omega, ⟨rfl⟩, ⟨HB.out _⟩⟩
  case round =>
    obtain ⟨i, n, rfl, rfl, i0, i1', HI, HW⟩ := hrel
    by_cases hlt : i < q.length
    · have q0 : decide (i < (q.length : Int)) = true := decide_eq_true hlt
      have q1 : decide (0 ≤ i) = true := decide_eq_true i0
      obtain ⟨ad, A4, c4, A5, c5, e, x0, x1, x2, x3, x4, x5, g4l, g4, g5l, g5⟩ := at_T92 (Kd.C_below HR.out HW.out) i i0 hlt
      cases e
      have hI := HI.out
      rw [List.drop_eq_getElem_cons (show i.toNat < q.length by omega), List.foldl_cons, show q[i.toNat]'(by omega) = rd_T92 q i by simp [rd_T92, List.getD, show i.toNat < q.length by omega], show i.toNat + 1 = (i + 1).toNat by omega] at hI
      have HI2 := Aside0.mk hI
      have HWA := Aside0.mk (show ∀ o, Below w.heap.size w (wr.alloc o) from fun o => HW.out.trans (below_alloc (Below.refl _ _) o |>.mono HW.out.size))
      clear hI g4 g5 g4l g5l
      go_wp2
      go_roundw
      case rel => exact ⟨i + 1, _, rfl, rfl, by omega, by omega, HI2, ⟨HWA.out _⟩⟩
      case measure => simp [intOf]; omega
    · have q0 : decide (i < (q.length : Int)) = false := decide_eq_false hlt
      have hI := HI.out
      rw [List.drop_eq_nil_of_le (by omega), List.foldl_nil] at hI
      have HI2 := Aside0.mk hI
      clear hI
      go_wp2
      go_ret
      exact ⟨by rw [← HI2.out]; rfl, HW.out⟩
/-- the capacities across a cut, taken from a number -/
def lessL (s : Int) (xs : List Int) : Int := xs.foldl (fun s x => wrap64 (s - x)) s
theorem lessL_snoc (s : Int) (xs : List Int) (x : Int) : lessL s (xs ++ [x]) = wrap64 (lessL s xs - x) := by simp [lessL]
/-- proof.Bound's answer -/
def boundV (n u e mn md : Int) (q : List S92) (l : List S44) (c : List Bool) : Int × Int :=
  if askV n u e mn md q l = 0 then
    (if c.length = 2 + l.length + q.length ∧ rdOf false c 0 = true ∧ rdOf false c (1 + l.length + q.length) = false then (mx 0 (lessL (totV q) (acrL q l u ((c.drop 1).take l.length) (c.drop (1 + l.length)))), 0) else (0, 200))
  else (0, askV n u e mn md q l)
def proof_Bound.f (a0_0 : ByteArray) (a0_1 a0_2 a0_3 a0_4 a0_5 : Int) (l0_6 : List S92) (l1 : List S44) (l2 : List Bool) : Option (Int × Int) := some (boundV a0_1 a0_2 a0_3 a0_4 a0_5 l0_6 l1 l2)
theorem deg_len {n u e mn md : Int} {q : List S92} {l : List S44} (h : askV n u e mn md q l = 0) : q.length ≤ 64 := by
  unfold askV at h
  split at h
  · rename_i h1
    unfold degV at h1
    split at h1
    · rename_i h2
      simp only [Bool.and_eq_true, decide_eq_true_eq] at h2
      omega
    · cases h1
  · rename_i h1; exact absurd h h1
theorem wrap_two (z : Int) (h0 : -9223372036854775808 ≤ z) (h1 : z ≤ 18446744073709551616) : (wrap64 z = z ∧ z ≤ 9223372036854775807) ∨ (wrap64 z = z - 18446744073709551616 ∧ 9223372036854775808 ≤ z) := by
  unfold wrap64; omega
theorem wrap_len (m r n : Int) (m0 : 0 ≤ m) (m1 : m ≤ 9223372036854775807) (r0 : 0 ≤ r) (r1 : r ≤ 64) (n0 : 0 ≤ n) (ho : 9223372036854775807 < m + r + 2) : n ≠ wrap64 (wrap64 (wrap64 (1 + m) + r) + 1) := by
  have h1 := wrap_two (1 + m) (by omega) (by omega)
  generalize wrap64 (1 + m) = x at h1 ⊢
  have h2 := wrap_two (x + r) (by omega) (by omega)
  generalize wrap64 (x + r) = y at h2 ⊢
  have h3 := wrap_two (y + 1) (by omega) (by omega)
  generalize wrap64 (y + 1) = z at h3 ⊢
  omega
set_option maxRecDepth 100000 in
set_option maxHeartbeats 4000000 in
theorem bound_in (a0_0 : ByteArray) (a0_1 a0_2 a0_3 a0_4 a0_5 : Int) (A0_6 : Option Addr) (c0_6 : Nat) (l0_6 : List S92) (A1 : Option Addr) (c1 : Nat) (l1 : List S44) (A2 : Option Addr) (c2 : Nat) (l2 : List Bool) (w : World)
    (hr0_6 : Kd.C k92 w A0_6 l0_6.length l0_6) (hc0_6 : l0_6.length ≤ c0_6) (hr1 : Kd.C k44 w A1 l1.length l1) (hc1 : l1.length ≤ c1) (hr2 : Kd.C Kd.bool w A2 l2.length l2) (hc2 : l2.length ≤ c2) :
    CallsIn Fence.wide 3 Try.prog 38 #[.agg #[.string a0_0, .int .i64 a0_1, .int .i64 a0_2, .int .i64 a0_3, .int .i64 a0_4, .int .i64 a0_5, .slice A0_6 l0_6.length c0_6], .slice A1 l1.length c1, .slice A2 l2.length c2] w
      fun e w' => e = .returned (.tuple #[.int .i64 (boundV a0_1 a0_2 a0_3 a0_4 a0_5 l0_6 l1 l2).1, .int .i64 (boundV a0_1 a0_2 a0_3 a0_4 a0_5 l0_6 l1 l2).2]) ∧ Below w.heap.size w w' := by
  have hu41 := Try.underlying41
  have hm1 : (l1.length : Int) ≤ 9223372036854775807 := by have := hr1.2.1; omega
  have hm2 : (l2.length : Int) ≤ 9223372036854775807 := by have := hr2.2.1; omega
  have hm0 : (l0_6.length : Int) ≤ 9223372036854775807 := by have := hr0_6.2.1; omega
  have HB := Aside0.mk (show ∀ o o', Below w.heap.size w ((w.alloc o).alloc o') from fun o o' => below_alloc (below_alloc (Below.refl _ _) o) o')
  have HR0 := Aside0.mk hr0_6
  have HR1 := Aside0.mk hr1
  have HR2 := Aside0.mk hr2
  have HASK := Aside0.mk (show ∀ o o', Calls Try.prog 64 #[.agg #[.string a0_0, .int .i64 a0_1, .int .i64 a0_2, .int .i64 a0_3, .int .i64 a0_4, .int .i64 a0_5, .slice A0_6 l0_6.length c0_6], .slice A1 l1.length c1] ((w.alloc o).alloc o') fun e w' => e = .returned (.int .i64 (askV a0_1 a0_2 a0_3 a0_4 a0_5 l0_6 l1)) ∧ Below ((w.alloc o).alloc o').heap.size ((w.alloc o).alloc o') w'
    from fun o o' => proof_asked.calls a0_0 a0_1 a0_2 a0_3 a0_4 a0_5 A0_6 c0_6 l0_6 A1 c1 l1 _ _ (Kd.C_alloc (Kd.C_alloc hr0_6 o) o') hc0_6 (Kd.C_alloc (Kd.C_alloc hr1 o) o') hc1 (ask_eq _ _ _ _ _ _ _ _))
  clear hr0_6 hr1 hr2
  refine callsIn_of_wp_marks Try.func38 rfl trivial ?_ rfl
  simp only [Try.ntmps38, List.size_toArray, List.length_cons, List.length_nil, Nat.reduceAdd, Nat.reduceSub, Array.replicate_succ, Array.replicate_zero, List.push_toArray, List.append_toArray, List.nil_append, List.cons_append]
  gi_wp2_with fail
  refine ⟨trivial, (callsIn_wide.2 (HASK.out _ _)).mono ?_⟩
  rintro e w1 ⟨rfl, hb1⟩
  have k3 := (hb1.block w.heap.size (by simp <;> omega)).trans ((Below.heap_alloc _ _ _ (by simp <;> omega)).trans (heap_alloc_new w _))
  have k6 : w1.heap[w.heap.size + 1]? = some (.cells #[.int .i64 0] 3 (0, 0)) := (hb1.block _ (by simp <;> omega)).trans (by have h_ := heap_alloc_new (w.alloc (Obj.cells #[.string a0_0, .int .i64 a0_1, .int .i64 a0_2, .int .i64 a0_3, .int .i64 a0_4, .int .i64 a0_5, .slice A0_6 l0_6.length c0_6] 41)) (Obj.cells #[.int .i64 0] 3); rw [World.size_alloc] at h_; exact h_)
  have HB1 := Aside0.mk ((HB.out _ _).trans (hb1.mono (HB.out _ _).size))
  have K3 := Aside0.mk k3
  have K6 := Aside0.mk k6
  have c6 := (blk_cell k6 0).trans (show _ = some (Value.int .i64 0) from rfl)
  have f6 := blk_frozen k6 0
  have c36 := (blk_cell k3 6).trans (show _ = some _ from rfl)
  have l3' := blk_lt k3
  clear hb1 k3 k6 HASK HB
  by_cases ha : askV a0_1 a0_2 a0_3 a0_4 a0_5 l0_6 l1 = 0
  case neg =>
    have b0 : (askV a0_1 a0_2 a0_3 a0_4 a0_5 l0_6 l1 != 0) = true := by simp [ha]
    have HV := Aside0.mk (show boundV a0_1 a0_2 a0_3 a0_4 a0_5 l0_6 l1 l2 = (0, askV a0_1 a0_2 a0_3 a0_4 a0_5 l0_6 l1) by unfold boundV; rw [if_neg ha])
    clear ha
    gi_wp2
    refine ⟨.tuple #[.int .i64 0, .int .i64 (askV a0_1 a0_2 a0_3 a0_4 a0_5 l0_6 l1)], ?_, ?_, ?_⟩
    · have e6 := set_own K6.out (.int .i64 0)
      have r6 := (blk_cell e6 0).trans (show _ = some _ from rfl)
      have hr : Try.f38.results = #[.cell 6 3, .tmp 7] := rfl
      have hu := Try.underlying3
      simp [results, hr, go_sem, r6, hu, loadVar]
    · rw [HV.out]
    · exact HB1.out.setCell (p := ⟨w.heap.size + 1, 0, none⟩) (by simp) _
  have b0 : (askV a0_1 a0_2 a0_3 a0_4 a0_5 l0_6 l1 != 0) = false := by simp [ha]
  have hq64 := deg_len ha
  have HV := Aside0.mk (show boundV a0_1 a0_2 a0_3 a0_4 a0_5 l0_6 l1 l2 = (if l2.length = 2 + l1.length + l0_6.length ∧ rdOf false l2 0 = true ∧ rdOf false l2 (1 + l1.length + l0_6.length) = false then (mx 0 (lessL (totV l0_6) (acrL l0_6 l1 a0_2 ((l2.drop 1).take l1.length) (l2.drop (1 + l1.length)))), 0) else (0, 200)) by unfold boundV; rw [if_pos ha])
  clear ha
  have bad : ∀ (W : World) (tm : Array Value), W.heap[w.heap.size + 1]? = some (.cells #[.int .i64 0] 3 (0, 0)) → Below w.heap.size w W → tm[6]?.getD undef = .pointer (some ⟨w.heap.size + 1, 0, none⟩) → tm[7]?.getD undef = .int .i64 200 → boundV a0_1 a0_2 a0_3 a0_4 a0_5 l0_6 l1 l2 = (0, 200) →
      bodyPostM Fence.wide 3 Try.prog Try.f38 (fun e w' => e = .returned (.tuple #[.int .i64 (boundV a0_1 a0_2 a0_3 a0_4 a0_5 l0_6 l1 l2).1, .int .i64 (boundV a0_1 a0_2 a0_3 a0_4 a0_5 l0_6 l1 l2).2]) ∧ Below w.heap.size w w') .ret { tmps := tm, defers := [] } W := by
    intro W tm h6 hb h6t h7t hv
    refine ⟨.tuple #[.int .i64 0, .int .i64 200], ?_, ?_, hb⟩
    · have r6 := (blk_cell h6 0).trans (show _ = some _ from rfl)
      have hr : Try.f38.results = #[.cell 6 3, .tmp 7] := rfl
      have hu := Try.underlying3
      simp [results, hr, go_sem, r6, hu, loadVar, h6t, h7t]
    · rw [hv]
  have BAD := Aside0.mk bad
  clear bad
  by_cases hn : l2.length = 2 + l1.length + l0_6.length
  case neg =>
    have HV2 := Aside0.mk (HV.out.trans (if_neg (fun h => hn h.1)))
    by_cases ho : (l1.length : Int) + (l0_6.length : Int) + 2 ≤ 9223372036854775807
    · have b1 : ((l2.length : Int) != 1 + (l1.length : Int) + (l0_6.length : Int) + 1) = true := by simp; omega
      gi_wp2
      exact BAD.out _ _ (set_own K6.out _) (HB1.out.setCell (p := ⟨w.heap.size + 1, 0, none⟩) (by simp) _) rfl rfl HV2.out
    · have bw : ((l2.length : Int) != wrap64 (wrap64 (wrap64 (1 + (l1.length : Int)) + (l0_6.length : Int)) + 1)) = true := bne_iff_ne.2 (wrap_len _ _ _ (by omega) hm1 (by omega) (by omega) (by omega) (by omega))
      gi_wp2
      exact BAD.out _ _ (set_own K6.out _) (HB1.out.setCell (p := ⟨w.heap.size + 1, 0, none⟩) (by simp) _) rfl rfl HV2.out
  have hov : (l1.length : Int) + (l0_6.length : Int) + 2 ≤ 9223372036854775807 := by omega
  obtain ⟨N, hN⟩ : ∃ N : Int, 1 + (l1.length : Int) + (l0_6.length : Int) = N := ⟨_, rfl⟩
  have b1 : ((l2.length : Int) != N + 1) = false := by simp; omega
  have hN0 : 0 ≤ N := by omega
  have hN1 : N ≤ 9223372036854775806 := by omega
  obtain ⟨ac, e, y0⟩ := Kd.at_bool (Kd.C_below HR2.out HB1.out) 0 (by omega) (by omega)
  cases e
  have y0' : w1.cell? ac = some (.bool (rdOf false l2 0)) := y0
  obtain ⟨ac', e, y1⟩ := Kd.at_bool (Kd.C_below HR2.out HB1.out) N (by omega) (by omega)
  obtain rfl : ac = ac' := by injection e
  have i1 : decide (0 ≤ N) = true := decide_eq_true hN0
  have i2 : (N < (l2.length : Int)) = True := eq_true (by omega)
  have i3 : (0 < l2.length) = True := eq_true (by omega)
  have HN := Aside0.mk hn
  clear y0 e hn
  cases hc0 : rdOf false l2 0
  · have HV2 := Aside0.mk (HV.out.trans (if_neg (fun h => by rw [hc0] at h; cases h.2.1)))
    rw [hc0] at y0'
    gi_wp2
    exact BAD.out _ _ (set_own K6.out _) (HB1.out.setCell (p := ⟨w.heap.size + 1, 0, none⟩) (by simp) _) rfl rfl HV2.out
  rw [hN] at HV
  cases hc1' : rdOf false l2 N
  case true =>
    have HV2 := Aside0.mk (HV.out.trans (if_neg (fun h => by rw [hc1'] at h; cases h.2.2)))
    rw [hc0] at y0'
    rw [hc1'] at y1
    gi_wp2
    exact BAD.out _ _ (set_own K6.out _) (HB1.out.setCell (p := ⟨w.heap.size + 1, 0, none⟩) (by simp) _) rfl rfl HV2.out
  rw [hc0] at y0'
  rw [hc1'] at y1
  have HV2 := Aside0.mk (HV.out.trans (if_pos ⟨HN.out, hc0, hc1'⟩))
  have c30 := (blk_cell K3.out 0).trans (show _ = some _ from rfl)
  have c31 := (blk_cell K3.out 1).trans (show _ = some _ from rfl)
  have c32 := (blk_cell K3.out 2).trans (show _ = some _ from rfl)
  have c33 := (blk_cell K3.out 3).trans (show _ = some _ from rfl)
  have c34 := (blk_cell K3.out 4).trans (show _ = some _ from rfl)
  have c35 := (blk_cell K3.out 5).trans (show _ = some _ from rfl)
  gi_wp2_with fail
  refine ⟨trivial, (callsIn_wide.2 (total_calls a0_0 a0_1 a0_2 a0_3 a0_4 a0_5 A0_6 c0_6 l0_6 w1 (Kd.C_below HR0.out HB1.out) hc0_6)).mono ?_⟩
  rintro e w2 ⟨rfl, hb2⟩
  have K3b := Aside0.mk ((hb2.block _ (blk_lt K3.out)).trans K3.out)
  have K6b := Aside0.mk ((hb2.block _ (blk_lt K6.out)).trans K6.out)
  have HB2 := Aside0.mk (HB1.out.trans (hb2.mono HB1.out.size))
  clear c30 c31 c32 c33 c34 c35 c36 c6 f6 y0' y1 i1 i2 i3 b1 hb2 K3 K6 HB1 l3'
  have c6 := (blk_cell K6b.out 0).trans (show _ = some (Value.int .i64 0) from rfl)
  have f6 := blk_frozen K6b.out 0
  have K3c := Aside0.mk (show ∀ v, (w2.setCell ⟨w.heap.size + 1, 0, none⟩ v).heap[w.heap.size]? = _ from fun v => set_far K3b.out (by omega) v)
  have c30 := (blk_cell K3b.out 0).trans (show _ = some _ from rfl)
  have c31 := (blk_cell K3b.out 1).trans (show _ = some _ from rfl)
  have c32 := (blk_cell K3b.out 2).trans (show _ = some _ from rfl)
  have c33 := (blk_cell K3b.out 3).trans (show _ = some _ from rfl)
  have c34 := (blk_cell K3b.out 4).trans (show _ = some _ from rfl)
  have c35 := (blk_cell K3b.out 5).trans (show _ = some _ from rfl)
  have c36 := (blk_cell K3b.out 6).trans (show _ = some _ from rfl)
  have HLEN := Aside0.mk (show 2 + l1.length ≤ l2.length by have := HN.out; omega)
  gi_wp2_with fail
  refine ⟨trivial, (callsIn_wide.2 (across_calls A1 (some ac) c1 c2 l1 l2 _ _ HLEN.out hc2 (by omega))).mono ?_⟩
  rintro e w3 ⟨b2, b4, rfl, hb3, h3p, h3l, h32, h34, hb2', hb4'⟩
  have hs2 : (w2.setCell ⟨w.heap.size + 1, 0, none⟩ (.int .i64 (totV l0_6))).heap.size = w2.heap.size := by simp
  rw [hs2] at hb3 h3p h3l hb2' hb4'
  have K6c := Aside0.mk ((hb3.block _ (blk_lt K6b.out)).trans (set_own K6b.out (.int .i64 (totV l0_6))))
  have HB3 := Aside0.mk ((HB2.out.setCell (p := ⟨w.heap.size + 1, 0, none⟩) (by simp) (.int .i64 (totV l0_6))).trans (hb3.mono HB2.out.size))
  have hl2 := blk_lt K6b.out
  have H3 := Aside0.mk (And.intro h3p (And.intro h3l (And.intro h32 h34)))
  clear c30 c31 c32 c33 c34 c35 c36 c6 f6 h3p h3l h32 h34 hb3 K3c K3b HB2
  gi_wp2_with fail
  have lca : ((l2.drop 1).take l1.length).length = l1.length := by rw [List.length_take, List.length_drop]; have := HLEN.out; omega
  have lcr : (l2.drop (1 + l1.length)).length = l2.length - (1 + l1.length) := by rw [List.length_drop]
  have PARTS := Aside0.mk (show ∀ W', Below w.heap.size w W' → Kd.C k44 W' A1 l1.length l1 ∧ Kd.C k92 W' A0_6 l0_6.length l0_6 ∧ Kd.C Kd.bool W' (some (ac.add 1)) ((l2.drop 1).take l1.length).length ((l2.drop 1).take l1.length) ∧ Kd.C Kd.bool W' (some (ac.add (1 + l1.length))) (l2.drop (1 + l1.length)).length (l2.drop (1 + l1.length)) from fun W' hb => by
    have hC := Kd.C_below HR2.out hb
    refine ⟨Kd.C_below HR1.out hb, Kd.C_below HR0.out hb, by rw [lca]; exact C_part hC 1 l1.length (by have := HLEN.out; omega), ?_⟩
    have h_ := C_part hC (1 + l1.length) (l2.length - (1 + l1.length)) (by have := HLEN.out; omega)
    rw [List.take_of_length_le (by rw [lcr]; exact Nat.le_refl _)] at h_
    rw [lcr]; exact h_)
  have L1 := Aside0.mk lca
  have L2 := Aside0.mk lcr
  have hs3 := HB3.out.size
  have hl3 := blk_lt K6c.out
  clear lca lcr hN hN0 hN1 hov b0
  refine wpIn_rangeFunc_ownG (α := Int) (encs := fun x => #[.int .i64 x]) (Kp := KpM w.heap.size (w.heap.size + 1)) (S := fun ys => ys = acrL l0_6 l1 a0_2 ((l2.drop 1).take l1.length) (l2.drop (1 + l1.length))) (Sp := fun pre => pre <+: acrL l0_6 l1 a0_2 ((l2.drop 1).take l1.length) (l2.drop (1 + l1.length))) (N := (acrL l0_6 l1 a0_2 ((l2.drop 1).take l1.length) (l2.drop (1 + l1.length))).length) (w0 := w3)
    rfl (by decide) (gf := 87) rfl trivial (enters_of Try.func87 (by kernel_rfl) rfl)
    (fun l0 J Jx W hW hJ _ hY h0 => across1_in 2 w.heap.size (w.heap.size + 1) l0 (w2.heap.size + 1) b2 w2.heap.size b4 (by decide) W A1 A0_6 (some (ac.add 1)) (some (ac.add (1 + l1.length))) c1 c0_6 (c2 - 1) (c2 - (1 + l1.length)) l0_6 l1 ((l2.drop 1).take l1.length) (l2.drop (1 + l1.length)) a0_0 a0_1 a0_2 a0_3 a0_4 a0_5
      (fun W' hb => PARTS.out W' ((HB3.out.trans (hW.mono hs3)).trans hb)) (by rw [L1.out]; exact Nat.le_refl _) (by rw [L2.out]; have := HN.out; omega)
      ((hW.block _ (blk_lt H3.out.2.1)).trans H3.out.2.1) (by rw [L1.out]; exact (hW.block _ (blk_lt H3.out.2.2.1)).trans H3.out.2.2.1) ((hW.block _ (blk_lt H3.out.1)).trans H3.out.1) (by rw [L2.out]; exact (hW.block _ (blk_lt H3.out.2.2.2)).trans H3.out.2.2.2)
      (by omega) (by omega) (by omega) (by omega) (by have := hW.size; omega) (by have := hW.size; omega) J Jx hY (fun pre W1 W2 hj hb => hJ pre W1 W2 none hj (grown_of_below hb) (fun r e => by cases e)) h0)
    KpM.trans (fun W l o o' hl h hc _ => KpM.put (by omega) h hc) (Below.refl _ _) (fun _ => rfl)
    (fun pre W => W.heap[w.heap.size + 1]? = some (.cells #[.int .i64 (lessL (totV l0_6) pre)] 3 (0, 0)) ∧ Below w.heap.size w W)
    (fun _ _ _ => False) ?hI (fun _ _ _ _ _ hs _ _ => hs) ⟨K6c.out, HB3.out⟩
    (fun x => { tmps := #[Value.agg #[Value.string a0_0, Value.int IntKind.i64 a0_1, Value.int IntKind.i64 a0_2, Value.int IntKind.i64 a0_3, Value.int IntKind.i64 a0_4, Value.int IntKind.i64 a0_5, Value.slice A0_6 l0_6.length c0_6], Value.slice A1 l1.length c1, Value.slice (some ac) l2.length c2, Value.pointer (some ⟨w.heap.size, 0, none⟩), undef, undef, Value.pointer (some ⟨w.heap.size + 1, 0, none⟩), Value.int IntKind.i64 (askV a0_1 a0_2 a0_3 a0_4 a0_5 l0_6 l1), Value.int IntKind.i64 N, .int .i64 x, Value.agg #[Value.string a0_0, Value.int IntKind.i64 a0_1, Value.int IntKind.i64 a0_2, Value.int IntKind.i64 a0_3, Value.int IntKind.i64 a0_4, Value.int IntKind.i64 a0_5, Value.slice A0_6 l0_6.length c0_6], Value.slice A1 l1.length c1, Value.int IntKind.i64 (askV a0_1 a0_2 a0_3 a0_4 a0_5 l0_6 l1), Value.int IntKind.i64 (askV a0_1 a0_2 a0_3 a0_4 a0_5 l0_6 l1), Value.bool false, undef, Value.slice A1 l1.length c1, Value.int IntKind.i64 l1.length, Value.int IntKind.i64 (1 + l1.length), Value.pointer (some ⟨w.heap.size, 6, none⟩), Value.slice A0_6 l0_6.length c0_6, Value.int IntKind.i64 l0_6.length, Value.int IntKind.i64 N, Value.slice (some ac) l2.length c2, Value.int IntKind.i64 l2.length, Value.int IntKind.i64 N, Value.int IntKind.i64 (N + 1), Value.bool false, Value.bool false, Value.slice (some ac) l2.length c2, Value.pointer (some ac), Value.bool true, Value.bool false, Value.bool false, Value.bool false, Value.slice (some ac) l2.length c2, Value.int IntKind.i64 N, Value.pointer (some (ac.add N.toNat)), Value.bool false, Value.bool false, Value.agg #[Value.string a0_0, Value.int IntKind.i64 a0_1, Value.int IntKind.i64 a0_2, Value.int IntKind.i64 a0_3, Value.int IntKind.i64 a0_4, Value.int IntKind.i64 a0_5, Value.slice A0_6 l0_6.length c0_6], Value.int IntKind.i64 (totV l0_6), Value.agg #[Value.string a0_0, Value.int IntKind.i64 a0_1, Value.int IntKind.i64 a0_2, Value.int IntKind.i64 a0_3, Value.int IntKind.i64 a0_4, Value.int IntKind.i64 a0_5, Value.slice A0_6 l0_6.length c0_6], Value.slice A1 l1.length c1, Value.slice (some ac) l2.length c2, Value.func (Fn.func 87) #[] #[.pointer (some ⟨w2.heap.size + 1, 0, none⟩), .pointer (some ⟨b2, 0, none⟩), .pointer (some ⟨w2.heap.size, 0, none⟩), .pointer (some ⟨b4, 0, none⟩)], .int .i64 x, undef, undef, undef, undef, undef], defers := [] }) ?assign ?body ?done ?stop
  case hI =>
    intro pre X Y row hs hg hr
    exact ⟨(hg.block _ (blk_lt hs.1) (fun e => by have := (hr _ e.symm).1; omega)).trans hs.1, hs.2.grown hg hs.2.size (fun k e => by have := (hr k e).1; omega)⟩
  case assign =>
    intro l0 x W K hK
    gi_wp2
    exact hK
  case body =>
    rintro l0 pre x W ⟨h6, hB⟩ _
    have d6 : W.cell? ⟨w.heap.size + 1, 0, none⟩ = some (.int .i64 (lessL (totV l0_6) pre)) := (blk_cell h6 0).trans rfl
    have g6 := blk_frozen h6 0
    have H6 := Aside0.mk h6
    have HBB := Aside0.mk hB
    clear h6 hB
    gi_wp2
    refine ⟨(KeepsOthers.setCell _ _ _).from _, KpM.set (by omega) _, ?_, HBB.out.setCell (p := ⟨w.heap.size + 1, 0, none⟩) (by simp) _⟩
    rw [lessL_snoc]; exact set_own H6.out _
  case done =>
    rintro D ys W hD rfl ⟨h6, hB⟩ hK
    obtain ⟨T, hT⟩ : ∃ T, lessL (totV l0_6) (acrL l0_6 l1 a0_2 ((l2.drop 1).take l1.length) (l2.drop (1 + l1.length))) = T := ⟨_, rfl⟩
    rw [hT] at h6 HV2
    have d6 := (blk_cell h6 0).trans (show _ = some (Value.int .i64 _) from rfl)
    have g6 := blk_frozen h6 0
    have HDD := Aside0.mk (show D ≠ w.heap.size + 1 by omega)
    have HDW := Aside0.mk (show w.heap.size ≤ D by omega)
    have good : ∀ (x : Int) (tm : Array Value), x = mx 0 T → tm[6]?.getD undef = .pointer (some ⟨w.heap.size + 1, 0, none⟩) → tm[7]?.getD undef = .int .i64 0 →
        bodyPostM Fence.wide 3 Try.prog Try.f38 (fun e w' => e = .returned (.tuple #[.int .i64 (boundV a0_1 a0_2 a0_3 a0_4 a0_5 l0_6 l1 l2).1, .int .i64 (boundV a0_1 a0_2 a0_3 a0_4 a0_5 l0_6 l1 l2).2]) ∧ Below w.heap.size w w') .ret { tmps := tm, defers := [{ target := .collected D, args := #[] }] } (W.setCell ⟨w.heap.size + 1, 0, none⟩ (.int .i64 x)) := by
      intro x tm hx h6t h7t
      have e6 := set_own h6 (.int .i64 x)
      have b6 : Below w.heap.size w (W.setCell ⟨w.heap.size + 1, 0, none⟩ (.int .i64 x)) := hB.setCell (p := ⟨w.heap.size + 1, 0, none⟩) (by simp) _
      have kD := set_far hK HDD.out (.int .i64 x)
      refine ⟨by simp, .inl ⟨_, _, rfl, run_takeDeferred kD, ?_⟩⟩
      refine ⟨.tuple #[.int .i64 x, .int .i64 0], ?_, ?_, b6.grown (grownBy_putObj' _ D _) b6.size (fun k e => by cases e; exact HDW.out)⟩
      · have r6 := (blk_cell ((World.putObj_heap_other (o := .deferred none) (Ne.symm HDD.out)).trans e6) 0).trans (show _ = some _ from rfl)
        have hr : Try.f38.results = #[.cell 6 3, .tmp 7] := rfl
        have hu := Try.underlying3
        simp [results, hr, go_sem, r6, hu, loadVar, h6t, h7t]
      · rw [HV2.out, hx]
    have GOOD := Aside0.mk good
    clear h6 hB hK good hT HV HV2 BAD H3 PARTS L1 L2
    gi_wp2
    all_goals exact GOOD.out _ _ (by unfold mx; split <;> omega) rfl rfl
  case stop =>
    rintro D cc pre W _ _ h _
    exact h.elim
theorem proof_Bound.calls (a0_0 : ByteArray) (a0_1 a0_2 a0_3 a0_4 a0_5 : Int) (A0_6 : Option Addr) (c0_6 : Nat) (l0_6 : List S92) (A1 : Option Addr) (c1 : Nat) (l1 : List S44) (A2 : Option Addr) (c2 : Nat) (l2 : List Bool) (r1 r2 : Int) (w : World)
    (hr0_6 : Kd.C k92 w A0_6 l0_6.length l0_6) (hc0_6 : l0_6.length ≤ c0_6) (hr1 : Kd.C k44 w A1 l1.length l1) (hc1 : l1.length ≤ c1) (hr2 : Kd.C Kd.bool w A2 l2.length l2) (hc2 : l2.length ≤ c2) (h : proof_Bound.f a0_0 a0_1 a0_2 a0_3 a0_4 a0_5 l0_6 l1 l2 = some (r1, r2)) :
    Calls Try.prog 38 #[.agg #[.string a0_0, .int .i64 a0_1, .int .i64 a0_2, .int .i64 a0_3, .int .i64 a0_4, .int .i64 a0_5, .slice A0_6 l0_6.length c0_6], .slice A1 l1.length c1, .slice A2 l2.length c2] w fun e w' => e = .returned (.tuple #[.int .i64 r1, .int .i64 r2]) ∧ Below w.heap.size w w' := by
  have e := Option.some.inj h
  have := callsIn_wide.1 (bound_in a0_0 a0_1 a0_2 a0_3 a0_4 a0_5 A0_6 c0_6 l0_6 A1 c1 l1 A2 c2 l2 w hr0_6 hc0_6 hr1 hc1 hr2 hc2)
  rw [e] at this
  exact this
end Go.Proofs.Ytadeidhefjifaaa.Px
end
