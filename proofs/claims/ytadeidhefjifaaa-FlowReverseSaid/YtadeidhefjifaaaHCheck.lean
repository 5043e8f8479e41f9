/- Contract of flow.Check: it answers whether a network is valid; the slice of edges is read. -/
import Derived.Test.YtadeidhefjifaaaPx0
import Derived.Laws.EntriesVeiled
namespace Go.Proofs.Ytadeidhefjifaaa.Px
set_option linter.unusedVariables false
set_option linter.unusedSimpArgs false
open Go.RowKit Go.Proofs.YtadeidhefjifaaaW.PrintWords Go.Proofs.YtadeidhefjifaaaW.PrintLast Go.Proofs.YtadeidhefjifaaaW.PrintMore
/-- is v one of the nodes 0 .. n-1 -/
def nodeB (n v : Int) : Bool := decide (0 ≤ v) && decide (v < n)
/-- is an edge not valid -/
def badE (n : Int) (x : S61) : Bool := !nodeB n x.f0 || !nodeB n x.f1 || x.f0 == x.f1 || decide (x.f2 < 0) || decide (1073741824 < x.f2)
/-- the place of the first element that fits, counted from i on; -1 if none fits -/
def fIdx {α : Type} (p : α → Bool) : List α → Int → Int
  | [], _ => -1
  | x :: l, i => if p x = true then i else fIdx p l (i + 1)
theorem fIdx_any {α : Type} (p : α → Bool) : ∀ (l : List α) (i : Int), 0 ≤ i → decide (0 ≤ fIdx p l i) = l.any p
  | [], i, _ => by simp [fIdx]
  | x :: l, i, h => by
    simp only [fIdx, List.any_cons]
    by_cases hp : p x = true
    · simp [hp, h]
    · simp only [hp]; simpa using fIdx_any p l (i + 1) (by omega)
theorem chk1 (v n : Int) (B : Nat) (w : World) (hc : w.cell? ⟨B, 0, none⟩ = some (.int .i64 n)) :
    Calls Try.prog 45 #[.int .i64 v, .pointer (some ⟨B, 0, none⟩)] w fun e w' => e = .returned (.bool (nodeB n v)) ∧ w = w' := by
  unfold nodeB
  by_cases h1 : 0 ≤ v
  · have b1 : decide (0 ≤ v) = true := decide_eq_true h1
    have b2 : decide (v < 0) = false := decide_eq_false (by omega)
    go_enter Try.func45, Try.ntmps45
    go_wp2
    go_ret
    exact ⟨by simp; omega, rfl⟩
  · have b1 : decide (0 ≤ v) = false := decide_eq_false h1
    go_enter Try.func45, Try.ntmps45
    go_wp2
    go_ret
    exact ⟨by simp, rfl⟩
theorem cell_lt {w : World} {a : Addr} {v : Value} (h : w.cell? a = some v) (o : Obj) : (w.alloc o).cell? a = some v := pw_cell_below (below_alloc (Below.refl _ _) o) h
theorem below_cell {w W : World} (hb : Below w.heap.size w W) {a : Addr} {v : Value} (h : w.cell? a = some v) : W.cell? a = some v := pw_cell_below hb h
theorem drop_rd (l : List S61) (i : Int) (h0 : 0 ≤ i) (h : i < l.length) : l.drop i.toNat = rd_T61 l i :: l.drop (i + 1).toNat := by
  rw [List.drop_eq_getElem_cons (show i.toNat < l.length by omega), show (i + 1).toNat = i.toNat + 1 by omega]; congr 1; simp [rd_T61, List.getD, show i.toNat < l.length by omega]
set_option maxHeartbeats 1000000 in
theorem chk2 (n : Int) (x : S61) (Bf Bn : Nat) (w : World) (hn : w.cell? ⟨Bn, 0, none⟩ = some (.int .i64 n)) (hf : w.cell? ⟨Bf, 0, none⟩ = some (.func (.func 45) #[] #[.pointer (some ⟨Bn, 0, none⟩)])) :
    Calls Try.prog 47 #[.agg #[.int .i64 x.f0, .int .i64 x.f1, .int .i64 x.f2], .pointer (some ⟨Bf, 0, none⟩)] w fun e w' => e = .returned (.bool (badE n x)) ∧ Below w.heap.size w w' := by
  have hu61 := Try.underlying61
  have hn' := fun o => cell_lt hn o
  have hf' := fun o => cell_lt hf o
  have hb : ∀ o, Below w.heap.size w (w.alloc o) := fun o => below_alloc (Below.refl _ _) o
  unfold badE
  by_cases b1 : nodeB n x.f0 = true
  · by_cases b2 : nodeB n x.f1 = true
    · by_cases b3 : x.f0 = x.f1
      · have b3b : (x.f0 == x.f1) = true := beq_iff_eq.mpr b3
        clear b3
        go_enter Try.func47, Try.ntmps47
        go_wp2_with (go_at_call 45; refine (chk1 _ n _ _ (hn' _)).mono ?_; rintro e w' ⟨rfl, rfl⟩)
        go_ret
        exact ⟨by simp [b1, b2, b3b], hb _⟩
      · have b3b : (x.f0 == x.f1) = false := beq_eq_false_iff_ne.mpr b3
        clear b3
        by_cases b4 : x.f2 < 0
        · have b4b : decide (x.f2 < 0) = true := decide_eq_true b4
          clear b4
          go_enter Try.func47, Try.ntmps47
          go_wp2_with (go_at_call 45; refine (chk1 _ n _ _ (hn' _)).mono ?_; rintro e w' ⟨rfl, rfl⟩)
          go_ret
          exact ⟨by simp [b1, b2, b3b, b4b], hb _⟩
        · have b4b : decide (x.f2 < 0) = false := decide_eq_false b4
          clear b4
          go_enter Try.func47, Try.ntmps47
          go_wp2_with (go_at_call 45; refine (chk1 _ n _ _ (hn' _)).mono ?_; rintro e w' ⟨rfl, rfl⟩)
          go_ret
          exact ⟨by simp [b1, b2, b3b, b4b], hb _⟩
    · have b2' : nodeB n x.f1 = false := by simpa using b2
      clear b2
      go_enter Try.func47, Try.ntmps47
      go_wp2_with (go_at_call 45; refine (chk1 _ n _ _ (hn' _)).mono ?_; rintro e w' ⟨rfl, rfl⟩)
      go_ret
      exact ⟨by simp [b1, b2'], hb _⟩
  · have b1' : nodeB n x.f0 = false := by simpa using b1
    clear b1
    go_enter Try.func47, Try.ntmps47
    go_wp2_with (go_at_call 45; refine (chk1 _ n _ _ (hn' _)).mono ?_; rintro e w' ⟨rfl, rfl⟩)
    go_ret
    exact ⟨by simp [b1'], hb _⟩
set_option maxHeartbeats 1000000 in
set_option maxRecDepth 100000 in
theorem idxFunc61 (n : Int) (Bf Bn : Nat) (A : Option Addr) (c : Nat) (l : List S61) (w : World) (hr : Kd.C k61 w A l.length l) (hc : l.length ≤ c)
    (hn : w.cell? ⟨Bn, 0, none⟩ = some (.int .i64 n)) (hf : w.cell? ⟨Bf, 0, none⟩ = some (.func (.func 45) #[] #[.pointer (some ⟨Bn, 0, none⟩)])) :
    Calls Try.prog 73 #[.slice A l.length c, .func (.func 47) #[] #[.pointer (some ⟨Bf, 0, none⟩)]] w fun e w' => e = .returned (.int .i64 (fIdx (badE n) l 0)) ∧ Below w.heap.size w w' := by
  have hu61 := Try.underlying61
  have hm : (l.length : Int) ≤ 9223372036854775807 := by have := hr.2.1; omega
  have HR := Aside0.mk hr
  have HN := Aside0.mk hn
  have HF := Aside0.mk hf
  clear hr hn hf
  go_enter Try.func73, Try.ntmps73
  go_wp2_with fail
  go_loopw [8] (fun v wr => ∃ i : Int, v = .int .i64 i ∧ 0 ≤ i ∧ i ≤ l.length ∧ Aside0 (fIdx (badE n) (l.drop i.toNat) i = fIdx (badE n) l 0) ∧ Aside0 (Below w.heap.size w wr)) (fun v _ => l.length - (intOf v).toNat)
  case atStart => exact ⟨0, rfl, by omega, by omega, ⟨rfl⟩, ⟨Below.refl _ _⟩⟩
  case round =>
    obtain ⟨i, rfl, h0, h1, HI, HB⟩ := hrel
    by_cases hlt : i < l.length
    · have b0 : decide (i < (l.length : Int)) = true := decide_eq_true hlt
      have b1 : decide (0 ≤ i) = true := decide_eq_true h0
      obtain ⟨ad, e, x0, x1, x2⟩ := at_T61 (Kd.C_below HR.out HB.out) i h0 hlt
      cases e
      have hd := Aside0.mk (drop_rd l i h0 hlt)
      have HN' := below_cell HB.out HN.out
      have HF' := below_cell HB.out HF.out
      go_wp2_with (go_at_call 47; refine (chk2 n (rd_T61 l i) Bf Bn _ HN' HF').mono ?_; rintro e w1 ⟨rfl, hb1⟩)
      · go_ret
        refine ⟨?_, HB.out.trans (hb1.mono HB.out.size)⟩
        have hI := HI.out
        rw [hd.out, fIdx, if_pos (by assumption)] at hI
        rw [hI]; rfl
      · have hI := HI.out
        rw [hd.out, fIdx, if_neg (by simp [*])] at hI
        go_roundw
        case rel => exact ⟨i + 1, rfl, by omega, by omega, ⟨hI⟩, ⟨HB.out.trans (hb1.mono HB.out.size)⟩⟩
        case measure => simp [intOf]; omega
    · have b0 : decide (i < (l.length : Int)) = false := decide_eq_false hlt
      have hI := HI.out
      rw [List.drop_eq_nil_of_le (by omega), fIdx] at hI
      have HI' := Aside0.mk hI
      clear hI
      go_wp2
      go_ret
      exact ⟨by rw [← HI'.out]; rfl, HB.out⟩
set_option maxHeartbeats 1000000 in
set_option maxRecDepth 100000 in
theorem contains61 (n : Int) (Bf Bn : Nat) (A : Option Addr) (c : Nat) (l : List S61) (w : World) (hr : Kd.C k61 w A l.length l) (hc : l.length ≤ c)
    (hn : w.cell? ⟨Bn, 0, none⟩ = some (.int .i64 n)) (hf : w.cell? ⟨Bf, 0, none⟩ = some (.func (.func 45) #[] #[.pointer (some ⟨Bn, 0, none⟩)])) :
    Calls Try.prog 46 #[.slice A l.length c, .func (.func 47) #[] #[.pointer (some ⟨Bf, 0, none⟩)]] w fun e w' => e = .returned (.bool (l.any (badE n))) ∧ Below w.heap.size w w' := by
  have h := fIdx_any (badE n) l 0 (by omega)
  have H := Aside0.mk h
  clear h
  go_enter Try.func46, Try.ntmps46
  go_wp2_with (go_at_call 73; refine (idxFunc61 n Bf Bn A c l _ hr hc hn hf).mono ?_; rintro e w1 ⟨rfl, hb1⟩)
  go_ret
  exact ⟨by rw [← H.out]; rfl, hb1⟩

/-- flow.Check's answer -/
def chkV (n : Int) (l : List S61) : Int := if n < 2 ∨ 4096 < n ∨ 65536 < (l.length : Int) then 180 else if l.any (badE n) = true then 180 else 0
def flow_Check.f (a0 : Int) (l1 : List S61) : Option Int := some (chkV a0 l1)
set_option maxHeartbeats 1000000 in
set_option maxRecDepth 100000 in
theorem flow_Check.calls (a0 : Int) (A1 : Option Addr) (c1 : Nat) (l1 : List S61) (r : Int) (w : World) (hr1 : Kd.C k61 w A1 l1.length l1) (hc1 : l1.length ≤ c1) (h : flow_Check.f a0 l1 = some r) :
    Calls Try.prog 25 #[.int .i64 a0, .slice A1 l1.length c1] w fun e w' => e = .returned (.int .i64 r) ∧ Below w.heap.size w w' := by
  have hm : (l1.length : Int) ≤ 9223372036854775807 := by have := hr1.2.1; omega
  obtain rfl := Option.some.inj h
  clear h
  have HR := Aside0.mk hr1
  clear hr1
  have hb : ∀ o, Below w.heap.size w (w.alloc o) := fun o => below_alloc (Below.refl _ _) o
  have hb2 : ∀ o o2, Below w.heap.size w ((w.alloc o).alloc o2) := fun o o2 => below_alloc (hb o) o2
  have HB := Aside0.mk hb
  have HB2 := Aside0.mk hb2
  clear hb hb2
  by_cases h1 : a0 < 2
  · have b1 : decide (a0 < 2) = true := decide_eq_true h1
    have hv : chkV a0 l1 = 180 := by unfold chkV; rw [if_pos (.inl h1)]
    have HV := Aside0.mk hv
    clear hv h1
    go_enter Try.func25, Try.ntmps25
    go_wp2
    go_ret
    exact ⟨by rw [HV.out]; rfl, HB.out _⟩
  · have b1 : decide (a0 < 2) = false := decide_eq_false h1
    by_cases h2 : 4096 < a0
    · have b2 : decide (4096 < a0) = true := decide_eq_true h2
      have hv : chkV a0 l1 = 180 := by unfold chkV; rw [if_pos (.inr (.inl h2))]
      have HV := Aside0.mk hv
      clear hv h1 h2
      go_enter Try.func25, Try.ntmps25
      go_wp2
      go_ret
      exact ⟨by rw [HV.out]; rfl, HB.out _⟩
    · have b2 : decide (4096 < a0) = false := decide_eq_false h2
      by_cases h3 : 65536 < (l1.length : Int)
      · have b3 : decide (65536 < (l1.length : Int)) = true := decide_eq_true h3
        have hv : chkV a0 l1 = 180 := by unfold chkV; rw [if_pos (.inr (.inr h3))]
        have HV := Aside0.mk hv
        clear hv h1 h2 h3
        go_enter Try.func25, Try.ntmps25
        go_wp2
        go_ret
        exact ⟨by rw [HV.out]; rfl, HB.out _⟩
      · have b3 : decide (65536 < (l1.length : Int)) = false := decide_eq_false h3
        have hv : chkV a0 l1 = if l1.any (badE a0) = true then 180 else 0 := by unfold chkV; rw [if_neg (by omega)]
        have HV := Aside0.mk hv
        clear hv h1 h2 h3
        go_enter Try.func25, Try.ntmps25
        go_wp2_with fail
        have c1_ : ((w.alloc (Obj.cells #[Value.int IntKind.i64 a0] 3)).alloc (Obj.cells #[Value.func (Fn.func 45) #[] #[Value.pointer (some ⟨w.heap.size, 0, none⟩)]] 73)).cell? ⟨w.heap.size, 0, none⟩ = some (.int .i64 a0) := by go_simp
        have c2_ : ((w.alloc (Obj.cells #[Value.int IntKind.i64 a0] 3)).alloc (Obj.cells #[Value.func (Fn.func 45) #[] #[Value.pointer (some ⟨w.heap.size, 0, none⟩)]] 73)).cell? ⟨w.heap.size + 1, 0, none⟩ = some (.func (.func 45) #[] #[.pointer (some ⟨w.heap.size, 0, none⟩)]) := by go_simp
        have hr2 := Kd.C_below HR.out (HB2.out (Obj.cells #[Value.int IntKind.i64 a0] 3) (Obj.cells #[Value.func (Fn.func 45) #[] #[Value.pointer (some ⟨w.heap.size, 0, none⟩)]] 73))
        refine (contains61 a0 _ _ A1 c1 l1 _ hr2 hc1 c1_ c2_).mono ?_
        rintro e w1 ⟨rfl, hb1⟩
        have hb3 := (HB2.out _ _).trans (hb1.mono (HB2.out _ _).size)
        clear hr2 c1_ c2_ hb1
        have HB3 := Aside0.mk hb3
        clear hb3
        go_wp2
        all_goals (go_ret; exact ⟨by rw [HV.out]; simp [*], HB3.out⟩)
end Go.Proofs.Ytadeidhefjifaaa.Px
