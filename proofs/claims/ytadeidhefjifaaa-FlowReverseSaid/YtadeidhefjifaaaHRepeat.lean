/- slices.Repeat of one -1. -/
import Derived.Test.YtadeidhefjifaaaHRegion
import Derived.Test.YtadeidhefjifaaaHNew
import Derived.Laws.CopyOwn
import Derived.Deep.RegionHeld3
import Derived.Laws.BitsLemmas
set_option linter.unusedVariables false
set_option linter.unusedSimpArgs false
namespace Go.Proofs.Ytadeidhefjifaaa.Px
open Go.RowKit Go.Proofs.YtadeidhefjifaaaW.PrintWords Go.Proofs.YtadeidhefjifaaaW.PrintLast Go.Proofs.YtadeidhefjifaaaW.PrintMore
set_option maxHeartbeats 2000000 in
set_option maxRecDepth 100000 in
theorem mul_calls (w : World) (n : Nat) (hn : n ≤ 4096) : Calls Try.prog 89 #[.int .u64 1, .int .u64 n] w fun e w' => e = .returned (.tuple #[.int .u64 0, .int .u64 n]) ∧ w = w' := by
  have n0 : (0 : Int) ≤ n := by omega
  have n1 : (n : Int) ≤ 4096 := by omega
  have m1 : Go.bits .and .u64 1 4294967295 = 1 := by decide +kernel
  have mn : Go.bits .and .u64 (n : Int) 4294967295 = n := by
    have e : (4294967295 : Int) = ((4294967295 : Nat) : Int) := rfl
    rw [e, (bits_nat .u64 32 (by decide) (fun k h0 h1 => by simp [IntKind.wrap, IntKind.bits, IntKind.signed]; omega) n 4294967295 (by omega) (by omega)).1]
    rw [show (4294967295 : Nat) = 2 ^ 32 - 1 from rfl, Nat.and_two_pow_sub_one_eq_mod, Nat.mod_eq_of_lt (by omega)]
  have m0 : Go.bits .and .u64 0 4294967295 = 0 := by decide +kernel
  have hq : (n : Int) / 4294967296 = 0 := by omega
  have hwn : IntKind.u64.wrap (n : Int) = n := by simp [IntKind.wrap, IntKind.bits, IntKind.signed]; omega
  have hw0 : IntKind.u64.wrap 0 = 0 := by decide +kernel
  go_enter Try.func89, Try.ntmps89
  go_wp2
  go_ret2
  exact ⟨rfl, rfl⟩
theorem copy_wp {P : Program} {o : Oper} {a : Act} {w : World} {K : Act → World → Prop} {Q : Exit → Act → World → Prop} (hgd : o.guard = none) (d s : Operand) (dT sT : TypeId)
    (ho : o.op = .call { callee := .builtin .copy, args := #[d, s], argTypes := #[dT, sT] }) (elem : TypeId) (hu : P.underlying dT = some (.slice elem)) (hsz : (P.info? elem).map (·.size) = some 1)
    (dp sp : Option Addr) (dLen dCap sLen sCap : Nat) (hd : a.eval d = .slice dp dLen dCap) (hs : a.eval s = .slice sp sLen sCap)
    (g off : Nat) (cur : List Value) (t : TypeId) (hg : w.heap[g]? = some (.cells cur.toArray t (0, 0))) (cs : List Value) (hn : cs.length = Nat.min sLen dLen)
    (hpos : 0 < cs.length → dp = some ⟨g, off, none⟩ ∧ ∃ ad, sp = some ad ∧ ∀ (j : Nat) (v : Value), cs[j]? = some v → w.cell? (ad.add j) = some v)
    (hfit : off + cs.length ≤ cur.length) (h1 : ∀ v ∈ cs, v.oneCell' = true) (B : Nat) (w0 : World) (hb : RowKit.Below B w0 w) (hBg : B ≤ g)
    (h : ∀ w', RowKit.Hid (w'.heap[g]? = some (.cells (splice cur off cs).toArray t (0, 0))) → RowKit.Below B w0 w' → K (a.put o.dst (goInt cs.length)) w') : Oper.wp P o a w K Q :=
  of_wanted (ops := #[]) (q := True) hgd (step_copy_splice hgd d s dT sT ho elem hu hsz dp sp dLen dCap sLen sCap hd hs g off cur t hg cs hn hpos hfit h1 B w0 hb hBg h)
theorem splice_rep (cur : List Value) (k m n : Nat) (hl : cur.length = n) (hk : k + m ≤ n) (hp : cur.take k = List.replicate k (.int .i64 (-1))) :
    (splice cur k (List.replicate m (.int .i64 (-1)))).length = n ∧ (splice cur k (List.replicate m (.int .i64 (-1)))).take (k + m) = List.replicate (k + m) (.int .i64 (-1)) := by
  refine ⟨by rw [length_splice _ _ _ (by simpa [hl] using hk), hl], ?_⟩
  unfold splice
  rw [hp, ← List.append_assoc, List.take_append_of_le_length (by simp), List.replicate_append_replicate, List.take_of_length_le (by simp)]
theorem rep_args (cur : List Value) (k n m : Nat) (hm : m = min k (n - k)) (h1 : cur.length = n) (h2 : cur.take k = List.replicate k (.int .i64 (-1))) (hk : k ≤ n) :
    (List.replicate m (Value.int .i64 (-1))).length = Nat.min k (n - k) ∧ k + (List.replicate m (Value.int .i64 (-1))).length ≤ cur.length ∧ ∀ (j : Nat) (v : Value), (List.replicate m (Value.int .i64 (-1)))[j]? = some v → cur[j]? = some v := by
  refine ⟨by rw [List.length_replicate]; exact hm, by rw [List.length_replicate]; omega, fun j v hj => ?_⟩
  have hjm : j < m := by
    by_cases h : j < m
    · exact h
    · rw [List.getElem?_replicate, if_neg h] at hj; cases hj
  rw [List.getElem?_replicate, if_pos hjm] at hj
  have hjk : j < k := by omega
  have e : (cur.take k)[j]? = some v := by rw [h2, List.getElem?_replicate, if_pos hjk]; exact hj
  rwa [List.getElem?_take_of_lt hjk] at e
theorem wrap_sum (k m : Nat) (h1 : (k : Int) ≤ 4096) (h2 : (m : Int) ≤ 4096) : IntKind.i64.wrap ((k : Int) + (m : Int)) = (k : Int) + (m : Int) := by rw [IntKind.wrap_i64]; omega
set_option maxHeartbeats 4000000 in
set_option maxRecDepth 100000 in
theorem repeat_calls (w : World) (n : Nat) (b : Nat) (h1 : 1 ≤ n) (hn : n ≤ 4096) (hb : w.cell? ⟨b, 0, none⟩ = some (.int .i64 (-1))) :
    Calls Try.prog 74 #[.slice (some ⟨b, 0, none⟩) 1 1, .int .i64 n] w fun e w' => e = .returned (.slice (some ⟨w.heap.size, 0, none⟩) n n) ∧ w'.heap[w.heap.size]? = some (.cells (Array.replicate n (.int .i64 (-1))) 3 (0, 0)) ∧ Below w.heap.size w w' := by
  obtain ⟨cM, hcM⟩ : ∃ x : List Value, x.toArray = madeCells #[.int .i64 0] n := ⟨(madeCells #[.int .i64 0] n).toList, rfl⟩
  have n0 : (0 : Int) ≤ n := by omega
  have n1 : (n : Int) ≤ 4096 := by omega
  have n2 : (1 : Int) ≤ n := by omega
  have d0 : decide ((n : Int) < 0) = false := decide_eq_false (by omega)
  have hmk : ∀ W : World, (Instr.makeSlice 23 (.int .i64 (n : Int)) (.int .i64 (n : Int))).run Try.prog W = .ok (.slice (some ⟨W.heap.size, 0, none⟩) n n) (W.alloc (.cells cM.toArray 3)) := fun W => by
    rw [hcM]; exact run_make_row' 23 3 (.int .i64 0) 8 Try.underlying23 info3 rfl .i64 .i64 n (by omega) (by omega) W
  have hcl : cM.length = n := by have := congrArg Array.size hcM; simpa [size_madeCells] using this
  have hsz : (Try.prog.info? 3).map (·.size) = some 1 := by kernel_rfl
  have HSZ := Aside0.mk hsz
  have HCL := Aside0.mk hcl
  have hbl : b < w.heap.size := World.block_lt_of_cell? w _ hb
  have HCS := Aside0.mk (cell_lt hb (.cells cM.toArray 3))
  have HNW := Aside0.mk (heap_alloc_new w (.cells cM.toArray 3))
  have HBA := Aside0.mk (below_alloc (Below.refl w.heap.size w) (.cells cM.toArray 3))
  obtain ⟨R, hR⟩ : ∃ R, R = w.heap.size := ⟨_, rfl⟩
  have HR := Aside0.mk hR
  clear hcM hsz hcl
  go_enter Try.func74, Try.ntmps74
  go_upto_region 7 with (go_at_call 89; refine (mul_calls w n hn).mono ?_; rintro e w1 ⟨rfl, rfl⟩)
  rw [← hR]
  clear hmk hR hb hbl
  go_step
  go_step
  go_step
  go_step
  go_step
  go_step
  go_step
  refine wpList_copy_splice rfl (.tmp 31) (.tmp 32) 23 23 rfl 3 Try.underlying23 HSZ.out (some ⟨R, 0, none⟩) (some ⟨b, 0, none⟩) n n 1 1 (by rfl) (by rfl) R 0 cM 3 (by rw [HR.out]; exact HNW.out) [.int .i64 (-1)] (show 1 = min 1 n by omega) (fun _ => ⟨rfl, _, rfl, fun j v hj => ?c3⟩) (by simp [HCL.out]; omega) (by simp [Value.oneCell']) w.heap.size w HBA.out (by rw [HR.out]; exact Nat.le_refl _) ?_
  case c3 =>
    cases j with
    | zero => simp at hj; subst hj; rw [add_plain]; exact HCS.out
    | succ j => simp at hj
  intro w2 hw2 hb2
  have HS := Aside0.mk (splice_rep cM 0 1 n HCL.out (by omega) (by simp))
  have HW2 := Aside0.mk hw2.out
  have HB2 := Aside0.mk hb2
  clear hw2 hb2 HCS HNW HBA
  obtain ⟨c1, hc1⟩ : ∃ c1, splice cM 0 [Value.int IntKind.i64 (-1)] = c1 := ⟨_, rfl⟩
  have hs := HS.out
  have hw3 := HW2.out
  rw [show List.replicate 1 (Value.int IntKind.i64 (-1)) = [Value.int IntKind.i64 (-1)] from rfl, hc1] at hs
  rw [hc1] at hw3
  have HS1 := Aside0.mk hs
  have HW3 := Aside0.mk hw3
  clear hs hw3 hc1 HS HW2 HCL
  simp only [List.length_cons, List.length_nil, Act.put, List.setIfInBounds_toArray, List.set_cons_zero, List.set_cons_succ]
  rw [show goInt ((0 + 1 : Nat) : Int) = Value.int .i64 1 from rfl]
  go_wp2_with fail
  go_loopw [8] (fun v wr => ∃ (k : Nat) (cur : List Value), v = .int .i64 k ∧ 1 ≤ k ∧ k ≤ n ∧ Aside0 (cur.length = n ∧ cur.take k = List.replicate k (.int .i64 (-1))) ∧ Aside0 (wr.heap[R]? = some (.cells cur.toArray 3 (0, 0))) ∧ Aside0 (Below w.heap.size w wr)) (fun v _ => n - (intOf v).toNat)
  case atStart => exact ⟨1, c1, rfl, by omega, h1, by simpa using HS1, HW3, HB2⟩
  case round =>
    clear HS1 HW3 HB2
    obtain ⟨k, cur, rfl, k1, k2, HC, HW, HB⟩ := hrel
    have k3 : (0 : Int) ≤ (k : Int) := by omega
    have k4 : (k : Int) ≤ (n : Int) := by omega
    by_cases hlt : k < n
    · have b0 : decide (k < n) = true := decide_eq_true hlt
      have k5 : (k : Int) < (n : Int) := by omega
      go_wp2_with fail
      refine wp_region_noPanic ?_
      refine wp_region_T (by kernel_rfl) (fun _ => True) 9 ?_
      refine wpAnyT_take (i := 0) (v := (.int .i64 k)) (by decide +kernel) (by decide) rfl (by decide +kernel) (by decide +kernel) (by decide +kernel) (fun _ _ _ h => h) (.inl ⟨rfl, fun w' hS' => ?_⟩) True.intro ?_
      · clear hS'; go_simp; all_goals omega
      simp only [List.getElem_toArray, List.getElem_cons_succ, List.getElem_cons_zero, Act.put, List.setIfInBounds_toArray, List.set_cons_zero, List.set_cons_succ]
      refine wpAnyT_take (i := 1) (v := (.slice (some ⟨R, 0, none⟩) n n)) (by decide +kernel) (by decide) rfl (by decide +kernel) (by decide +kernel) (by decide +kernel) (fun _ _ _ h => h) (.inl ⟨rfl, fun w' hS' => ?_⟩) True.intro ?_
      · clear hS'; go_simp; all_goals omega
      simp only [List.getElem_toArray, List.getElem_cons_succ, List.getElem_cons_zero, Act.put, List.setIfInBounds_toArray, List.set_cons_zero, List.set_cons_succ]
      refine wpAnyT_take (i := 2) (v := (.int .i64 k)) (by decide +kernel) (by decide) rfl (by decide +kernel) (by decide +kernel) (by decide +kernel) (fun _ _ _ h => h) (.inl ⟨rfl, fun w' hS' => ?_⟩) True.intro ?_
      · clear hS'; go_simp; all_goals omega
      simp only [List.getElem_toArray, List.getElem_cons_succ, List.getElem_cons_zero, Act.put, List.setIfInBounds_toArray, List.set_cons_zero, List.set_cons_succ]
      refine wpAnyT_take (i := 3) (v := (.slice (some ⟨R, k, none⟩) (n - k) (n - k))) (by decide +kernel) (by decide) rfl (by decide +kernel) (by decide +kernel) (by decide +kernel) (fun _ _ _ h => h) (.inl ⟨rfl, fun w' hS' => ?_⟩) True.intro ?_
      · clear hS'; go_simp; all_goals omega
      simp only [List.getElem_toArray, List.getElem_cons_succ, List.getElem_cons_zero, Act.put, List.setIfInBounds_toArray, List.set_cons_zero, List.set_cons_succ]
      refine wpAnyT_take (i := 4) (v := (.slice (some ⟨R, 0, none⟩) n n)) (by decide +kernel) (by decide) rfl (by decide +kernel) (by decide +kernel) (by decide +kernel) (fun _ _ _ h => h) (.inl ⟨rfl, fun w' hS' => ?_⟩) True.intro ?_
      · clear hS'; go_simp; all_goals omega
      simp only [List.getElem_toArray, List.getElem_cons_succ, List.getElem_cons_zero, Act.put, List.setIfInBounds_toArray, List.set_cons_zero, List.set_cons_succ]
      refine wpAnyT_take (i := 5) (v := (.int .i64 k)) (by decide +kernel) (by decide) rfl (by decide +kernel) (by decide +kernel) (by decide +kernel) (fun _ _ _ h => h) (.inl ⟨rfl, fun w' hS' => ?_⟩) True.intro ?_
      · clear hS'; go_simp; all_goals omega
      simp only [List.getElem_toArray, List.getElem_cons_succ, List.getElem_cons_zero, Act.put, List.setIfInBounds_toArray, List.set_cons_zero, List.set_cons_succ]
      refine wpAnyT_take (i := 6) (v := (.slice (some ⟨R, 0, none⟩) k n)) (by decide +kernel) (by decide) rfl (by decide +kernel) (by decide +kernel) (by decide +kernel) (fun _ _ _ h => h) (.inl ⟨rfl, fun w' hS' => ?_⟩) True.intro ?_
      · clear hS'; go_simp; all_goals omega
      simp only [List.getElem_toArray, List.getElem_cons_succ, List.getElem_cons_zero, Act.put, List.setIfInBounds_toArray, List.set_cons_zero, List.set_cons_succ]
      refine wpAnyT_one (i := 7) rfl rfl (by decide +kernel) ?_
      obtain ⟨m, hm⟩ : ∃ m, m = min k (n - k) := ⟨_, rfl⟩
      have HM := Aside0.mk hm
      have hHW := HW.out
      have HD := Aside0.mk (show wr.drew.heap[R]? = some (.cells cur.toArray 3 (0, 0)) from hHW)
      have HRA := Aside0.mk (rep_args cur k n m hm HC.out.1 HC.out.2 k2)
      have HRB := Aside0.mk (show w.heap.size ≤ R by rw [HR.out]; exact Nat.le_refl _)
      have HRC := Aside0.mk (show ∀ (j : Nat) (v : Value), (List.replicate m (Value.int .i64 (-1)))[j]? = some v → wr.drew.cell? ((⟨R, 0, none⟩ : Addr).add j) = some v from fun j v hj => by
        rw [add_plain, blk_cell HD.out j]; have := HRA.out.2.2 j v hj; simpa using this)
      have HRD := Aside0.mk (show ∀ v ∈ List.replicate m (Value.int .i64 (-1)), v.oneCell' = true from fun v hv => by rw [List.eq_of_mem_replicate hv]; rfl)
      clear hm hHW
      refine copy_wp rfl (.tmp 41) (.tmp 44) 23 23 rfl 3 Try.underlying23 HSZ.out (some ⟨R, k, none⟩) (some ⟨R, 0, none⟩) (n - k) (n - k) k n rfl rfl R k cur 3 HD.out (List.replicate m (.int .i64 (-1))) HRA.out.1 (fun _ => ⟨rfl, _, rfl, HRC.out⟩) HRA.out.2.1 HRD.out w.heap.size w (below_drew HB.out) HRB.out ?_
      intro w2 hw2 hb2
      simp only [List.getElem_toArray, List.getElem_cons_succ, List.getElem_cons_zero, Act.put, List.setIfInBounds_toArray, List.set_cons_zero, List.set_cons_succ, List.length_replicate]
      refine ⟨.inr True.intro, ?_⟩
      have HW2 := Aside0.mk hw2.out
      have HB2 := Aside0.mk hb2
      clear hw2 hb2
      have m0 : (0 : Int) ≤ (m : Int) := by omega
      have m1 : (m : Int) ≤ 4096 := by have := HM.out; omega
      have k6 : (k : Int) ≤ 4096 := by omega
      have hwk : IntKind.i64.wrap ((k : Int) + (m : Int)) = (k : Int) + (m : Int) := wrap_sum k m k6 m1
      refine wpAnyT_one (i := 8) rfl rfl (by decide +kernel) ?_
      unfold Oper.wp
      go_simp
      refine wpAnyT_one (i := 9) rfl rfl (by decide +kernel) ?_
      unfold Oper.wp
      go_simp
      refine wpAnyT_done (by decide +kernel) ?_ _
      refine NoPanic.normal ?_
      clear hwk
      have m2 := HM.out
      go_wp2_with fail
      go_roundw
      case rel =>
        obtain ⟨y1, y2⟩ := HC.out
        obtain ⟨z1, z2⟩ := splice_rep cur k m n y1 (by omega) y2
        exact ⟨k + m, _, by rw [Int.natCast_add], by omega, by omega, ⟨z1, z2⟩, HW2, HB2⟩
      case measure => simp [intOf]; omega
    · have b0 : decide (k < n) = false := decide_eq_false hlt
      have e : k = n := by omega
      have HE := Aside0.mk e
      clear e hlt
      go_wp2
      go_ret
      refine ⟨by rw [← HR.out]; rfl, ?_, HB.out⟩
      rw [← HR.out, HW.out]
      obtain ⟨y1, y2⟩ := HC.out
      rw [HE.out, ← y1, List.take_length, y1] at y2
      rw [y2]
      simp
end Go.Proofs.Ytadeidhefjifaaa.Px
