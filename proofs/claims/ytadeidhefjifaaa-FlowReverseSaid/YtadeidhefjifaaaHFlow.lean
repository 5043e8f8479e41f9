/- What the functions of the flow package answer: no program in sight. -/
import Derived.Test.YtadeidhefjifaaaHMaxO
import Derived.Test.YtadeidhefjifaaaPx2
import Derived.Test.YtadeidhefjifaaaPx3
set_option linter.unusedVariables false
set_option linter.unusedSimpArgs false
namespace Go.Proofs.Ytadeidhefjifaaa.Px
open Go.RowKit Go.Shelf Go.Proofs.YtadeidhefjifaaaW.PrintWords Go.Proofs.YtadeidhefjifaaaW.PrintLast Go.Proofs.YtadeidhefjifaaaW.PrintMore
/-- from some number of rounds on -/
def Ev {α : Type} (f : Nat → Option α) (r : α) : Prop := ∃ K, ∀ k, K ≤ k → f k = some r
section
variable {α β : Type} {f F A B : Nat → Option α} {r x : α} {y : β} {g : Nat → α → Option β} {c : Prop} [Decidable c]
theorem Ev.of (r : α) : Ev (fun _ => some r) r := ⟨0, fun _ _ => rfl⟩
theorem Ev.step (h : Ev F r) (e : ∀ k, f (k + 1) = F k) : Ev f r := by
  obtain ⟨K, h⟩ := h
  refine ⟨K + 1, fun k hk => ?_⟩
  obtain ⟨j, rfl⟩ : ∃ j, k = j + 1 := ⟨k - 1, by omega⟩
  rw [e]; exact h j (by omega)
theorem Ev.congr (h : Ev F r) (e : ∀ k, f k = F k) : Ev f r := by
  obtain ⟨K, h⟩ := h
  exact ⟨K, fun k hk => by rw [e]; exact h k hk⟩
theorem Ev.bind (h : Ev f x) (k : Ev (fun j => g j x) y) : Ev (fun j => (f j).bind (g j)) y := by
  obtain ⟨K, h⟩ := h
  obtain ⟨L, k⟩ := k
  exact ⟨K + L, fun j hj => by show (f j).bind (g j) = _; rw [h j (by omega)]; exact k j (by omega)⟩
theorem Ev.pos (hc : c) (h : Ev A r) : Ev (fun k => if c then A k else B k) r := h.congr fun k => if_pos hc
theorem Ev.neg (hc : ¬ c) (h : Ev B r) : Ev (fun k => if c then A k else B k) r := h.congr fun k => if_neg hc
theorem Ev.eq {r' : α} (h : Ev f r) (e : r = r') : Ev f r' := e ▸ h
theorem Ev.at (h : Ev f r) : ∃ k, f k = some r := by
  obtain ⟨K, h⟩ := h
  exact ⟨K, h K (Nat.le_refl _)⟩
end
theorem wrap_id (x : Int) (h0 : -9223372036854775808 ≤ x) (h1 : x ≤ 9223372036854775807) : wrap64 x = x := by
  unfold wrap64; omega
theorem drop_cons {l : List S61} {i : Int} (h0 : 0 ≤ i) (h : i < l.length) : l.drop i.toNat = rd_T61 l i :: l.drop (i + 1).toNat := drop_rd l i h0 h
theorem drop_consI {l : List Int} {i : Int} (h0 : 0 ≤ i) (h : i < l.length) : l.drop i.toNat = rd l i :: l.drop (i + 1).toNat := by
  rw [List.drop_eq_getElem_cons (show i.toNat < l.length by omega), show (i + 1).toNat = i.toNat + 1 by omega]
  simp [rd, List.getD, show i.toNat < l.length by omega]
open Classical in
theorem ev_check (n : Int) (l : List S61) (s t : Int) : Ev (fun k => flow_check.f k n l s t) (if Good n l s t then 0 else 180) := Ev.step (Ev.of _) (fun k => check_good k n l s t)
abbrev BndG (l : List S61) (fl : List Int) : Prop := FlowM.Bnd S61.f2 l fl
open Classical in
/-- the value of a flow -/
noncomputable def valV (n : Int) (l : List S61) (s t : Int) (fl : List Int) : Int × Int := if Good n l s t ∧ FlowM.Flow S61.f0 S61.f1 S61.f2 n l s t fl then (outsG l fl s, 0) else (0, 180)
theorem val_pos {n : Int} {l : List S61} {s t : Int} {fl : List Int} (h : Good n l s t) (hf : FlowM.Flow S61.f0 S61.f1 S61.f2 n l s t fl) : valV n l s t fl = (outsG l fl s, 0) := if_pos ⟨h, hf⟩
theorem val_neg {n : Int} {l : List S61} {s t : Int} {fl : List Int} (h : ¬ (Good n l s t ∧ FlowM.Flow S61.f0 S61.f1 S61.f2 n l s t fl)) : valV n l s t fl = (0, 180) := if_neg h
open Classical in
/-- the end of both: is what is out zero at every inner node? -/
noncomputable def finV (n s t : Int) (o : Int → Int) (i : Int) : Int × Int := if ∀ v : Int, i ≤ v → v < n → v ≠ s → v ≠ t → o v = 0 then (o s, 0) else (0, 180)
theorem finV_step {n s t : Int} {o : Int → Int} {i : Int} (h : i = s ∨ i = t ∨ o i = 0) : finV n s t o i = finV n s t o (i + 1) := by
  unfold finV
  have : (∀ v : Int, i ≤ v → v < n → v ≠ s → v ≠ t → o v = 0) ↔ (∀ v : Int, i + 1 ≤ v → v < n → v ≠ s → v ≠ t → o v = 0) := by
    refine ⟨fun hh v h1 h2 h3 h4 => hh v (by omega) h2 h3 h4, fun hh v h1 h2 h3 h4 => ?_⟩
    by_cases e : v = i
    · subst e; rcases h with h | h | h
      · exact absurd h h3
      · exact absurd h h4
      · exact h
    · exact hh v (by omega) h2 h3 h4
  by_cases hh : ∀ v : Int, i ≤ v → v < n → v ≠ s → v ≠ t → o v = 0
  · rw [if_pos hh, if_pos (this.1 hh)]
  · rw [if_neg hh, if_neg (fun e => hh (this.2 e))]
theorem finV_bad {n s t : Int} {o : Int → Int} {i : Int} (h1 : i < n) (h2 : i ≠ s) (h3 : i ≠ t) (h4 : o i ≠ 0) : finV n s t o i = (0, 180) := if_neg fun h => h4 (h i (by omega) h1 h2 h3)
theorem finV_end {n s t : Int} {o : Int → Int} {i : Int} (h : n ≤ i) : finV n s t o i = (o s, 0) := if_pos fun v h1 h2 _ _ => by omega
theorem finV_congr {n s t : Int} {o o' : Int → Int} (s0 : 0 ≤ s) (s1 : s < n) (h : ∀ v : Int, 0 ≤ v → v < n → o v = o' v) : finV n s t o 0 = finV n s t o' 0 := by
  unfold finV
  rw [h s s0 s1]
  have : (∀ v : Int, 0 ≤ v → v < n → v ≠ s → v ≠ t → o v = 0) ↔ (∀ v : Int, 0 ≤ v → v < n → v ≠ s → v ≠ t → o' v = 0) :=
    ⟨fun hh v h1 h2 h3 h4 => by rw [← h v h1 h2]; exact hh v h1 h2 h3 h4, fun hh v h1 h2 h3 h4 => by rw [h v h1 h2]; exact hh v h1 h2 h3 h4⟩
  by_cases hh : ∀ v : Int, 0 ≤ v → v < n → v ≠ s → v ≠ t → o v = 0
  · rw [if_pos hh, if_pos (this.1 hh)]
  · rw [if_neg hh, if_neg (fun e => hh (this.2 e))]
theorem fin_val {n : Int} {l : List S61} {s t : Int} {fl : List Int} (h : Good n l s t) (hb : BndG l fl) : finV n s t (outsG l fl) 0 = valV n l s t fl := by
  by_cases hc : ∀ v : Int, 0 ≤ v → v < n → v ≠ s → v ≠ t → outsG l fl v = 0
  · rw [val_pos h ⟨hb, hc⟩]; exact if_pos hc
  · rw [val_neg (fun hf => hc hf.2.cons)]; exact if_neg hc
/-! flow.Value -/
theorem flow_val_l1 (n s t : Int) (o : List Int) (hn : (o.length : Int) = n) (h4 : n ≤ 4096) (s0 : 0 ≤ s) (s1 : s < n) : ∀ (g : Nat) (i : Int), 0 ≤ i → i ≤ n → (n - i).toNat ≤ g →
    Ev (fun k => flow_Value.l1 k s t o o n i) (finV n s t (fun v => rd o v) i) := by
  intro g
  induction g with
  | zero =>
    intro i i0 i1 hg
    refine Ev.step ?_ (fun k => by rw [flow_Value.l1])
    refine Ev.neg (by omega) (Ev.pos s0 (Ev.pos (by omega) ((Ev.of _).eq ?_)))
    rw [finV_end (by omega)]
  | succ g ih =>
    intro i i0 i1 hg
    refine Ev.step ?_ (fun k => by rw [flow_Value.l1])
    by_cases hlt : i < n
    · refine Ev.pos hlt (Ev.pos i0 (Ev.pos (by omega) ?_))
      have hj : ∀ b : Bool, (b = false → i = s ∨ i = t ∨ rd o i = 0) → (b = true → i ≠ s ∧ i ≠ t ∧ rd o i ≠ 0) → Ev (fun k => flow_Value.j2 k s t o o n i b) (finV n s t (fun v => rd o v) i) := by
        intro b h1 h2
        refine Ev.step ?_ (fun k => by rw [flow_Value.j2])
        cases b with
        | true => exact Ev.pos rfl ((Ev.of _).eq (finV_bad hlt (h2 rfl).1 (h2 rfl).2.1 (h2 rfl).2.2).symm)
        | false =>
          refine Ev.neg (by decide) ?_
          rw [wrap_id (i + 1) (by omega) (by omega), finV_step (h1 rfl)]
          exact ih (i + 1) (by omega) (by omega) (by omega)
      by_cases hs : i = s
      · exact Ev.pos hs (hj false (fun _ => .inl hs) (fun h => by cases h))
      · refine Ev.neg hs ?_
        by_cases ht : i = t
        · exact Ev.pos ht (hj false (fun _ => .inr (.inl ht)) (fun h => by cases h))
        · refine Ev.neg ht (hj _ (fun h => .inr (.inr (by simpa using h))) (fun h => ⟨hs, ht, by simpa using h⟩))
    · refine Ev.neg hlt (Ev.pos s0 (Ev.pos (by omega) ((Ev.of _).eq ?_)))
      rw [finV_end (by omega)]
theorem bnd_drop {l : List S61} {fl : List Int} (hl : fl.length = l.length) {i : Int} (i0 : 0 ≤ i) (i1 : i < l.length) : BndG (l.drop i.toNat) (fl.drop i.toNat) ↔ (0 ≤ rd fl i ∧ rd fl i ≤ (rd_T61 l i).f2) ∧ BndG (l.drop (i + 1).toNat) (fl.drop (i + 1).toNat) := by
  rw [drop_cons i0 i1, drop_consI i0 (by omega)]; exact Iff.rfl
open Classical in
theorem flow_val_l0 (n s t : Int) (l : List S61) (fl : List Int) (h : Good n l s t) (hl : fl.length = l.length) : ∀ (g : Nat) (i : Int) (o : List Int), 0 ≤ i → i ≤ l.length → (l.length - i).toNat ≤ g → (o.length : Int) = n →
    (∀ v : Int, 0 ≤ v → v < n → -(1073741824 * i) ≤ rd o v ∧ rd o v ≤ 1073741824 * i) →
    Ev (fun k => flow_Value.l0 k s t fl o l (l.length : Int) i) (if BndG (l.drop i.toNat) (fl.drop i.toNat) then finV n s t (fun v => rd o v + outsG (l.drop i.toNat) (fl.drop i.toNat) v) 0 else (0, 180)) := by
  have hm := h.m
  have hend : ∀ (i : Int) (o : List Int), 0 ≤ i → ¬ i < l.length → (o.length : Int) = n → Ev (fun k => flow_Value.l0 k s t fl o l (l.length : Int) i) (if BndG (l.drop i.toNat) (fl.drop i.toNat) then finV n s t (fun v => rd o v + outsG (l.drop i.toNat) (fl.drop i.toNat) v) 0 else (0, 180)) := by
    intro i o i0 hlt hn
    rw [List.drop_eq_nil_of_le (show l.length ≤ i.toNat by omega), List.drop_eq_nil_of_le (show fl.length ≤ i.toNat by omega)]
    refine Ev.step ?_ (fun k => by rw [flow_Value.l0])
    refine Ev.neg hlt ?_
    rw [if_pos (show BndG [] [] from True.intro), hn]
    refine (flow_val_l1 n s t o hn h.n4 h.f0 h.f1 _ 0 (by omega) (by have := h.n2; omega) (Nat.le_refl _)).eq ?_
    exact finV_congr h.f0 h.f1 (fun v _ _ => by simp [outsG, FlowM.outs])
  intro g
  induction g with
  | zero => intro i o i0 i1 hg hn hb; exact hend i o i0 (by omega) hn
  | succ g ih =>
    intro i o i0 i1 hg hn hb
    by_cases hlt : i < l.length
    · have hx := h.ends _ (rdT_mem l i i0 hlt)
      refine Ev.step ?_ (fun k => by rw [flow_Value.l0])
      refine Ev.pos hlt (Ev.pos i0 (Ev.pos hlt (Ev.pos (by omega) ?_)))
      by_cases h1 : rd fl i < 0
      · refine Ev.pos h1 ((Ev.of _).eq ?_)
        rw [if_neg (fun hb => by have := ((bnd_drop hl i0 hlt).1 hb).1; omega)]
      · refine Ev.neg h1 ?_
        by_cases h2 : rd fl i > (rd_T61 l i).f2
        · refine Ev.pos h2 ((Ev.of _).eq ?_)
          rw [if_neg (fun hb => by have := ((bnd_drop hl i0 hlt).1 hb).1; omega)]
        · refine Ev.neg h2 (Ev.pos hx.1.1 (Ev.pos (by omega) ?_))
          show Ev (fun k => if 0 ≤ (rd_T61 l i).f1 then (if (rd_T61 l i).f1 < (o.length : Int) then (flow_Value.l0 k s t fl ((o.set ((rd_T61 l i).f0).toNat (wrap64 (rd o (rd_T61 l i).f0 + rd fl i))).set ((rd_T61 l i).f1).toNat (wrap64 (rd (o.set ((rd_T61 l i).f0).toNat (wrap64 (rd o (rd_T61 l i).f0 + rd fl i))) (rd_T61 l i).f1 - rd fl i))) l (l.length : Int) (wrap64 (i + 1))) else none) else none) _
          refine Ev.pos hx.2.1.1 (Ev.pos (by omega) ?_)
          obtain ⟨m, rfl⟩ := Int.eq_ofNat_of_zero_le (show 0 ≤ n by have := h.n2; omega)
          have hol : o.length = m := by omega
          have b0 := hb _ hx.1.1 hx.1.2
          have b1 := hb _ hx.2.1.1 hx.2.1.2
          have e1 : rd (o.set ((rd_T61 l i).f0).toNat (wrap64 (rd o (rd_T61 l i).f0 + rd fl i))) (rd_T61 l i).f1 = rd o (rd_T61 l i).f1 := by
            rw [rd_set hol _ _ _ hx.1.1 hx.1.2 hx.2.1.1, if_neg (fun e => hx.2.2.1 e.symm)]
          rw [e1, wrap_id (rd o (rd_T61 l i).f0 + rd fl i) (by omega) (by omega), wrap_id (rd o (rd_T61 l i).f1 - rd fl i) (by omega) (by omega), wrap_id (i + 1) (by omega) (by omega)]
          have e2 : ∀ v : Int, 0 ≤ v → rd ((o.set ((rd_T61 l i).f0).toNat (rd o (rd_T61 l i).f0 + rd fl i)).set ((rd_T61 l i).f1).toNat (rd o (rd_T61 l i).f1 - rd fl i)) v = rd o v + ((if (rd_T61 l i).f0 = v then rd fl i else 0) - (if (rd_T61 l i).f1 = v then rd fl i else 0)) := by
            intro v v0
            rw [rd_set (n := m) (by simp [hol]) _ _ _ hx.2.1.1 hx.2.1.2 v0, rd_set hol _ _ _ hx.1.1 hx.1.2 v0]
            by_cases c1 : v = (rd_T61 l i).f1
            · subst c1; rw [if_pos rfl, if_pos rfl, if_neg hx.2.2.1]; omega
            · rw [if_neg c1, if_neg (show ¬ (rd_T61 l i).f1 = v from fun e => c1 e.symm)]
              by_cases c0 : v = (rd_T61 l i).f0
              · subst c0; rw [if_pos rfl, if_pos rfl]; omega
              · rw [if_neg c0, if_neg (show ¬ (rd_T61 l i).f0 = v from fun e => c0 e.symm)]; omega
          refine (ih (i + 1) _ (by omega) (by omega) (by omega) (by simpa using hn) (fun v v0 v1 => by rw [e2 v v0]; have := hb v v0 v1; split <;> split <;> omega)).eq ?_
          by_cases hbn : BndG (l.drop (i + 1).toNat) (fl.drop (i + 1).toNat)
          · rw [if_pos hbn, if_pos ((bnd_drop hl i0 hlt).2 ⟨by omega, hbn⟩)]
            refine finV_congr h.f0 h.f1 (fun v v0 _ => ?_)
            rw [e2 v v0, drop_cons i0 hlt, drop_consI i0 (by omega)]
            simp only [outsG, FlowM.outs]; omega
          · rw [if_neg hbn, if_neg (fun hb => hbn ((bnd_drop hl i0 hlt).1 hb).2)]
    · exact hend i o i0 hlt hn
theorem flow_val (n s t : Int) (l : List S61) (fl : List Int) : Ev (fun k => flow_Value.f k n l s t fl) (valV n l s t fl) := by
  unfold flow_Value.f
  refine Ev.bind (ev_check n l s t) ?_
  by_cases h : Good n l s t
  · rw [if_pos h]
    refine Ev.pos rfl ?_
    have n2 := h.n2
    have n4 := h.n4
    by_cases hl : fl.length = l.length
    · refine Ev.pos (by omega) (Ev.pos (by omega) (Ev.pos (by omega) ?_))
      refine (flow_val_l0 n s t l fl h hl _ 0 _ (by omega) (by omega) (Nat.le_refl _) (by simp; omega) (fun v v0 v1 => ?_)).eq ?_
      · have : rd (List.replicate n.toNat 0) v = 0 := by simp [rd, List.getD, show v.toNat < n.toNat by omega]
        omega
      · by_cases hb : BndG l fl
        · rw [if_pos (show BndG (l.drop (0 : Int).toNat) (fl.drop (0 : Int).toNat) from hb), ← fin_val h hb]
          refine finV_congr h.f0 h.f1 (fun v v0 v1 => ?_)
          show rd (List.replicate n.toNat 0) v + outsG l fl v = outsG l fl v
          have : rd (List.replicate n.toNat 0) v = 0 := by simp [rd, List.getD, show v.toNat < n.toNat by omega]
          omega
        · rw [if_neg (show ¬ BndG (l.drop (0 : Int).toNat) (fl.drop (0 : Int).toNat) from hb), val_neg (fun hf => hb hf.2.bnd)]
    · exact Ev.neg (by omega) ((Ev.of _).eq (val_neg (fun hf => hl hf.2.bnd.length)).symm)
  · rw [if_neg h]
    exact Ev.neg (by decide) ((Ev.of _).eq (val_neg (fun hf => h hf.1)).symm)
theorem cof_rd (c : List Bool) (v : Int) : rdOf false c v = Cof c v := rfl
abbrev capG (c : List Bool) (l : List S61) : Int := FlowM.cap S61.f0 S61.f1 S61.f2 (Cof c) l
theorem flow_cap_l0 (n : Int) (l : List S61) (c : List Bool) (hg : GoodL n l) (hm : l.length ≤ 65536) (hn : (c.length : Int) = n) : ∀ (g : Nat) (i acc : Int), 0 ≤ i → i ≤ l.length → (l.length - i).toNat ≤ g → 0 ≤ acc → acc ≤ 1073741824 * i →
    Ev (fun k => flow_Capacity.l0 k c acc l (l.length : Int) i) (acc + capG c (l.drop i.toNat), 0) := by
  have hend : ∀ (i acc : Int), 0 ≤ i → ¬ i < l.length → Ev (fun k => flow_Capacity.l0 k c acc l (l.length : Int) i) (acc + capG c (l.drop i.toNat), 0) := by
    intro i acc i0 hlt
    rw [List.drop_eq_nil_of_le (by omega)]
    refine Ev.step ?_ (fun k => by rw [flow_Capacity.l0])
    exact Ev.neg hlt ((Ev.of _).eq (by simp [capG, FlowM.cap]))
  intro g
  induction g with
  | zero => intro i acc i0 i1 hg' ha hb; exact hend i acc i0 (by omega)
  | succ g ih =>
    intro i acc i0 i1 hg' ha hb
    by_cases hlt : i < l.length
    · have hx := hg _ (rdT_mem l i i0 hlt)
      rw [drop_cons i0 hlt]
      refine Ev.step ?_ (fun k => by rw [flow_Capacity.l0])
      refine Ev.pos hlt (Ev.pos i0 (Ev.pos hlt (Ev.pos hx.1.1 (Ev.pos (by omega) ?_))))
      rw [wrap_id (i + 1) (by omega) (by omega)]
      by_cases h0 : Cof c (rd_T61 l i).f0 = true
      · refine Ev.pos h0 (Ev.pos hx.2.1.1 (Ev.pos (by omega) ?_))
        by_cases h1 : Cof c (rd_T61 l i).f1 = true
        · refine Ev.pos h1 ((ih (i + 1) acc (by omega) (by omega) (by omega) ha (by omega)).eq ?_)
          simp only [capG, FlowM.cap]; rw [if_neg (by simp [h1])]; simp
        · refine Ev.neg h1 ?_
          rw [wrap_id (acc + (rd_T61 l i).f2) (by omega) (by omega)]
          refine (ih (i + 1) _ (by omega) (by omega) (by omega) (by omega) (by omega)).eq ?_
          simp only [capG, FlowM.cap]; rw [if_pos ⟨h0, by simpa using h1⟩]; congr 1; omega
      · refine Ev.neg h0 ((ih (i + 1) acc (by omega) (by omega) (by omega) ha (by omega)).eq ?_)
        simp only [capG, FlowM.cap]; rw [if_neg (fun h => h0 h.1)]; simp
    · exact hend i acc i0 hlt
open Classical in
noncomputable def capV (n : Int) (l : List S61) (s t : Int) (c : List Bool) : Int × Int := if Good n l s t ∧ (c.length : Int) = n ∧ Cof c s = true ∧ Cof c t = false then (capG c l, 0) else (0, 180)
theorem cap_pos {n : Int} {l : List S61} {s t : Int} {c : List Bool} (h : Good n l s t) (hn : (c.length : Int) = n) (hs : Cof c s = true) (ht : Cof c t = false) : capV n l s t c = (capG c l, 0) := if_pos ⟨h, hn, hs, ht⟩
theorem cap_neg {n : Int} {l : List S61} {s t : Int} {c : List Bool} (h : ¬ (Good n l s t ∧ (c.length : Int) = n ∧ Cof c s = true ∧ Cof c t = false)) : capV n l s t c = (0, 180) := if_neg h
open Classical in
theorem flow_cap (n s t : Int) (l : List S61) (c : List Bool) : Ev (fun k => flow_Capacity.f k n l s t c) (capV n l s t c) := by
  unfold flow_Capacity.f
  refine Ev.bind (ev_check n l s t) ?_
  by_cases h : Good n l s t
  · rw [if_pos h]
    refine Ev.pos rfl ?_
    by_cases hn : (c.length : Int) = n
    · have f1 := h.f1
      have t1 := h.t1
      refine Ev.pos hn (Ev.pos h.f0 (Ev.pos (by omega) ?_))
      by_cases hs : Cof c s = true
      · refine Ev.pos hs (Ev.pos h.t0 (Ev.pos (by omega) ?_))
        refine Ev.step ?_ (fun k => by rw [flow_Capacity.j0])
        by_cases ht : Cof c t = true
        · exact Ev.pos ht ((Ev.of _).eq (cap_neg (fun hh => by rw [ht] at hh; cases hh.2.2.2)).symm)
        · refine Ev.neg ht ((flow_cap_l0 n l c h.ends h.m hn _ 0 0 (by omega) (by omega) (Nat.le_refl _) (by omega) (by omega)).eq ?_)
          rw [cap_pos h hn hs (by simpa using ht)]; simp
      · refine Ev.neg hs ?_
        refine Ev.step ?_ (fun k => by rw [flow_Capacity.j0])
        exact Ev.pos rfl ((Ev.of _).eq (cap_neg (fun hh => hs hh.2.2.1)).symm)
    · refine Ev.neg hn ?_
      refine Ev.step ?_ (fun k => by rw [flow_Capacity.j0])
      exact Ev.pos rfl ((Ev.of _).eq (cap_neg (fun hh => hn hh.2.1)).symm)
  · rw [if_neg h]
    exact Ev.neg (by decide) ((Ev.of _).eq (cap_neg (fun hf => h hf.1)).symm)
end Go.Proofs.Ytadeidhefjifaaa.Px
