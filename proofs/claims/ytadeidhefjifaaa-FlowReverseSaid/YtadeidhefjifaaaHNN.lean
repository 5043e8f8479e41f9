/- flow.newNetwork: the network that it makes. -/
import Derived.Test.YtadeidhefjifaaaHNet
import Derived.RegionTactic
import Derived.BigRegion
set_option linter.unusedVariables false
set_option linter.unusedSimpArgs false
namespace Go.Proofs.Ytadeidhefjifaaa.Px
open Go.RowKit Go.Proofs.YtadeidhefjifaaaW.PrintWords Go.Proofs.YtadeidhefjifaaaW.PrintLast Go.Proofs.YtadeidhefjifaaaW.PrintMore
/-- a network that is being made -/
structure NN (w0 W : World) (G F Ab : Nat) (A : Option Addr) (c : Nat) (l : List S61) (cF : Array Value) (n : Nat) (vals : List Value) (adj : List (List Int)) : Prop where
  hG : W.heap[G]? = some (.cells #[.slice A l.length c, .slice (some ⟨F, 0, none⟩) l.length l.length, .slice (some ⟨Ab, 0, none⟩) n n] 81 (0, 0))
  hF : W.heap[F]? = some (.cells cF 3 (0, 0))
  hO : W.ownsRow w0.heap.size 23 1 (.slice (some ⟨Ab, 0, none⟩) n n) n vals
  hW : Below w0.heap.size w0 W
  bG : w0.heap.size ≤ G
  bF : w0.heap.size ≤ F
  hlen : adj.length = n
  hrow : ∀ j, j < n → Kd.R (Kd.int .i64) 3 W w0.heap.size (fun k => k ≠ F) (vals.getD j undef) (adj.getD j [])
  hap : ∀ i j, i < n → j < n → i ≠ j → ∀ k, (vals.getD i undef).ownBlock = some k → (vals.getD j undef).ownBlock ≠ some k
/-- an element is appended to the list of a node -/
def addAt (adj : List (List Int)) (u : Int) (y : Int) : List (List Int) := adj.set u.toNat (adj.getD u.toNat [] ++ [y])
def adjStep (adj : List (List Int)) (x : S61) (i : Int) : List (List Int) := addAt (addAt adj x.f0 (2 * i)) x.f1 (2 * i + 1)
/-- the residual edges that begin at each node -/
def adjOf : List S61 → Int → List (List Int) → List (List Int)
  | [], _, a => a
  | x :: l, i, a => adjOf l (i + 1) (adjStep a x i)
theorem made_nil (n : Nat) : (madeCells #[Value.slice none 0 0] n).toList = List.replicate n (.slice none 0 0) := by
  simp only [madeCells, Array.toList_map, Array.toList_range]
  apply List.ext_getElem
  · simp
  · intro i h1 h2; simp [Nat.mod_one]
section
variable {w0 W W1 : World} {G F Ab : Nat} {A : Option Addr} {c : Nat} {l : List S61} {cF : Array Value} {n : Nat} {vals : List Value} {adj : List (List Int)}
theorem NN.start (hn : n ≤ 4096) (hG : W.heap[G]? = some (.cells #[.slice A l.length c, .slice (some ⟨F, 0, none⟩) l.length l.length, .slice (some ⟨Ab, 0, none⟩) n n] 81 (0, 0)))
    (hF : W.heap[F]? = some (.cells cF 3 (0, 0))) (hA : W.heap[Ab]? = some (.cells (madeCells #[.slice none 0 0] n) 23 (0, 0))) (hW : Below w0.heap.size w0 W) (bG : w0.heap.size ≤ G) (bF : w0.heap.size ≤ F) (bA : w0.heap.size ≤ Ab) :
    NN w0 W G F Ab A c l cF n (List.replicate n (.slice none 0 0)) (List.replicate n []) where
  hG := hG
  hF := hF
  hO := ⟨by simp, .inr ⟨Ab, n, _, rfl, bA, hA, Nat.le_refl _, by unfold maxLen; omega, by simp [size_madeCells], by rw [made_nil]; simp⟩⟩
  hW := hW
  bG := bG
  bF := bF
  hlen := by simp
  hrow := fun j hj => by
    have e1 : (List.replicate n (Value.slice none 0 0)).getD j undef = .slice none 0 0 := by simp [List.getD, hj]
    have e2 : (List.replicate n ([] : List Int)).getD j [] = [] := by simp [List.getD, hj]
    rw [e1, e2]; exact Kd.R_nil _ _ _ _ _
  hap := fun i j hi hj _ k hk => by
    have e1 : (List.replicate n (Value.slice none 0 0)).getD i undef = .slice none 0 0 := by simp [List.getD, hi]
    rw [e1] at hk; simp [Value.ownBlock] at hk
theorem NN.below (h : NN w0 W G F Ab A c l cF n vals adj) (hb : Below W.heap.size W W1) : NN w0 W1 G F Ab A c l cF n vals adj :=
  { h with
    hG := (hb.block G (lt_of_block h.hG)).trans h.hG
    hF := (hb.block F (lt_of_block h.hF)).trans h.hF
    hO := pw_own_below h.hO hb
    hW := below_step h.hW hb
    hrow := fun j hj => Kd.R_below (h.hrow j hj) hb }
theorem getD_set_self {α : Type} (xs : List α) (i : Nat) (x d : α) (h : i < xs.length) : (xs.set i x).getD i d = x := by simp [List.getD, h]
theorem getD_set_ne {α : Type} (xs : List α) (i j : Nat) (x d : α) (h : i ≠ j) : (xs.set i x).getD j d = xs.getD j d := by simp [List.getD, h]
/-- an append to the list of node u, and its value stored -/
theorem NN.append (h : NN w0 W G F Ab A c l cF n vals adj) (u : Int) (h0 : 0 ≤ u) (h1 : u < n) (y : Int) (v1 : Value)
    (hr : Kd.R (Kd.int .i64) 3 W1 w0.heap.size (fun k => k ≠ F) v1 (adj.getD u.toNat [] ++ [y])) (hg : W.grownBy W1 (vals.getD u.toNat undef).ownBlock)
    (hv : v1.ownBlock = (vals.getD u.toNat undef).ownBlock ∨ ∃ b, v1.ownBlock = some b ∧ W.heap.size ≤ b) :
    NN w0 (W1.setCell ⟨Ab, u.toNat, none⟩ v1) G F Ab A c l cF n (vals.set u.toNat v1) (addAt adj u y) := by
  have hu : u.toNat < n := by omega
  have hlv : vals.length = n := by have := h.hO.1; omega
  have ho := h.hrow u.toNat hu
  obtain ⟨-, hO2⟩ := h.hO
  have hAc : ∃ cells, W.heap[Ab]? = some (.cells cells 23 (0, 0)) := by
    rcases hO2 with ⟨e, _⟩ | ⟨g, cap, cur, e, _, hh, _⟩
    · simp at e
    · simp at e; obtain ⟨rfl, -⟩ := e; exact ⟨cur, hh⟩
  obtain ⟨cA, hA⟩ := hAc
  have hne : ∀ g t (cs : Array Value), W.heap[g]? = some (.cells cs t (0, 0)) → t ≠ 3 → some g ≠ (vals.getD u.toNat undef).ownBlock := fun g t cs hg' ht e => by
    obtain ⟨cells, hc⟩ := Kd.R_typed ho g e.symm
    rw [hc] at hg'
    simp at hg'; exact ht hg'.2.symm
  have nF : some F ≠ (vals.getD u.toNat undef).ownBlock := fun e => ho.1 F e.symm rfl
  have hG1 : W1.heap[G]? = _ := (hg.block G (lt_of_block h.hG) (hne _ _ _ h.hG (by decide))).trans h.hG
  have hF1 : W1.heap[F]? = _ := (hg.block F (lt_of_block h.hF) nF).trans h.hF
  have hA1 : W1.heap[Ab]? = _ := (hg.block Ab (lt_of_block hA) (hne _ _ _ hA (by decide))).trans hA
  have bA : w0.heap.size ≤ Ab := by
    rcases hO2 with ⟨e, _⟩ | ⟨g, cap, cur, e, hb, _⟩
    · simp at e
    · simp at e; obtain ⟨rfl, -⟩ := e; exact hb
  have GA : G ≠ Ab := fun e => by have := h.hG; rw [e, hA] at this; simp at this
  have FA : F ≠ Ab := fun e => by have := h.hF; rw [e, hA] at this; simp at this
  have hO1 := own_other h.hO hg (.inr (fun e => hne Ab 23 cA hA (by decide) e))
  have hst := hO1.stored u.toNat v1
  have far : ∀ k, k ≠ Ab → (W1.setCell ⟨Ab, u.toNat, none⟩ v1).heap[k]? = W1.heap[k]? := fun k hk => Below.heap_setCell W1 ⟨Ab, u.toNat, none⟩ v1 k hk
  have tyA : ∀ {v : Value} {xs : List Int} {ok : Nat → Prop}, Kd.R (Kd.int .i64) 3 W1 w0.heap.size ok v xs → ∀ k, v.ownBlock = some k → k ≠ Ab := fun hR k hk e => by
    obtain ⟨cells, hc⟩ := Kd.R_typed hR k hk
    rw [e, hA1] at hc; simp at hc
  have keep : ∀ {v : Value} {xs : List Int}, Kd.R (Kd.int .i64) 3 W1 w0.heap.size (fun k => k ≠ F) v xs → Kd.R (Kd.int .i64) 3 (W1.setCell ⟨Ab, u.toNat, none⟩ v1) w0.heap.size (fun k => k ≠ F) v xs := fun hR =>
    Kd.R_mono (Kd.R_far (p := ⟨Ab, u.toNat, none⟩) (Kd.R_types hR hA1 (by intro q hq; rcases List.mem_cons.1 hq with rfl | hq; exact (by decide); exact absurd hq (by simp [Kd.int, Kd.scalar]))) (fun k hk => hk.2) v1) (fun k hk => hk.1)
  have other : ∀ j, j < n → j ≠ u.toNat → Kd.R (Kd.int .i64) 3 W1 w0.heap.size (fun k => k ≠ F) (vals.getD j undef) (adj.getD j []) := fun j hj hju =>
    Kd.R_mono (Kd.R_grown (Kd.R_mono (ok' := fun k => k ≠ F ∧ some k ≠ (vals.getD u.toNat undef).ownBlock) ⟨fun k hk => ⟨(h.hrow j hj).1 k hk, fun e => h.hap j u.toNat hj hu hju k hk e.symm⟩, by
      obtain ⟨a, inner, b, c'⟩ := h.hrow j hj
      exact ⟨inner, b, c'.imp_ (fun _ _ hp => hp)⟩⟩ (fun _ hk => hk)) hg (fun k hk => hk.2)) (fun k hk => hk.1)
  refine ⟨(far G GA).trans hG1, (far F FA).trans hF1, hst.1, ?_, h.bG, h.bF, by simp [addAt, h.hlen], ?_, ?_⟩
  · have hb1 : Below w0.heap.size w0 W1 := pw_below_grown h.hW _ h.hW.size hg (fun k hk => Kd.R_base ho k hk)
    exact pw_below_grown hb1 _ hb1.size hst.2 (fun k hk => by cases hk; exact bA)
  · intro j hj
    by_cases e : u.toNat = j
    · subst e
      rw [getD_set_self _ _ _ _ (by omega), addAt, getD_set_self _ _ _ _ (by rw [h.hlen]; omega)]
      exact keep hr
    · rw [getD_set_ne _ _ _ _ _ e, addAt, getD_set_ne _ _ _ _ _ e]
      exact keep (other j hj (fun e' => e e'.symm))
  · intro i j hi hj hij k hk
    by_cases e : u.toNat = i
    · subst e
      rw [getD_set_self _ _ _ _ (by omega)] at hk
      rw [getD_set_ne _ _ _ _ _ hij]
      rcases hv with hv | ⟨b, hb, hbs⟩
      · exact h.hap _ j hu hj hij k (hv ▸ hk)
      · intro e
        have := Kd.R_lt (h.hrow j hj) k e
        rw [hb] at hk; cases hk; omega
    · rw [getD_set_ne _ _ _ _ _ e] at hk
      by_cases e2 : u.toNat = j
      · subst e2
        rw [getD_set_self _ _ _ _ (by omega)]
        rcases hv with hv | ⟨b, hb, hbs⟩
        · rw [hv]; exact h.hap i _ hi hu hij k hk
        · intro e
          have := Kd.R_lt (h.hrow i hi) k hk
          rw [hb] at e; cases e; omega
      · rw [getD_set_ne _ _ _ _ _ e2]; exact h.hap i j hi hj hij k hk
end
end Go.Proofs.Ytadeidhefjifaaa.Px
