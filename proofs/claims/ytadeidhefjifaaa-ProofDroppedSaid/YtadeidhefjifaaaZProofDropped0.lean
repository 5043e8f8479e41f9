/- Parts of the proof of ProofDropped, put together from several texts: the declarations that this law needs beside those of ProofAccepts. -/
import Derived.Test.YtadeidhefjifaaaZProofAccepts8
import Derived.ArgAppend
import Derived.Below
import Derived.BigQuiet
import Derived.Deep.AppendLies
import Derived.Deep.CutBlock
import Derived.Deep.DeepCutAuto
import Derived.Deep.Draws
import Derived.Deep.LoopGhost
import Derived.Deep.OwnRows
import Derived.Deep.QuietTactic
import Derived.Deep.RegionHeld3
import Derived.KernelRfl
import Derived.Laws.BytesArg
import Derived.Laws.IdiomCopy
import Derived.Laws.MakeOwn
import Derived.Laws.OwnMore
import Derived.Laws.Rows
import Derived.Laws.Slices
import Derived.Lib.AppendStr
import Derived.Lib.ConvBytes
import Derived.Maps.AppendAt
import Derived.OwnWalk
import Derived.RowKit
import Derived.RowKit3
import Derived.Tactics
import Derived.WalkKit
import Derived.WideLaws
section
set_option linter.unusedVariables false
set_option linter.unusedSimpArgs false
namespace Go.Proofs.YtadeidhefjifaaaW.PrintWords
open Go.RowKit
section
variable {P : Program} {ops : Array Oper} {rest : List Oper} {o : Oper} {a : Act} {Q : Exit → Act → World → Prop}
end
section
variable {P : Program}
end
section
variable {P : Program} {ops : Array Oper} {rest : List Oper} {o : Oper} {a : Act} {Q : Exit → Act → World → Prop}
end
section
variable {P : Program} {ops : Array Oper} {rest : List Oper} {o : Oper} {a : Act} {Q : Exit → Act → World → Prop}
end
section
variable {P : Program} {ops : Array Oper} {o : Oper} {a : Act} {Q : Exit → Act → World → Prop} {K : Act → World → Prop}
end
section
variable {α : Type} {enc : α → Value} {d : α}
end
section
variable {α : Type} {P : Program} {ops : Array Oper} {rest : List Oper} {o : Oper} {a : Act} {Q : Exit → Act → World → Prop}
end
section
variable {P : Program}
end
section
variable {α : Type} {R R' : α → List Value → Prop} {e : TypeId} {size : Nat} {w w1 : World} {base : Nat} {v : Value} {ps : List α}
end
section
variable {P : Program} {ops : Array Oper} {rest : List Oper} {o : Oper} {a : Act} {Q : Exit → Act → World → Prop} {α : Type} {R : α → List Value → Prop}
end
section
variable {P : Program} {ops : Array Oper} {o : Oper} {a : Act} {Q : Exit → Act → World → Prop} {K : Act → World → Prop} {α : Type} {R : α → List Value → Prop}
end
/-- What is read as_ a row has its cells one behind the other. -/
theorem ReadsRow.inner_ {α : Type} {R : α → List Value → Prop} {size : Nat} {w : World} {ad : Addr} {n : Nat} {ps : List α} (h : ReadsRow R size w (some ad) n ps) :
    ∃ inner, Reps R size ps inner ∧ ∀ j u, inner[j]? = some u → w.cell? (ad.add j) = some u := by
  have key : ∀ m, m ≤ ps.length → ∃ inner, Reps R size (ps.take m) inner ∧ ∀ j u, inner[j]? = some u → w.cell? (ad.add j) = some u := by
    intro m
    induction m with
    | zero => exact fun _ => ⟨[], Reps.none _ _, fun j u hu => by simp at hu⟩
    | succ m ih =>
      intro hm
      obtain ⟨inner, hr, hc⟩ := ih (by omega)
      obtain ⟨ad', he, hcell⟩ := h.2.2 (by have := h.1; omega)
      injection he with he
      subst he
      obtain ⟨c, hcl, hp, hcc⟩ := hcell m _ (List.getElem?_eq_getElem (show m < ps.length by omega))
      refine ⟨inner ++ c, ?_, fun j u hu => ?_⟩
      · rw [List.take_succ_eq_append_getElem (show m < ps.length by omega)]
        exact hr.snoc hp hcl
      · have hil : inner.length = m * size := by rw [hr.1, List.length_take, Nat.min_eq_left (by omega)]
        rcases Nat.lt_or_ge j inner.length with hj | hj
        · rw [List.getElem?_append_left hj] at hu
          exact hc j u hu
        · rw [List.getElem?_append_right hj] at hu
          have := hcc (j - inner.length) u hu
          rwa [hil, Nat.add_sub_cancel' (by omega)] at this
  obtain ⟨inner, hr, hc⟩ := key ps.length (Nat.le_refl _)
  rw [List.take_length] at hr
  exact ⟨inner, hr, hc⟩
section
variable {α : Type} {P : Program}
end
section
variable {P : Program} {ops : Array Oper} {rest : List Oper} {o : Oper} {a : Act} {Q : Exit → Act → World → Prop}
end
namespace Kd
section
variable {α : Type} {d : Kd α} {e : Nat} {w w1 : World} {base : Nat} {ok ok' : Nat → Prop} {v : Value} {xs : List α}
end
section
variable {P : Program} {ops : Array Oper} {rest : List Oper} {o : Oper} {a : Act} {Q : Exit → Act → World → Prop} {α : Type}
end
section
variable {P : Program} {ops : Array Oper} {o : Oper} {a : Act} {Q : Exit → Act → World → Prop} {Kc : Act → World → Prop} {α : Type}
end
end Kd
namespace Kd
section
variable {α : Type} {F : Kd α → Kd α} {sz : Nat} {E : List Nat} {hs : ∀ n, (upto F sz E n).sz = sz} {hE : ∀ n q, q ∈ (upto F sz E n).E → q ∈ E}
end
end Kd
namespace Kd
end Kd
namespace Kd
section
variable {α β : Type} {d : Kd α} {d' : Kd β} {e e' : Nat} {w w1 W : World} {base b b' : Nat} {ok ok' okv oku : Nat → Prop} {v u : Value} {xs : List α} {ys : List β}
end
section
variable {w W : World} {A : Option Addr} {n : Nat}
variable {α : Type} {enc : α → Value} {h1 : ∀ x, (enc x).oneCell' = true} {e base g cap : Nat} {ok : Nat → Prop} {xs : List α}
end
section
variable {P : Program} {ops : Array Oper} {rest : List Oper} {o : Oper} {a : Act} {Q : Exit → Act → World → Prop}
variable {α : Type}
end
end Kd
section
variable {P : Program}
end
section
variable {w w1 : World} {base n size : Nat} {e : TypeId} {v : Value} {xs : List Value}
end
section
variable {P : Program}
end
namespace Kd
section
variable {α : Type} {d : Kd α} {e : Nat} {w w1 W : World} {base : Nat} {ok ok' : Nat → Prop} {v : Value} {xs : List α}
end
section
variable {P : Program} {ops : Array Oper} {rest : List Oper} {o : Oper} {a : Act} {Q' : Exit → Act → World → Prop} {Kc : Act → World → Prop} {α : Type}
end
end Kd
namespace Kd
section
variable {α : Type} {d : Kd α} {e e' : Nat} {w w1 W : World} {base : Nat} {ok : Nat → Prop} {u v : Value} {xs : List α}
end
end Kd
namespace Kd
section
variable {α : Type} {d : Kd α} {e base g n cap : Nat} {ok okp : Nat → Prop} {W : World} {xs : List α}
end
end Kd
namespace Kd
section
variable {α : Type} {F : Kd α → Kd α} {sz : Nat} {E : List Nat} {hs : ∀ n, (upto F sz E n).sz = sz} {hE : ∀ n q, q ∈ (upto F sz E n).E → q ∈ E}
end
end Kd
namespace Kd
theorem reps_append {α : Type} {R : α → List Value → Prop} {size : Nat} {ps qs : List α} {cs ds : List Value} (h : Reps R size ps cs) (h' : Reps R size qs ds) : Reps R size (ps ++ qs) (cs ++ ds) := by
  refine ⟨by rw [List.length_append, List.length_append, h.1, h'.1, Nat.add_mul], fun j p hj => ?_⟩
  rcases Nat.lt_or_ge j ps.length with hlt | hge
  · rw [List.getElem?_append_left hlt] at hj
    have hle : j * size + size ≤ cs.length := by rw [h.1, ← Nat.succ_mul]; exact Nat.mul_le_mul_right _ hlt
    rw [List.drop_append_of_le_length (by omega), List.take_append_of_le_length (by rw [List.length_drop]; omega)]
    exact h.2 j p hj
  · rw [List.getElem?_append_right hge] at hj
    have h2 := h'.2 (j - ps.length) p hj
    have hle : ps.length * size ≤ j * size := Nat.mul_le_mul_right _ hge
    rw [List.drop_append, List.drop_eq_nil_of_le (by rw [h.1]; exact hle), List.nil_append, h.1, ← Nat.sub_mul]
    exact h2
section
variable {P : Program} {ops : Array Oper} {rest : List Oper} {o : Oper} {a : Act} {Q : Exit → Act → World → Prop} {α : Type}
end
end Kd
namespace Kd
section
variable {P : Program} {ops : Array Oper} {rest : List Oper} {o : Oper} {a : Act} {Q : Exit → Act → World → Prop} {α : Type}
end
end Kd
namespace Kd
section
variable {α : Type} {k : Kd α} {w : World} {A : Option Addr} {xs : List α} {m c : Nat}
theorem C_take (h : k.C w A xs.length xs) (hm : m ≤ xs.length) : k.C w A (xs.take m).length (xs.take m) := by
  have hl : (xs.take m).length = m := by rw [List.length_take]; omega
  refine ⟨rfl, by rw [hl]; have := h.2.1; omega, fun hp => ?_⟩
  obtain ⟨ad, e, hc⟩ := h.2.2 (by omega)
  refine ⟨ad, e, fun j p hj => hc j p ?_⟩
  rw [List.getElem?_take] at hj
  split at hj
  · exact hj
  · cases hj
theorem C_drop (h : k.C w A xs.length xs) (hm : m ≤ xs.length) (hc : xs.length ≤ c) : k.C w (if c = m then A else A.map (·.add (m * k.sz))) (xs.drop m).length (xs.drop m) := by
  have hl : (xs.drop m).length = xs.length - m := List.length_drop
  refine ⟨rfl, by rw [hl]; have := h.2.1; omega, fun hp => ?_⟩
  rw [hl] at hp
  obtain ⟨ad, rfl, hcell⟩ := h.2.2 (by omega)
  rw [if_neg (by omega)]
  refine ⟨ad.add (m * k.sz), rfl, fun j p hj => ?_⟩
  rw [List.getElem?_drop] at hj
  obtain ⟨cs, h1, h2, h3⟩ := hcell (m + j) p hj
  refine ⟨cs, h1, h2, fun i u hu => ?_⟩
  rw [add_add, show m * k.sz + (j * k.sz + i) = (m + j) * k.sz + i by rw [Nat.add_mul]; omega]
  exact h3 i u hu
end
end Kd
section
variable {P : Program}
end
namespace Kd
section
variable {α β : Type} {d : Kd α} {d' : Kd β} {e e' base base' n : Nat} {ok ok' : Nat → Prop} {w W w1 W1 : World} {v u : Value} {xs : List α} {ys : List β} {A : Option Addr} {c : Nat}
end
section
variable {α : Type} {enc : α → Value} {h1 : ∀ x, (enc x).oneCell' = true} {w W : World} {A : Option Addr} {n g : Nat} {xs : List α}
end
end Kd
namespace Kd
section
variable {α : Type} {d : Kd α} {e base g : Nat} {ok : Nat → Prop} {w w1 : World} {v : Value} {xs : List α} {o : Obj}
end
end Kd
section
variable {P : Program} {ops : Array Oper} {rest : List Oper} {o : Oper} {a : Act} {Q : Exit → Act → World → Prop}
end
namespace Kd
section
variable {α : Type} {enc : α → Value} {h1 : ∀ x, (enc x).oneCell' = true} {e base g n cap : Nat} {ok : Nat → Prop} {W : World} {xs : List α}
end
end Kd
section
variable {P : Program} {ops : Array Oper} {rest : List Oper} {o : Oper} {a : Act} {Q : Exit → Act → World → Prop}
end
namespace Kd
section
variable {α : Type} {enc : α → Value} {h1 : ∀ x, (enc x).oneCell' = true} {e base g n cap : Nat} {ok : Nat → Prop} {W : World} {xs : List α}
end
end Kd
section
variable {P : Program} {ops : Array Oper} {rest : List Oper} {o : Oper} {a : Act} {Q : Exit → Act → World → Prop} {W : World}
end
section
variable {P : Program} {ops : Array Oper} {o : Oper} {a : Act} {Q : Exit → Act → World → Prop} {Kc : Act → World → Prop}
namespace Kd
variable {α : Type}
theorem R_append_rows_step (d : Kd α) {Rr : α → List Value → Prop} {w0 W : World} (base : Nat) (hw : Region.wanted o (yielded ops a.tmps) = true) (s x : Operand) (t e : TypeId) (z : Value) (bytes : Nat)
    (ho : o.op = .call { callee := .builtin .append, args := #[s, x], argTypes := #[t, t] })
    (ht : P.underlying t = some (.slice e)) (hinfo : (P.info? e).map (fun i => (i.zero, i.size, i.bytes)) = some (some z, d.sz, bytes)) (hz : z.cells.size = d.sz) (hs0 : 0 < d.sz) (hb0 : 0 < bytes)
    (v : Value) (xs ys : List α) (A : Option Addr) (m c : Nat) (ok okp : Nat → Prop) (hs : a.eval s = v) (hx : a.eval x = .slice A m c)
    (HO : d.R e W base ok v xs) (HR : ReadsRow Rr d.sz W A m ys) (hKM : ∀ x cs, Rr x cs → d.M W base okp x cs) (hokp : ∀ k, okp k → ok k ∧ some k ≠ v.ownBlock) (hfresh : ∀ k, W.heap.size ≤ k → ok k)
    (HB : Below base w0 W) (hbase : base ≤ W.heap.size) (hl : (xs.length + m) * bytes ≤ 140737488355328)
    (h : ∀ v1 w1, d.R e w1 base ok v1 (xs ++ ys) → Below base w0 w1 → W.grownBy w1 v.ownBlock → (v1.ownBlock = v.ownBlock ∨ ∃ b, v1.ownBlock = some b ∧ W.heap.size ≤ b) → Kc (a.put o.dst v1) w1) :
    if Region.wanted o (yielded ops a.tmps) = true then Oper.wp P o a W Kc Q else Kc (a.put o.dst undef) W := by
  obtain ⟨i0, hi, hzz⟩ := Option.map_eq_some_iff.1 hinfo
  simp only [Prod.mk.injEq] at hzz
  obtain ⟨hz0, hz1, hz2⟩ := hzz
  have hm : ys.length = m := HR.1
  have hlen : xs.length + m ≤ 140737488355328 := Nat.le_trans (Nat.le_mul_of_pos_right _ hb0) hl
  obtain ⟨hok, inner, hown, hr⟩ := HO
  have hrun : ∃ v1 w1, (Builtin.append_ #[t, t] o.type #[v, .slice A m c]).run P W = .ok v1 w1 ∧ d.R e w1 base ok v1 (xs ++ ys) ∧ W.grownBy w1 v.ownBlock ∧ (v1.ownBlock = v.ownBlock ∨ ∃ b, v1.ownBlock = some b ∧ W.heap.size ≤ b) := by
    rcases A with _ | ad
    · have h0 : m = 0 := by
        rcases Nat.eq_zero_or_pos m with h0 | h0
        · exact h0
        · obtain ⟨ad, h, _⟩ := HR.2.2 h0
          cases h
      subst h0
      obtain rfl : ys = [] := List.eq_nil_of_length_eq_zero hm
      refine ⟨v, W, ?_, by rw [List.append_nil]; exact ⟨hok, inner, hown, hr⟩, World.grownBy.refl W _, .inl rfl⟩
      rcases hown.2 with ⟨rfl, hn⟩ | ⟨g, cap, cur, rfl, _, _, hnc, _⟩
      · simp [Builtin.append_, run_underlying ht, sizeOf, typeInfo, hi, Builtin.lenOf, Builtin.firstCells]
      · simp [Builtin.append_, run_underlying ht, sizeOf, typeInfo, hi, Builtin.lenOf, Builtin.firstCells, hnc, storeCells]
    · obtain ⟨news, hnr, hnc⟩ := ReadsRow.inner_ HR
      have hnM : Reps (d.M W base okp) d.sz ys news := hnr.imp_ (fun p c hp => hKM p c hp)
      have hone : ∀ u ∈ news, u.oneCell' = true := by
        intro u hu
        obtain ⟨q, hq, rfl⟩ := List.mem_iff_getElem.1 hu
        have hql : q / d.sz < ys.length := by
          rw [Nat.div_lt_iff_lt_mul hs0]
          rw [← hnM.1]
          exact hq
        have hc := hnM.2 (q / d.sz) _ (List.getElem?_eq_getElem hql)
        refine d.K_one (d.K_of_M hc) _ ?_
        rw [List.mem_iff_getElem?]
        refine ⟨q % d.sz, ?_⟩
        rw [List.getElem?_take, if_pos (Nat.mod_lt _ hs0), List.getElem?_drop, Nat.mul_comm, Nat.div_add_mod, List.getElem?_eq_getElem hq]
      obtain ⟨v1, w1, hrun, h2, hg, _, hat⟩ := run_append_own_at (P := P) W base t o.type e i0 z d.sz bytes ht hi hz0 hz1 hz2 hz hs0 v xs.length inner hown ad m c news (by rw [hnM.1, hm]) hnc hone (by simp only [maxLen]; omega) hl hbase
      have hat' : v1.ownBlock = v.ownBlock ∨ ∃ b, v1.ownBlock = some b ∧ W.heap.size ≤ b := by
        rcases hat with hat | hat
        · exact .inl hat
        · exact .inr ⟨_, hat, Nat.le_refl _⟩
      have hne : ∀ k, some k ≠ v.ownBlock → k < W.heap.size → some k ≠ v1.ownBlock := by
        intro k hk hlt
        rcases hat' with hat | ⟨b, hb, hle⟩
        · rw [hat]; exact hk
        · rw [hb]
          intro he
          injection he with he
          omega
      have step : ∀ {q : α} {c : List Value} {o : Nat → Prop}, d.M W base o q c → (∀ k, o k → ok k ∧ some k ≠ v.ownBlock) → d.M w1 base (fun k => ok k ∧ some k ≠ v1.ownBlock) q c := by
        intro q c o hq ho
        have h1 := d.M_move (w1 := w1) (fun k hk => hg.block k hk.2.2.1 (ho k hk.1).2) (d.M_bound hq)
        exact d.M_mono (fun k hk => ⟨(ho k hk.1).1, hne k (ho k hk.1).2 hk.2.2.1⟩) h1
      refine ⟨v1, w1, hrun, ⟨fun k hk => ?_, inner ++ news, by rw [List.length_append, hm]; exact h2, reps_append (hr.imp_ (fun _ _ hq => step hq (fun _ hk => hk))) (hnM.imp_ (fun _ _ hq => step hq hokp))⟩, hg, hat'⟩
      rcases hat' with hat | ⟨b, hb, hle⟩
      · exact hok k (hat ▸ hk)
      · rw [hb] at hk
        injection hk with hk
        exact hfresh k (by omega)
  obtain ⟨v1, w1, hr1, h1, hg, hat⟩ := hrun
  rw [if_pos hw]
  unfold Oper.wp execOp
  simp only [ho, resolve, invoke, builtin, Sem.run_bind, Sem.run_pure, Result.andThen_ok, List.map_toArray, List.map_cons, List.map_nil, hs, hx, hr1]
  exact h v1 w1 h1 (HB.grown hg hbase (own_base hown)) hg hat
end Kd
end
section
variable {P : Program} {tmps : Array Value} {w : World}
end
namespace Kd
section
variable {P : Program} {α : Type}
end
section
variable {P : Program} {ops : Array Oper} {rest : List Oper} {o : Oper} {a : Act} {Q : Exit → Act → World → Prop} {Kc : Act → World → Prop} {α : Type}
end
end Kd
end Go.Proofs.YtadeidhefjifaaaW.PrintWords
end
section
set_option linter.unusedVariables false
set_option linter.unusedSimpArgs false
namespace Go.Proofs.Ytadeidhefjifaaa.Px.L20
open Go.RowKit Go.Proofs.YtadeidhefjifaaaW.PrintWords Go.Proofs.YtadeidhefjifaaaW.PrintLast Go.Proofs.YtadeidhefjifaaaW.PrintMore
section
variable {α β : Type} {f F A B : Nat → Option α} {r x : α} {y : β} {g : Nat → α → Option β} {c : Prop} [Decidable c]
end
theorem sg_swap (x : Nat → Nat → Int) (m : Nat) : ∀ n, sg (fun j => sg (x j) m) n = sg (fun k => sg (fun j => x j k) n) m
  | 0 => by simp only [sg]; exact (sg_zero m).symm
  | n + 1 => by simp only [sg]; rw [sg_swap x m n, sg_add]
theorem sb_zero {p : S57 → Bool} : ∀ {us : List S57}, (∀ u ∈ us, ¬ p u = true) → sb p us = 0
  | [], _ => rfl
  | u :: us, h => by rw [sb_no (h u (by simp))]; exact sb_zero fun x hx => h x (by simp [hx])
/-- NO ASSIGNMENT EXCEEDS A CUT. -/
theorem dual {pu : Int} {q : List S92} {l : List S44} (G : Gd pu q l) {us : List S57} (A : Al q l pu us) (ca cr : List Bool) : allS us ≤ sg (outS q l pu ca cr) l.length + sg (finS q cr) q.length := by
  have hpos : ∀ p, 0 ≤ sb p us := fun p => sb_nonneg fun u hu => (A.use u hu).2.2.2.2.1
  have hS : sg (fun j => sb (atA j) us) l.length = allS us := sg_split (c := S57.f0) (fun k u => by simp [atA]) fun u hu => ⟨(A.use u hu).1, (A.use u hu).2.1⟩
  have hR : ∀ j : Nat, sg (fun k => sb (atB j k) us) q.length = sb (atA j) us := fun j => sg_split (c := S57.f1) (fun k u => by simp [atB, atA]) fun u hu => ⟨(A.use u hu).2.2.1, (A.use u hu).2.2.2.1⟩
  have hC : ∀ k : Nat, sg (fun j => sb (atB j k) us) l.length = sb (atR k) us := fun k => sg_split (c := S57.f0) (fun j u => by simp [atB, atR, Bool.and_comm]) fun u hu => ⟨(A.use u hu).1, (A.use u hu).2.1⟩
  have hrow : ∀ j, j < l.length → sb (atA j) us ≤ outS q l pu ca cr j + sg (fun k => if rdOf false cr (k : Int) = true then sb (atB j k) us else 0) q.length := by
    intro j hj
    have h0 : 0 ≤ sg (fun k => if rdOf false cr (k : Int) = true then sb (atB j k) us else 0) q.length := by
      have h := sg_le (f := fun _ => 0) (g := fun k => if rdOf false cr (k : Int) = true then sb (atB j k) us else 0) (n := q.length) fun k hk => by
        split
        · exact hpos _
        · exact Int.le_refl _
      rwa [sg_zero] at h
    unfold outS
    split
    · have := A.row j (by omega) (by omega); omega
    · rw [← hR j]
      have h1 : sg (fun k => sb (atB j k) us) q.length = sg (fun k => if rdOf false cr (k : Int) = true then 0 else sb (atB j k) us) q.length + sg (fun k => if rdOf false cr (k : Int) = true then sb (atB j k) us else 0) q.length := by
        rw [← sg_add]
        exact sg_congr fun k hk => by split <;> simp
      have h2 : sg (fun k => if rdOf false cr (k : Int) = true then 0 else sb (atB j k) us) q.length ≤ rowS q cr (rd_T44 l j) q.length := by
        refine sg_le fun k hk => ?_
        have hc := G.l1 _ (rd_memA (l := l) (a := (j : Int)) (by omega) (by omega))
        by_cases e : rdOf false cr (k : Int) = true
        · rw [if_pos e, if_neg (by simp [e])]; exact Int.le_refl _
        · rw [if_neg e]
          by_cases e2 : eligB (rd_T92 q k) (rd_T44 l j) = true
          · rw [if_pos ⟨by simpa using e, e2⟩]; exact A.one j k (by omega) (by omega)
          · rw [if_neg (fun h => e2 h.2)]
            refine Int.le_of_eq (sb_zero fun u hu hb => ?_)
            have := (A.use u hu).2.2.2.2.2.2
            simp only [atB, decide_eq_true_eq] at hb
            rw [hb.1, hb.2] at this
            exact e2 this
      omega
  have hsum := sg_le hrow
  rw [sg_add, hS, sg_swap] at hsum
  have hfin : sg (fun k => sg (fun j => if rdOf false cr (k : Int) = true then sb (atB j k) us else 0) l.length) q.length ≤ sg (finS q cr) q.length := by
    refine sg_le fun k hk => ?_
    unfold finS
    by_cases e : rdOf false cr (k : Int) = true
    · simp only [e, if_true]
      rw [hC k]
      exact A.col k (by omega) (by omega)
    · rw [if_neg e]
      refine Int.le_of_eq ((sg_congr fun j hj => ?_).trans (sg_zero l.length))
      rw [if_neg e]
  omega
/-- THE MAIN THEOREM: an assignment leaves at least as much open as every cut says. -/
theorem main {n u e mn md : Int} {q : List S92} {l : List S44} {us : List S57} (h : alV n u e mn md q l us = 0) (hl : l.length ≤ 12000000) (c : List Bool) : (missV n u e mn md q us).2 = 0 ∧ 0 ≤ (missV n u e mn md q us).1 ∧ ((boundV n u e mn md q l c).2 = 0 → 0 ≤ (boundV n u e mn md q l c).1 ∧ (boundV n u e mn md q l c).1 ≤ (missV n u e mn md q us).1) := by
  obtain ⟨h1, h2⟩ := al_zero h
  obtain ⟨h3, h4, G⟩ := gd_of h1
  obtain ⟨e1, e2⟩ := miss_al h3 G h2
  rw [e1]
  refine ⟨rfl, e2, fun hb => ?_⟩
  unfold boundV at hb ⊢
  rw [if_pos h1] at hb ⊢
  split at hb
  · rename_i hc
    rw [if_pos hc]
    have := dual G (al_all G h2) ((c.drop 1).take l.length) (c.drop (1 + l.length))
    have := bound_eq G hl ((c.drop 1).take l.length) (c.drop (1 + l.length))
    dsimp only
    unfold mx
    split <;> omega
  · cases hb
end Go.Proofs.Ytadeidhefjifaaa.Px.L20
end
section
set_option linter.unusedVariables false
set_option linter.unusedSimpArgs false
namespace FlowM
section
variable {α : Type} {fr tu cp : α → Int}
end
end FlowM
namespace Go.Proofs.Ytadeidhefjifaaa.Px.L20
open Go.RowKit Go.Proofs.YtadeidhefjifaaaW.PrintWords Go.Proofs.YtadeidhefjifaaaW.PrintLast Go.Proofs.YtadeidhefjifaaaW.PrintMore
theorem ltU_trans {x y z : S57} (h : ltU x y) (k : ltU y z) : ltU x z := by unfold ltU at *; omega
/-- .. and what is allowed is in order -/
theorem al_up {pu : Int} {q : List S92} {l : List S44} : ∀ (us : List S57) (pr : Option S57) (m1 m2 : Int → Int), alGo q l pu pr m1 m2 us = true → us.Pairwise ltU ∧ (∀ v, pr = some v → ∀ u ∈ us, ltU v u)
  | [], _, _, _, _ => by simp
  | u :: us, pr, m1, m2, h => by
    rw [alGo] at h
    simp only [Bool.and_eq_true] at h
    obtain ⟨-, ha, -, -, -, hr⟩ := h
    obtain ⟨h1, h2⟩ := al_up us _ _ _ hr
    have hp : ∀ v, pr = some v → ltU v u := by
      rintro v rfl
      simp only [useAft, Bool.not_eq_true', Bool.or_eq_false_iff, decide_eq_false_iff_not, Bool.and_eq_false_iff, beq_eq_false_iff_ne] at ha
      unfold ltU; omega
    refine ⟨List.pairwise_cons.2 ⟨h2 u rfl, h1⟩, fun v hv x hx => ?_⟩
    rcases List.mem_cons.1 hx with rfl | hx
    · exact hp v hv
    · exact ltU_trans (hp v hv) (h2 u rfl x hx)
end Go.Proofs.Ytadeidhefjifaaa.Px.L20
end
section
set_option linter.unusedVariables false
set_option linter.unusedSimpArgs false
namespace Go.Proofs.Ytadeidhefjifaaa.Px.L20
open Go.RowKit Go.Proofs.YtadeidhefjifaaaW.PrintWords Go.Proofs.YtadeidhefjifaaaW.PrintLast Go.Proofs.YtadeidhefjifaaaW.PrintMore
theorem rd_more (l : List S44) (x : S44) {a : Int} (h0 : 0 ≤ a) (h1 : a < l.length) : rd_T44 (l ++ [x]) a = rd_T44 l a := by
  unfold rd_T44
  rw [List.getD_eq_getElem?_getD, List.getD_eq_getElem?_getD, List.getElem?_append_left (by omega)]
theorem rd_last (l : List S44) (x : S44) : rd_T44 (l ++ [x]) (l.length : Int) = x := by
  unfold rd_T44
  rw [List.getD_eq_getElem?_getD, Int.toNat_natCast, List.getElem?_concat_length]; rfl
theorem ask_gd {n u e mn md : Int} {q : List S92} {l : List S44} (h : askV n u e mn md q l = 0) : Gd u q l := (gd_of h).2.2
/-- what was an assignment remains one -/
theorem al_more {n u e mn md : Int} {q : List S92} {l : List S44} {x : S44} {us : List S57} (h : alV n u e mn md q l us = 0) (hb : askV n u e mn md q (l ++ [x]) = 0) : alV n u e mn md q (l ++ [x]) us = 0 := by
  obtain ⟨h1, h2⟩ := al_zero h
  have G := ask_gd h1
  have G' := ask_gd hb
  have A := al_all G h2
  have hU : ∀ v ∈ us, Use q (l ++ [x]) v := fun v hv => by
    obtain ⟨a0, a1, b0, b1, c0, c1, hel⟩ := A.use v hv
    refine ⟨a0, by simp; omega, b0, b1, c0, ?_, ?_⟩
    · rw [rd_more l x a0 a1]; exact c1
    · rw [rd_more l x a0 a1]; exact hel
  unfold alV
  rw [if_pos hb, if_pos (al_mk G' us none _ _ hU (al_up us _ _ _ h2).1 (fun v hv => by cases hv) (fun _ => Int.le_refl _) (fun _ => Int.le_refl _) (fun a a0 a1 => ?_) (fun r r0 r1 => by have := A.col r r0 r1; simpa using this))]
  by_cases e : a < l.length
  · rw [rd_more l x a0 e]; have := A.row a a0 e; simpa using this
  · have hz : sb (atA a) us = 0 := sb_zero fun v hv hp => by
      have := (A.use v hv).2.1
      simp only [atA, decide_eq_true_eq] at hp
      omega
    have := (cap_bound G' a0 a1).1
    rw [hz]; simpa using this
/-- a cut, with a further attempt outside -/
def cutM (c : List Bool) (A : Nat) : List Bool := c.take (1 + A) ++ false :: c.drop (1 + A)
theorem cof_take (c : List Bool) (A : Nat) (h : 1 + A ≤ c.length) (v : Int) (h0 : 0 ≤ v) (h1 : v < 1 + (A : Int)) : Cof (cutM c A) v = Cof c v := by
  unfold Cof cutM
  rw [List.getD_eq_getElem?_getD, List.getD_eq_getElem?_getD, List.getElem?_append_left (by rw [List.length_take]; omega), List.getElem?_take_of_lt (by omega)]
theorem cof_mid (c : List Bool) (A : Nat) (h : 1 + A ≤ c.length) : Cof (cutM c A) (1 + (A : Int)) = false := by
  unfold Cof cutM
  rw [List.getD_eq_getElem?_getD, List.getElem?_append_right (by rw [List.length_take]; omega), List.length_take, show (1 + (A : Int)).toNat - min (1 + A) c.length = 0 by omega]
  rfl
theorem cof_drop (c : List Bool) (A : Nat) (h : 1 + A ≤ c.length) (k : Int) (h0 : 0 ≤ k) : Cof (cutM c A) (1 + ((A + 1 : Nat) : Int) + k) = Cof c (1 + (A : Int) + k) := by
  unfold Cof cutM
  rw [List.getD_eq_getElem?_getD, List.getD_eq_getElem?_getD, List.getElem?_append_right (by rw [List.length_take]; omega), List.length_take, show (1 + ((A + 1 : Nat) : Int) + k).toNat - min (1 + A) c.length = k.toNat + 1 by omega, List.getElem?_cons_succ, List.getElem?_drop, show (1 + (A : Int) + k).toNat = 1 + A + k.toNat by omega]
theorem bound_cof {n u e mn md : Int} {q : List S92} {l : List S44} {c : List Bool} (ha : askV n u e mn md q l = 0) (hl : l.length ≤ 12000000) (h1 : c.length = 2 + l.length + q.length) (h2 : Cof c 0 = true) (h3 : Cof c (1 + (l.length : Int) + (q.length : Int)) = false) :
    boundV n u e mn md q l c = (mx 0 (totS q - (sg (outS q l u ((c.drop 1).take l.length) (c.drop (1 + l.length))) l.length + sg (finS q (c.drop (1 + l.length))) q.length)), 0) := by
  unfold boundV
  have h2' : rdOf false c 0 = true := h2
  have h3' : rdOf false c (1 + l.length + q.length) = false := h3
  rw [if_pos ha, if_pos ⟨h1, h2', h3'⟩, bound_eq (ask_gd ha) hl]
theorem bound_ok {n u e mn md : Int} {q : List S92} {l : List S44} {c : List Bool} (ha : askV n u e mn md q l = 0) (h : (boundV n u e mn md q l c).2 = 0) : c.length = 2 + l.length + q.length ∧ Cof c 0 = true ∧ Cof c (1 + (l.length : Int) + (q.length : Int)) = false := by
  unfold boundV at h
  rw [if_pos ha] at h
  split at h
  · rename_i hc; exact hc
  · cases h
/-- WITH A FURTHER ATTEMPT NO MORE IS MISSING, and at most so much less. -/
theorem aud_more {n u e mn md : Int} {q : List S92} {l : List S44} {x : S44} (hl : l.length ≤ 50) (ha : askV n u e mn md q l = 0) (hb : askV n u e mn md q (l ++ [x]) = 0) {us us' : List S57} {m m' er er' : Int} {c c' : List Bool}
    (h : audV n u e mn md q l = (us, m, c, er)) (h' : audV n u e mn md q (l ++ [x]) = (us', m', c', er')) : m' ≤ m ∧ m - m' ≤ x.f4 * u ∧ alV n u e mn md q (l ++ [x]) us = 0 ∧ 0 ≤ m' ∧ m ≤ 640000 ∧ 0 ≤ x.f4 * u ∧ x.f4 * u ≤ 240 := by
  have hl' : (l ++ [x]).length ≤ 100 := by simp; omega
  obtain ⟨-, p2, p3, p4, -⟩ := aud_ok ha (by omega) h
  obtain ⟨-, r2, r3, r4, -⟩ := aud_ok hb hl' h'
  have hal := al_more p2 hb
  have G := ask_gd ha
  have G' := ask_gd hb
  have hcap := cap_bound G' (a := (l.length : Int)) (by omega) (by simp; omega)
  rw [rd_last] at hcap
  have hm1 := main hal (by omega) c'
  rw [p3, r4] at hm1
  have hbk := bound_ok ha (show (boundV n u e mn md q l c).2 = 0 by rw [p4])
  obtain ⟨c1, c2, c3⟩ := hbk
  have hA : 1 + l.length ≤ c.length := by omega
  have hbc := bound_cof ha (by omega) c1 c2 c3
  rw [p4] at hbc
  have hlen : (l ++ [x]).length = l.length + 1 := by simp
  have d1 : (cutM c l.length).length = 2 + (l ++ [x]).length + q.length := by
    unfold cutM
    rw [hlen, List.length_append, List.length_take, List.length_cons, List.length_drop]; omega
  have d2 : Cof (cutM c l.length) 0 = true := by rw [cof_take c _ hA 0 (by omega) (by omega)]; exact c2
  have d3 : Cof (cutM c l.length) (1 + ((l ++ [x]).length : Int) + (q.length : Int)) = false := by
    rw [hlen, cof_drop c _ hA _ (by omega)]; exact c3
  have hbm := bound_cof hb (by omega) d1 d2 d3
  have hm2 := main r2 (by omega) (cutM c l.length)
  rw [hbm, r3] at hm2
  have hm3 := (hm2.2.2 rfl).2
  dsimp only at hm3
  have hfin : sg (finS q ((cutM c l.length).drop (1 + (l ++ [x]).length))) q.length = sg (finS q (c.drop (1 + l.length))) q.length := sg_congr fun k hk => by
    unfold finS
    rw [cof_col, cof_col, hlen, cof_drop c _ hA _ (by omega)]
  have hout : sg (outS q (l ++ [x]) u (((cutM c l.length).drop 1).take (l ++ [x]).length) ((cutM c l.length).drop (1 + (l ++ [x]).length))) (l ++ [x]).length = sg (outS q l u ((c.drop 1).take l.length) (c.drop (1 + l.length))) l.length + x.f4 * u := by
    rw [hlen]
    show sg _ l.length + outS q (l ++ [x]) u _ _ l.length = _
    congr 1
    · refine sg_congr fun j hj => ?_
      unfold outS rowS
      rw [cof_row _ _ _ (by omega), cof_row _ _ _ hj, cof_take c _ hA _ (by omega) (by omega), rd_more l x (by omega) (by omega)]
      split
      · rfl
      · refine sg_congr fun k hk => ?_
        rw [cof_col, cof_col, cof_drop c _ hA _ (by omega)]
    · unfold outS
      rw [cof_row _ _ _ (by omega), cof_mid c _ hA, if_pos rfl, rd_last]
  rw [hfin, hout] at hm3
  have htb := tot_bound G
  have hmm : m = mx 0 (totS q - (sg (outS q l u ((c.drop 1).take l.length) (c.drop (1 + l.length))) l.length + sg (finS q (c.drop (1 + l.length))) q.length)) := congrArg Prod.fst hbc
  have o1 := sg_bound (b := 3840) (n := l.length) (f := outS q l u ((c.drop 1).take l.length) (c.drop (1 + l.length))) fun i hi => out_bound G _ _ hi
  have o2 := sg_bound (b := 10000) (n := q.length) (f := finS q (c.drop (1 + l.length))) fun i hi => fin_bound G _ hi
  have hm0 := hm2.2.1
  have hm4 := (hm1.2.2 rfl).2
  dsimp only at hm0 hm4
  refine ⟨hm4, ?_, hal, hm0, ?_, hcap.1, hcap.2⟩
  · rw [hmm]
    unfold mx at hm3 ⊢
    split at hm3 <;> split <;> omega
  · rw [hmm]; unfold mx; split <;> omega
theorem sb_erase (p : S57 → Bool) : ∀ (us : List S57) (i : Nat), (∀ u ∈ us, 1 ≤ u.f2) → sb p (us.take i ++ us.drop (i + 1)) ≤ sb p us
  | [], i, _ => by simp
  | u :: us, 0, h => by
    have := h u (by simp)
    simp only [List.take_zero, List.nil_append, List.drop_succ_cons, List.drop_zero, sb]
    split <;> omega
  | u :: us, i + 1, h => by
    have := sb_erase p us i fun v hv => h v (by simp [hv])
    simp only [List.take_succ_cons, List.cons_append, List.drop_succ_cons, sb]
    omega
theorem all_erase : ∀ (us : List S57) (i : Nat) (hi : i < us.length), allS (us.take i ++ us.drop (i + 1)) = allS us - us[i].f2
  | [], i, hi => by simp at hi
  | u :: us, 0, _ => by
    unfold allS
    simp only [List.take_zero, List.nil_append, List.drop_succ_cons, List.drop_zero, sb, List.getElem_cons_zero]
    simp; omega
  | u :: us, i + 1, hi => by
    have := all_erase us i (by simpa using hi)
    unfold allS at this ⊢
    simp only [List.take_succ_cons, List.cons_append, List.drop_succ_cons, sb, List.getElem_cons_succ, this]
    omega
theorem erase_sub (us : List S57) (i : Nat) : (us.take i ++ us.drop (i + 1)).Sublist us := by
  have h := List.Sublist.append (List.Sublist.refl (us.take i)) (List.drop_sublist_drop_left us (show i ≤ i + 1 by omega))
  rwa [List.take_append_drop] at h
/-- without one of its uses, an assignment is still one; so much more is missing -/
theorem al_drop {n u e mn md : Int} {q : List S92} {l : List S44} {us : List S57} {i : Nat} (hi : i < us.length) (h : alV n u e mn md q l us = 0) {m : Int} (hm : missV n u e mn md q us = (m, 0)) :
    alV n u e mn md q l (us.take i ++ us.drop (i + 1)) = 0 ∧ missV n u e mn md q (us.take i ++ us.drop (i + 1)) = (m + us[i].f2, 0) ∧ 1 ≤ us[i].f2 ∧ us[i].f2 ≤ 60 ∧ 0 ≤ m ∧ m ≤ 640000 := by
  obtain ⟨h1, h2⟩ := al_zero h
  obtain ⟨g1, g2, G⟩ := gd_of h1
  have A := al_all G h2
  have hsub := erase_sub us i
  have hpos : ∀ v ∈ us, 1 ≤ v.f2 := fun v hv => (A.use v hv).2.2.2.2.1
  have hgo : alGo q l u none (fun _ => 0) (fun _ => 0) (us.take i ++ us.drop (i + 1)) = true :=
    al_mk G _ none _ _ (fun v hv => A.use v (hsub.subset hv)) ((al_up us _ _ _ h2).1.sublist hsub) (fun v hv => by cases hv) (fun _ => Int.le_refl _) (fun _ => Int.le_refl _)
      (fun a a0 a1 => by have h3 := A.row a a0 a1; have h4 := sb_erase (atA a) us i hpos; omega) (fun r r0 r1 => by have h3 := A.col r r0 r1; have h4 := sb_erase (atR r) us i hpos; omega)
  obtain ⟨k1, k2⟩ := miss_al g1 G h2
  obtain ⟨k3, k4⟩ := miss_al g1 G hgo
  rw [hm] at k1
  have hme : m = totS q - allS us := congrArg Prod.fst k1
  have hu := A.use us[i] (List.getElem_mem hi)
  have hc := G.l1 _ (rd_memA hu.1 hu.2.1)
  have htb := tot_bound G
  have hall : 0 ≤ allS us := sb_nonneg hpos
  refine ⟨?_, ?_, hu.2.2.2.2.1, by have := hu.2.2.2.2.2.1; omega, by omega, by omega⟩
  · unfold alV; rw [if_pos h1, if_pos hgo]
  · rw [k3, all_erase us i hi, hme]; congr 1; omega
/-- .. and Check refuses it with the old cut -/
theorem chk_drop {n u e mn md : Int} {q : List S92} {l : List S44} (ha : askV n u e mn md q l = 0) (hl : l.length ≤ 100) {us : List S57} {m er : Int} {c : List Bool} (h : audV n u e mn md q l = (us, m, c, er)) {i : Nat} (hi : i < us.length) :
    alV n u e mn md q l (us.take i ++ us.drop (i + 1)) = 0 ∧ missV n u e mn md q (us.take i ++ us.drop (i + 1)) = (m + us[i].f2, 0) ∧ chkP n u e mn md q l (us.take i ++ us.drop (i + 1)) (m + us[i].f2) c = 200 ∧ 1 ≤ us[i].f2 ∧ us[i].f2 ≤ 60 ∧ 0 ≤ m ∧ m ≤ 640000 := by
  obtain ⟨-, p2, p3, p4, -⟩ := aud_ok ha hl h
  obtain ⟨k1, k2, k3, k4, k5, k6⟩ := al_drop hi p2 p3
  refine ⟨k1, k2, ?_, k3, k4, k5, k6⟩
  unfold chkP
  rw [if_pos k1, k2, p4, if_pos rfl, if_pos rfl, if_pos rfl]
  dsimp only
  rw [if_neg (by omega)]
end Go.Proofs.Ytadeidhefjifaaa.Px.L20
end
section
set_option linter.unusedVariables false
set_option linter.unusedSimpArgs false
namespace Go.Proofs.Ytadeidhefjifaaa.Px
open Go.RowKit Go.Proofs.YtadeidhefjifaaaW.PrintWords Go.Proofs.YtadeidhefjifaaaW.PrintLast Go.Proofs.YtadeidhefjifaaaW.PrintMore
open L20 (ev_few ev_sane sane_ok audV aud_more aud_bad aud_ok)
theorem wpOp_of {P : Program} {ops : Array Oper} {Q : Exit → Act → World → Prop} {i : Nat} {o : Oper} {a : Act} {w : World} {K : Act → World → Prop} (hi : ops[i]? = some o) (hg : o.guard = none) (h : o.wp P a w K Q) : wpOp P ops Q i K a w := by
  unfold wpOp
  simp only [hi]
  rw [if_pos (by unfold Region.wanted; rw [hg])]
  exact .inl h
/-- a row of no elements, made -/
theorem R_made0 {α : Type} (d : Kd α) (e : Nat) {W : World} {g base : Nat} {ok : Nat → Prop} (h : W.heap[g]? = some (.cells #[] e (0, 0))) (hb : base ≤ g) (hok : ok g) : Kd.R d e W base ok (.slice (some ⟨g, 0, none⟩) 0 0) [] :=
  ⟨fun k hk => by cases hk; exact hok, [], ⟨by simp, .inr ⟨g, 0, #[], rfl, hb, h, Nat.le_refl _, Nat.zero_le _, by simp, by simp⟩⟩, by simp, fun j p hj => by simp at hj⟩
/-- the boxes of the law -/
structure MS (w : World) (pv xv : Array Value) (W : World) : Prop where
  below : Below w.heap.size w W
  hp : W.heap[w.heap.size]? = some (.cells pv 41 (0, 0))
  hx : W.heap[w.heap.size + 1]? = some (.cells xv 44 (0, 0))
theorem MS.after {w W W' : World} {pv xv : Array Value} (h : MS w pv xv W) (hb : Below W.heap.size W W') : MS w pv xv W' :=
  ⟨below_step h.below hb, (hb.block _ (blk_lt h.hp)).trans h.hp, (hb.block _ (blk_lt h.hx)).trans h.hx⟩
/-- other rows may grow, if they lie beyond -/
theorem MS.grown {w W W' : World} {pv xv : Array Value} (h : MS w pv xv W) {row : Option Nat} (hg : W.grownBy W' row) (hr : ∀ k, row = some k → w.heap.size + 1 < k) : MS w pv xv W' :=
  ⟨h.below.grown hg h.below.size (fun k e => by have := hr k e; omega), (hg.block _ (blk_lt h.hp) (fun e => by have := hr _ e.symm; omega)).trans h.hp, (hg.block _ (blk_lt h.hx) (fun e => by have := hr _ e.symm; omega)).trans h.hx⟩
end Go.Proofs.Ytadeidhefjifaaa.Px
end
section
set_option linter.unusedVariables false
set_option linter.unusedSimpArgs false
namespace Go.Proofs.Ytadeidhefjifaaa.Px
open Go.RowKit Go.Proofs.YtadeidhefjifaaaW.PrintWords Go.Proofs.YtadeidhefjifaaaW.PrintLast Go.Proofs.YtadeidhefjifaaaW.PrintMore
open L20 (ev_few ev_sane sane_ok audV aud_bad aud_ok ev_missL ev_chk chkP missV chk_drop)
/-- the boxes of the law -/
structure DP (w : World) (pv : Array Value) (W : World) : Prop where
  below : Below w.heap.size w W
  hp : W.heap[w.heap.size]? = some (.cells pv 41 (0, 0))
theorem DP.after {w W W' : World} {pv : Array Value} (h : DP w pv W) (hb : Below W.heap.size W W') : DP w pv W' :=
  ⟨below_step h.below hb, (hb.block _ (blk_lt h.hp)).trans h.hp⟩
/-- the audit, and its copy -/
structure DS (w : World) (pv : Array Value) (ga gb : Nat) (vU vC vB : Value) (m mb : Int) (us : List S57) (c : List Bool) (W : World) : Prop where
  dp : DP w pv W
  ha : W.heap[ga]? = some (.cells #[vU, .int .i64 m, vC] 48 (0, 0))
  hb : W.heap[gb]? = some (.cells #[vB, .int .i64 mb, vC] 48 (0, 0))
  l1 : w.heap.size < ga
  l2 : ga < gb
  ru : Kd.R k57 57 W w.heap.size (fun k => k < ga) vU us
  rc : Kd.R Kd.bool 4 W w.heap.size (fun k => k < ga) vC c
section
variable {w W W' : World} {pv : Array Value} {ga gb : Nat} {vU vC vB vB' : Value} {m mb mb' : Int} {us : List S57} {c : List Bool}
theorem DS.after (h : DS w pv ga gb vU vC vB m mb us c W) (hb : Below W.heap.size W W') : DS w pv ga gb vU vC vB m mb us c W' :=
  ⟨h.dp.after hb, (hb.block _ (blk_lt h.ha)).trans h.ha, (hb.block _ (blk_lt h.hb)).trans h.hb, h.l1, h.l2, Kd.R_below h.ru hb, Kd.R_below h.rc hb⟩
theorem DS.grown (h : DS w pv ga gb vU vC vB m mb us c W) {row : Option Nat} (hg : W.grownBy W' row) (hr : ∀ k, row = some k → gb < k) : DS w pv ga gb vU vC vB m mb us c W' := by
  have h1 := h.l1
  have h2 := h.l2
  exact ⟨⟨h.dp.below.grown hg h.dp.below.size (fun k e => by have := hr k e; omega), (hg.block _ (blk_lt h.dp.hp) (fun e => by have := hr _ e.symm; omega)).trans h.dp.hp⟩, (hg.block _ (blk_lt h.ha) (fun e => by have := hr _ e.symm; omega)).trans h.ha, (hg.block _ (blk_lt h.hb) (fun e => by have := hr _ e.symm; omega)).trans h.hb, h1, h2,
    Kd.R_grown h.ru hg (fun k hk e => by have := hr k e.symm; omega), Kd.R_grown h.rc hg (fun k hk e => by have := hr k e.symm; omega)⟩
theorem DS.set0 (h : DS w pv ga gb vU vC vB m mb us c W) (v : Value) : DS w pv ga gb vU vC v m mb us c (W.setCell ⟨gb, 0, none⟩ v) := by
  have h1 := h.l1
  have h2 := h.l2
  exact ⟨⟨h.dp.below.setCell (p := ⟨gb, 0, none⟩) (by show w.heap.size ≤ gb; omega) _, set_farN h.dp.hp (by omega) _⟩, set_farN h.ha (by omega) _, row_setCell h.hb 0 _, h1, h2, Kd.R_far h.ru (fun k hk => by show k ≠ gb; omega) _, Kd.R_far h.rc (fun k hk => by show k ≠ gb; omega) _⟩
theorem DS.set1 (h : DS w pv ga gb vU vC vB m mb us c W) (x : Int) : DS w pv ga gb vU vC vB m x us c (W.setCell ⟨gb, 1, none⟩ (.int .i64 x)) := by
  have h1 := h.l1
  have h2 := h.l2
  exact ⟨⟨h.dp.below.setCell (p := ⟨gb, 1, none⟩) (by show w.heap.size ≤ gb; omega) _, set_farN h.dp.hp (by omega) _⟩, set_farN h.ha (by omega) _, row_setCell h.hb 1 _, h1, h2, Kd.R_far h.ru (fun k hk => by show k ≠ gb; omega) _, Kd.R_far h.rc (fun k hk => by show k ≠ gb; omega) _⟩
end
def sizarlaw20_ProofDropped.f (k : Nat) (a0_0 : ByteArray) (a0_1 a0_2 a0_3 a0_4 a0_5 : Int) (l0_6 : List S92) (l1 : List S44) (a2 : Int) : Option Bool := if 0 ≤ a2 ∧ a2 < 18446744073709551616 then some true else none
set_option maxRecDepth 100000 in
set_option maxHeartbeats 4000000 in
theorem sizarlaw20_ProofDropped.calls (k : Nat) (s0 : ByteArray) (i1 pu i3 i4 i5 : Int) (Aq : Option Addr) (cq : Nat) (q : List S92) (A1 : Option Addr) (c1 : Nat) (l : List S44) (wh : Int) (r : Bool) (w : World)
    (hq : Kd.C k92 w Aq q.length q) (hcq : q.length ≤ cq) (hl : Kd.C k44 w A1 l.length l) (hcl : l.length ≤ c1) (h : sizarlaw20_ProofDropped.f k s0 i1 pu i3 i4 i5 q l wh = some r) :
    Calls Try.prog 9 #[.agg #[.string s0, .int .i64 i1, .int .i64 pu, .int .i64 i3, .int .i64 i4, .int .i64 i5, .slice Aq q.length cq], .slice A1 l.length c1, .int .u64 wh] w
      fun e w' => e = .returned (.bool r) ∧ Below w.heap.size w w' := by
  unfold sizarlaw20_ProofDropped.f at h
  split at h
  case isFalse => cases h
  rename_i hwh
  obtain rfl : true = r := Option.some.inj h
  have hu41 := Try.underlying41
  have hu44 := Try.underlying44
  have hu48 := Try.underlying48
  have hu57 := Try.underlying57
  have HQ := Aside0.mk hq
  have HL := Aside0.mk hl
  have HWH := Aside0.mk hwh
  obtain ⟨bf, ⟨KF, hKF⟩, hbf⟩ := ev_few s0 i1 pu i3 i4 i5 q l
  have HKF := Aside0.mk (hKF KF (Nat.le_refl _))
  have HBF := Aside0.mk hbf
  have HM0 := Aside0.mk (show DP w #[.string s0, .int .i64 i1, .int .i64 pu, .int .i64 i3, .int .i64 i4, .int .i64 i5, .slice Aq q.length cq] (w.alloc (.cells #[.string s0, .int .i64 i1, .int .i64 pu, .int .i64 i3, .int .i64 i4, .int .i64 i5, .slice Aq q.length cq] 41)) from ⟨below_alloc (Below.refl _ _) _, heap_alloc_new w _⟩)
  clear hq hl h hKF hbf hwh
  go_enter Try.func9, Try.ntmps9
  go_wp2_with fail
  refine (sizarlaw20_sane.calls 30 true _ sane_ok).mono ?_
  rintro e W1 ⟨rfl, hb1⟩
  have hM1 := HM0.out.after hb1
  have HM1 := Aside0.mk hM1
  have p0 := (blk_cell hM1.hp 0).trans (show _ = some _ from rfl)
  have p1 := (blk_cell hM1.hp 1).trans (show _ = some _ from rfl)
  have p2 := (blk_cell hM1.hp 2).trans (show _ = some _ from rfl)
  have p3 := (blk_cell hM1.hp 3).trans (show _ = some _ from rfl)
  have p4 := (blk_cell hM1.hp 4).trans (show _ = some _ from rfl)
  have p5 := (blk_cell hM1.hp 5).trans (show _ = some _ from rfl)
  have p6 := (blk_cell hM1.hp 6).trans (show _ = some _ from rfl)
  clear hM1 HM0 hb1
  go_wp2_with fail
  refine (sizarref20_Few.calls KF s0 i1 pu i3 i4 i5 Aq cq q A1 c1 l bf _ (Kd.C_below HQ.out HM1.out.below) hcq (Kd.C_below HL.out HM1.out.below) hcl HKF.out).mono ?_
  rintro e W2 ⟨rfl, hb2⟩
  have hM2 := HM1.out.after hb2
  have HM2 := Aside0.mk hM2
  clear HM1 hb2 p0 p1 p2 p3 p4 p5 p6
  cases bf with
  | false =>
    go_wp2_with fail
    go_ret
    exact ⟨rfl, HM2.out.below⟩
  | true =>
  have hl12 := (HBF.out rfl).2
  have hq10 := (HBF.out rfl).1
  have p0 := (blk_cell hM2.hp 0).trans (show _ = some _ from rfl)
  have p1 := (blk_cell hM2.hp 1).trans (show _ = some _ from rfl)
  have p2 := (blk_cell hM2.hp 2).trans (show _ = some _ from rfl)
  have p3 := (blk_cell hM2.hp 3).trans (show _ = some _ from rfl)
  have p4 := (blk_cell hM2.hp 4).trans (show _ = some _ from rfl)
  have p5 := (blk_cell hM2.hp 5).trans (show _ = some _ from rfl)
  have p6 := (blk_cell hM2.hp 6).trans (show _ = some _ from rfl)
  clear HBF HKF hM2
  obtain ⟨us, m, c, er, hA1⟩ : ∃ us m c er, audV i1 pu i3 i4 i5 q l = (us, m, c, er) := ⟨_, _, _, _, rfl⟩
  have hF1 : degree_Audit.f 0 s0 i1 pu i3 i4 i5 q l = some (us, m, c, er) := by unfold degree_Audit.f; rw [if_pos (by omega), hA1]
  have HA1 := Aside0.mk hA1
  clear hA1
  go_wp2_with fail
  refine (degree_Audit.calls 0 s0 i1 pu i3 i4 i5 Aq cq q A1 c1 l us m c er W2 (Kd.C_below HQ.out HM2.out.below) hcq (Kd.C_below HL.out HM2.out.below) hcl hF1).mono ?_
  rintro e W4 ⟨v0, v2, rfl, hr0, hr2, hb4⟩
  obtain ⟨Au, cu, rfl⟩ := Kd.R_slice hr0
  obtain ⟨Ac, cc, rfl⟩ := Kd.R_slice hr2
  have hm4 := HM2.out.after hb4
  have HM4 := Aside0.mk hm4
  have hru : Kd.R k57 57 W4 w.heap.size (fun k => k < W4.heap.size) (.slice Au us.length cu) us := Kd.R_lower (Kd.R_mono (Kd.R_bound hr0) (fun k hk => hk.2.2.1)) HM2.out.below.size
  have hrc : Kd.R Kd.bool 4 W4 w.heap.size (fun k => k < W4.heap.size) (.slice Ac c.length cc) c := Kd.R_lower (Kd.R_mono (Kd.R_bound hr2) (fun k hk => hk.2.2.1)) HM2.out.below.size
  have HRU := Aside0.mk hru
  have HRC := Aside0.mk hrc
  have l0 := blk_lt hm4.hp
  clear p0 p1 p2 p3 p4 p5 p6 hr0 hr2 hb4 hF1 HM2 hru hrc
  have p0 := (blk_cell hm4.hp 0).trans (show _ = some _ from rfl)
  have p1 := (blk_cell hm4.hp 1).trans (show _ = some _ from rfl)
  have p2 := (blk_cell hm4.hp 2).trans (show _ = some _ from rfl)
  have p3 := (blk_cell hm4.hp 3).trans (show _ = some _ from rfl)
  have p4 := (blk_cell hm4.hp 4).trans (show _ = some _ from rfl)
  have p5 := (blk_cell hm4.hp 5).trans (show _ = some _ from rfl)
  have p6 := (blk_cell hm4.hp 6).trans (show _ = some _ from rfl)
  clear hm4
  by_cases h0 : er = 0
  case neg =>
    have b0 : (er != 0) = true := by simp [h0]
    clear h0
    go_wp2_with fail
    go_ret
    exact ⟨rfl, HM4.out.below.trans (below_alloc (Below.refl _ _) _ |>.mono HM4.out.below.size)⟩
  subst h0
  have hask : askV i1 pu i3 i4 i5 q l = 0 := by
    by_cases ha : askV i1 pu i3 i4 i5 q l = 0
    · exact ha
    · have hh := HA1.out; rw [aud_bad ha] at hh
      have := (Prod.mk.inj (Prod.mk.inj (Prod.mk.inj hh).2).2).2
      exact absurd this ha
  by_cases hz : us.length = 0
  case pos =>
    have b1 : ((us.length : Int) == 0) = true := by simp [hz]
    go_wp2_with fail
    go_ret
    exact ⟨rfl, HM4.out.below.trans (below_alloc (Below.refl _ _) _ |>.mono HM4.out.below.size)⟩
  have b1 : ((us.length : Int) == 0) = false := by simp; exact fun e => hz (by rw [e]; rfl)
  have hok := aud_ok hask (by omega) HA1.out
  have hul : us.length ≤ 768 := by omega
  have hulz : 0 < us.length := by omega
  have HASK := Aside0.mk hask
  clear hask hok
  go_upto_region 9 with fail
  obtain ⟨i, hi, hi2⟩ : ∃ i : Nat, wrap64 (wh.tmod (us.length : Int)) = i ∧ i < us.length := by
    have h1 := Int.tmod_nonneg (us.length : Int) HWH.out.1
    have h2 := Int.tmod_lt_of_pos wh (show (0 : Int) < us.length by omega)
    refine ⟨(wh.tmod (us.length : Int)).toNat, ?_, by omega⟩
    rw [L20.wrap_id _ (by omega) (by omega)]; omega
  rw [hi]
  clear hi p0 p1 p2 p3 p4 p5 p6 b1
  obtain ⟨ga, hga⟩ : ∃ g, W4.heap.size = g := ⟨_, rfl⟩
  obtain ⟨ad, rfl⟩ : ∃ ad, Au = some ad := by
    obtain ⟨ad, e, _⟩ := (Kd.R_reads' HRU.out).2.2.2.2 (by omega)
    exact ⟨ad, e⟩
  have hba : Below W4.heap.size W4 (W4.alloc (.cells #[(.slice (some ad) us.length cu), .int .i64 m, (.slice Ac c.length cc)] 48)) := below_alloc (Below.refl _ _) _
  have hD5 : DP w #[.string s0, .int .i64 i1, .int .i64 pu, .int .i64 i3, .int .i64 i4, .int .i64 i5, .slice Aq q.length cq] (W4.alloc (.cells #[(.slice (some ad) us.length cu), .int .i64 m, (.slice Ac c.length cc)] 48)) := HM4.out.after hba
  have hA5 : (W4.alloc (.cells #[(.slice (some ad) us.length cu), .int .i64 m, (.slice Ac c.length cc)] 48)).heap[ga]? = some (.cells #[(.slice (some ad) us.length cu), .int .i64 m, (.slice Ac c.length cc)] 48 (0, 0)) := by rw [← hga]; exact heap_alloc_new _ _
  have hU5 := Kd.R_below HRU.out hba
  have hC5 := Kd.R_below HRC.out hba
  have hl5 : w.heap.size < ga := by omega
  rw [hga] at hU5 hC5 ⊢
  obtain ⟨W5, hW5⟩ : ∃ X, W4.alloc (.cells #[(.slice (some ad) us.length cu), .int .i64 m, (.slice Ac c.length cc)] 48) = X := ⟨_, rfl⟩
  rw [hW5] at hD5 hA5 hU5 hC5 ⊢
  have a0 := (blk_cell hA5 0).trans (show _ = some _ from rfl)
  have a1 := (blk_cell hA5 1).trans (show _ = some _ from rfl)
  have a2 := (blk_cell hA5 2).trans (show _ = some _ from rfl)
  clear hW5 hba hga HM4 HRU HRC l0
  go_upto_region 10 with fail
  obtain ⟨gb, hgb⟩ : ∃ g, W5.heap.size = g := ⟨_, rfl⟩
  have hS6 : DS w #[.string s0, .int .i64 i1, .int .i64 pu, .int .i64 i3, .int .i64 i4, .int .i64 i5, .slice Aq q.length cq] ga gb (.slice (some ad) us.length cu) (.slice Ac c.length cc) (.slice (some ad) us.length cu) m m us c (W5.alloc (.cells #[(.slice (some ad) us.length cu), .int .i64 m, (.slice Ac c.length cc)] 48)) := by
    have hbb : Below W5.heap.size W5 (W5.alloc (.cells #[(.slice (some ad) us.length cu), .int .i64 m, (.slice Ac c.length cc)] 48)) := below_alloc (Below.refl _ _) _
    exact ⟨hD5.after hbb, (hbb.block _ (blk_lt hA5)).trans hA5, by rw [← hgb]; exact heap_alloc_new _ _, hl5, by rw [← hgb]; exact blk_lt hA5, Kd.R_below hU5 hbb, Kd.R_below hC5 hbb⟩
  rw [hgb]
  obtain ⟨W6, hW6⟩ : ∃ X, W5.alloc (.cells #[(.slice (some ad) us.length cu), .int .i64 m, (.slice Ac c.length cc)] 48) = X := ⟨_, rfl⟩
  rw [hW6] at hS6 ⊢
  have HS6 := Aside0.mk hS6
  have HSD := Aside0.mk (hS6.after (below_drew (Below.refl W6.heap.size W6)))
  clear a0 a1 a2 hW6 hgb hS6 hD5 hA5 hU5 hC5 hl5
  obtain ⟨us2, hus2⟩ : ∃ x, us.take i ++ us.drop (i + 1) = x := ⟨_, rfl⟩
  refine Go.Code.wp_mono (Q := fun e a' w' => e = .normal ∧ ∃ g0 u46 u51 v, a' = { tmps := #[Value.agg #[Value.string s0, Value.int .i64 i1, Value.int .i64 pu, Value.int .i64 i3, Value.int .i64 i4, Value.int .i64 i5, Value.slice Aq q.length cq], Value.slice A1 l.length c1, Value.int IntKind.u64 wh, Value.pointer (some ⟨w.heap.size, 0, none⟩), undef, undef, Value.bool false, Value.pointer (some ⟨ga, 0, none⟩), Value.int .i64 0, Value.int .i64 i, Value.pointer (some ⟨gb, 0, none⟩), undef, undef, Value.bool true, Value.bool false, Value.agg #[Value.string s0, Value.int .i64 i1, Value.int .i64 pu, Value.int .i64 i3, Value.int .i64 i4, Value.int .i64 i5, Value.slice Aq q.length cq], Value.slice A1 l.length c1, Value.bool true, Value.bool false, Value.tuple #[Value.agg #[Value.slice (some ad) us.length cu, Value.int .i64 m, Value.slice Ac c.length cc], Value.int .i64 0], Value.agg #[Value.string s0, Value.int .i64 i1, Value.int .i64 pu, Value.int .i64 i3, Value.int .i64 i4, Value.int .i64 i5, Value.slice Aq q.length cq], Value.slice A1 l.length c1, Value.tuple #[Value.agg #[Value.slice (some ad) us.length cu, Value.int .i64 m, Value.slice Ac c.length cc], Value.int .i64 0], Value.agg #[Value.slice (some ad) us.length cu, Value.int .i64 m, Value.slice Ac c.length cc], Value.int .i64 0, Value.int .i64 0, Value.bool false, Value.bool false, Value.pointer (some ⟨ga, 0, none⟩), Value.slice (some ad) us.length cu, Value.int .i64 us.length, Value.bool false, Value.bool false, Value.int IntKind.u64 wh, Value.pointer (some ⟨ga, 0, none⟩), Value.slice (some ad) us.length cu, Value.int .i64 us.length, Value.int IntKind.u64 us.length, Value.int IntKind.u64 (wh.tmod us.length), Value.int .i64 i, Value.agg #[Value.slice (some ad) us.length cu, Value.int .i64 m, Value.slice Ac c.length cc], .slice (some ⟨g0, 0, none⟩) 0 0, .pointer (some ⟨ga, 0, none⟩), .slice (some ad) us.length cu, .int .i64 (i : Int), .slice (some ad) i cu, u46, .pointer (some ⟨ga, 0, none⟩), .slice (some ad) us.length cu, .int .i64 (i : Int), .int .i64 ((i : Int) + 1), u51, v, .pointer (some ⟨gb, 0, none⟩), undef, undef, undef, undef, undef, undef, undef, undef, undef, undef, undef, undef, undef, undef, undef, undef, undef, undef, undef, undef, undef, undef, undef, undef, undef, undef, undef, undef, undef, undef, undef, undef, undef, undef, undef, undef, undef], defers := [] } ∧ Kd.R k57 57 w' w.heap.size (fun k => gb < k) v us2 ∧ DS w #[.string s0, .int .i64 i1, .int .i64 pu, .int .i64 i3, .int .i64 i4, .int .i64 i5, .slice Aq q.length cq] ga gb (.slice (some ad) us.length cu) (.slice Ac c.length cc) v m m us c w') ?post ?reg
  case reg =>
    have hsz : gb < W6.drew.heap.size := blk_lt HSD.out.hb
    have hci : i ≤ cu := by have := (Kd.R_reads' HSD.out.ru).2.1; omega
    have hcu : us.length ≤ cu := (Kd.R_reads' HSD.out.ru).2.1
    have hw1 : IntKind.i64.wrap ((i : Int) + 1) = (i : Int) + 1 := IntWalk.i64_in _ (by omega)
    refine wp_region_T (by kernel_rfl) (fun w' => DS w #[.string s0, .int .i64 i1, .int .i64 pu, .int .i64 i3, .int .i64 i4, .int .i64 i5, .slice Aq q.length cq] ga gb (.slice (some ad) us.length cu) (.slice Ac c.length cc) (.slice (some ad) us.length cu) m m us c w') 13 ?_
    refine wpAnyT_take (i := 1) (v := .pointer (some ⟨ga, 0, none⟩)) (by decide +kernel) (by decide) rfl (by decide +kernel) (by decide +kernel) (by decide +kernel) (fun _ _ _ h => by cases h.1) (.inl ⟨rfl, fun w' hS' => ?_⟩) HSD.out ?_
    · go_simp; done
    (try simp only [Act.put, List.getElem_toArray, List.getElem_cons_succ, List.getElem_cons_zero, List.setIfInBounds_toArray, List.set_cons_zero, List.set_cons_succ])
    refine wpAnyT_take (i := 2) (v := (.slice (some ad) us.length cu)) (by decide +kernel) (by decide) rfl (by decide +kernel) (by decide +kernel) (by decide +kernel) (fun _ _ _ h => by cases h.1) (.inl ⟨rfl, fun w' hS' => ?_⟩) HSD.out ?_
    · have z0 := (blk_cell hS'.ha 0).trans (show _ = some _ from rfl)
      go_simp; done
    (try simp only [Act.put, List.getElem_toArray, List.getElem_cons_succ, List.getElem_cons_zero, List.setIfInBounds_toArray, List.set_cons_zero, List.set_cons_succ])
    refine wpAnyT_take (i := 3) (v := .int .i64 (i : Int)) (by decide +kernel) (by decide) rfl (by decide +kernel) (by decide +kernel) (by decide +kernel) (fun _ _ _ h => by cases h.1) (.inl ⟨rfl, fun w' hS' => ?_⟩) HSD.out ?_
    · go_simp; done
    (try simp only [Act.put, List.getElem_toArray, List.getElem_cons_succ, List.getElem_cons_zero, List.setIfInBounds_toArray, List.set_cons_zero, List.set_cons_succ])
    refine wpAnyT_take (i := 4) (v := .slice (some ad) i cu) (by decide +kernel) (by decide) rfl (by decide +kernel) (by decide +kernel) (by decide +kernel) (fun _ _ _ h => by cases h.1) (.inl ⟨rfl, fun w' hS' => ?_⟩) HSD.out ?_
    · go_simp; done
    (try simp only [Act.put, List.getElem_toArray, List.getElem_cons_succ, List.getElem_cons_zero, List.setIfInBounds_toArray, List.set_cons_zero, List.set_cons_succ])
    refine wpAnyT_take (i := 6) (v := .pointer (some ⟨ga, 0, none⟩)) (by decide +kernel) (by decide) rfl (by decide +kernel) (by decide +kernel) (by decide +kernel) (fun _ _ _ h => by cases h.1) (.inl ⟨rfl, fun w' hS' => ?_⟩) HSD.out ?_
    · go_simp; done
    (try simp only [Act.put, List.getElem_toArray, List.getElem_cons_succ, List.getElem_cons_zero, List.setIfInBounds_toArray, List.set_cons_zero, List.set_cons_succ])
    refine wpAnyT_take (i := 7) (v := (.slice (some ad) us.length cu)) (by decide +kernel) (by decide) rfl (by decide +kernel) (by decide +kernel) (by decide +kernel) (fun _ _ _ h => by cases h.1) (.inl ⟨rfl, fun w' hS' => ?_⟩) HSD.out ?_
    · have z0 := (blk_cell hS'.ha 0).trans (show _ = some _ from rfl)
      go_simp; done
    (try simp only [Act.put, List.getElem_toArray, List.getElem_cons_succ, List.getElem_cons_zero, List.setIfInBounds_toArray, List.set_cons_zero, List.set_cons_succ])
    refine wpAnyT_take (i := 8) (v := .int .i64 (i : Int)) (by decide +kernel) (by decide) rfl (by decide +kernel) (by decide +kernel) (by decide +kernel) (fun _ _ _ h => by cases h.1) (.inl ⟨rfl, fun w' hS' => ?_⟩) HSD.out ?_
    · go_simp; done
    (try simp only [Act.put, List.getElem_toArray, List.getElem_cons_succ, List.getElem_cons_zero, List.setIfInBounds_toArray, List.set_cons_zero, List.set_cons_succ])
    refine wpAnyT_take (i := 9) (v := .int .i64 ((i : Int) + 1)) (by decide +kernel) (by decide) rfl (by decide +kernel) (by decide +kernel) (by decide +kernel) (fun _ _ _ h => by cases h.1) (.inl ⟨rfl, fun w' hS' => ?_⟩) HSD.out ?_
    · go_simp; done
    (try simp only [Act.put, List.getElem_toArray, List.getElem_cons_succ, List.getElem_cons_zero, List.setIfInBounds_toArray, List.set_cons_zero, List.set_cons_succ])
    refine wpAnyT_take (i := 10) (v := .slice (if cu = i + 1 then some ad else some (ad.add ((i + 1) * 3))) (us.length - (i + 1)) (cu - (i + 1))) (by decide +kernel) (by decide) rfl (by decide +kernel) (by decide +kernel) (by decide +kernel) (fun _ _ _ h => by cases h.1) (.inl ⟨rfl, fun w' hS' => ?_⟩) HSD.out ?_
    · go_simp
      intro h_; exact absurd (h_ (by omega)) (by omega)
    (try simp only [Act.put, List.getElem_toArray, List.getElem_cons_succ, List.getElem_cons_zero, List.setIfInBounds_toArray, List.set_cons_zero, List.set_cons_succ])
    have hD := HSD.out
    obtain ⟨W, hW⟩ : ∃ X, W6.drew = X := ⟨_, rfl⟩
    rw [hW] at hD hsz ⊢
    have HKM := Aside0.mk (show ∀ (W : World) (x : S57) (cs : List Value), k57.K W x cs → k57.M W w.heap.size (fun _ => False) x cs from fun W x cs hK => by obtain rfl := k57_open hK; exact k57_mkM _ _ _ x)
    refine wpAnyT_one (i := 0) rfl rfl (by decide +kernel) ?_
    unfold Oper.wp
    go_simp
    have ga_h : (W.alloc (.cells #[] 57)).heap[W.heap.size]? = some (.cells #[] 57 (0, 0)) := heap_alloc_new _ _
    have hDa := hD.after (below_alloc (Below.refl _ _) (.cells #[] 57))
    have hsa : W.heap.size < (W.alloc (.cells #[] 57)).heap.size := by simp
    obtain ⟨Wa, hWa⟩ : ∃ X, W.alloc (.cells #[] 57) = X := ⟨_, rfl⟩
    rw [hWa] at ga_h hDa hsa ⊢
    refine ⟨hDa, ?_⟩
    (try simp only [Act.put, List.getElem_toArray, List.getElem_cons_succ, List.getElem_cons_zero, List.setIfInBounds_toArray, List.set_cons_zero, List.set_cons_succ])
    refine wpAnyT_one (i := 5) rfl rfl (by decide +kernel) ?_
    have hCt : Kd.C k57 Wa (some ad) i (us.take i) := by
      have h_ := Kd.C_take (Kd.R_reads' hDa.ru).2.2 (m := i) (by omega)
      rwa [List.length_take, Nat.min_eq_left (by omega)] at h_
    have hCd : ∀ X : World, DS w #[.string s0, .int .i64 i1, .int .i64 pu, .int .i64 i3, .int .i64 i4, .int .i64 i5, .slice Aq q.length cq] ga gb (.slice (some ad) us.length cu) (.slice Ac c.length cc) (.slice (some ad) us.length cu) m m us c X → Kd.C k57 X (if cu = i + 1 then some ad else some (ad.add ((i + 1) * 3))) (us.length - (i + 1)) (us.drop (i + 1)) := fun X hX => by
      have h_ := Kd.C_drop (Kd.R_reads' hX.ru).2.2 (m := i + 1) (c := cu) (by omega) (by omega)
      rwa [List.length_drop] at h_
    refine of_wanted (ops := #[]) rfl (Kd.R_append_rows_step k57 (w0 := w) (W := Wa) w.heap.size rfl (.tmp 41) (.tmp 45) 46 57 (.agg #[.int .i64 0, .int .i64 0, .int .i64 0]) 24 rfl Try.underlying46 info57 rfl (by decide) (by decide) (.slice (some ⟨W.heap.size, 0, none⟩) 0 0) [] (us.take i) (some ad) i cu (fun k => gb < k) (fun _ => False) rfl rfl (R_made0 k57 57 ga_h (by have := hD.l1; have := hD.l2; omega) (by omega)) hCt (HKM.out _) (fun _ h => h.elim) (fun k hk => by omega) hDa.dp.below hDa.dp.below.size (by simp; omega) ?_)
    intro u46 Wb hrb _ hgb _
    (try simp only [Act.put, List.getElem_toArray, List.getElem_cons_succ, List.getElem_cons_zero, List.setIfInBounds_toArray, List.set_cons_zero, List.set_cons_succ])
    have hDb := hDa.grown hgb (fun k e => by cases e; (try dsimp only); omega)
    have hsb : Wa.heap.size ≤ Wb.heap.size := hgb.size
    rw [List.nil_append] at hrb
    refine ⟨.inr hDb, ?_⟩
    refine wpAnyT_one (i := 11) rfl rfl (by decide +kernel) ?_
    refine of_wanted (ops := #[]) rfl (Kd.R_append_rows_step k57 (w0 := w) (W := Wb) w.heap.size rfl (.tmp 46) (.tmp 51) 46 57 (.agg #[.int .i64 0, .int .i64 0, .int .i64 0]) 24 rfl Try.underlying46 info57 rfl (by decide) (by decide) u46 (us.take i) (us.drop (i + 1)) (if cu = i + 1 then some ad else some (ad.add ((i + 1) * 3))) (us.length - (i + 1)) (cu - (i + 1)) (fun k => gb < k) (fun _ => False) rfl rfl hrb (hCd _ hDb) (HKM.out _) (fun _ h => h.elim) (fun k hk => by omega) hDb.dp.below hDb.dp.below.size (by simp; omega) ?_)
    intro v Wc hrc _ hgc _
    rw [hus2] at hrc
    (try simp only [Act.put, List.getElem_toArray, List.getElem_cons_succ, List.getElem_cons_zero, List.setIfInBounds_toArray, List.set_cons_zero, List.set_cons_succ])
    have hDc := hDb.grown hgc (fun k e => hrb.1 k e)
    refine ⟨.inr hDc, ?_⟩
    refine wpAnyT_one (i := 12) rfl rfl (by decide +kernel) ?_
    unfold Oper.wp
    go_simp
    (try simp only [Act.put, List.getElem_toArray, List.getElem_cons_succ, List.getElem_cons_zero, List.setIfInBounds_toArray, List.set_cons_zero, List.set_cons_succ])
    refine wpAnyT_one (i := 13) rfl rfl (by decide +kernel) ?_
    obtain ⟨Av, cv, rfl⟩ := Kd.R_slice hrc
    have z0 := (blk_cell hDc.hb 0).trans (show _ = some _ from rfl)
    have f0 := blk_frozen hDc.hb 0
    unfold Oper.wp
    go_simp
    refine wpAnyT_done (by decide +kernel) ?_ _
    exact ⟨rfl, _, _, _, _, rfl, Kd.R_far hrc (fun k hk => by show k ≠ gb; omega) _, hDc.set0 _⟩
  case post =>
    rintro e a' W7 ⟨rfl, g0, u46, u51, v, rfl, hrv, hD7⟩
    obtain ⟨Av, cv, rfl⟩ := Kd.R_slice hrv
    obtain ⟨c1', c2', c3', c4', c5', c6', c7'⟩ := chk_drop HASK.out (by omega) HA1.out hi2
    rw [hus2] at c1' c2' c3'
    have hlen2 : us2.length ≤ 768 := by rw [← hus2]; simp; omega
    obtain ⟨f2, hf2⟩ : ∃ f, us[i].f2 = f := ⟨_, rfl⟩
    rw [hf2] at c2' c3' c4' c5'
    obtain ⟨K1, hK1⟩ := ev_missL s0 i1 pu i3 i4 i5 q us2 (by omega)
    have hM := hK1 K1 (Nat.le_refl _)
    rw [c2'] at hM
    obtain ⟨K2, hK2⟩ := ev_chk s0 i1 pu i3 i4 i5 q l us2 (m + f2) c (by omega)
    have hK := hK2 K2 (Nat.le_refl _)
    rw [c3'] at hK
    have HMI := Aside0.mk hM
    have HCK := Aside0.mk hK
    have HAL := Aside0.mk (show proof_Allowed.f s0 i1 pu i3 i4 i5 q l us2 = some 0 by unfold proof_Allowed.f; rw [c1'])
    have HRV := Aside0.mk hrv
    have HD7 := Aside0.mk hD7
    have HF2 := Aside0.mk hf2
    have HUS2 := Aside0.mk hus2
    have hcv := (Kd.R_reads' hrv).2.1
    have l0 := blk_lt hD7.dp.hp
    have la := blk_lt hD7.ha
    have lb := blk_lt hD7.hb
    have p0 := (blk_cell hD7.dp.hp 0).trans (show _ = some _ from rfl)
    have p1 := (blk_cell hD7.dp.hp 1).trans (show _ = some _ from rfl)
    have p2 := (blk_cell hD7.dp.hp 2).trans (show _ = some _ from rfl)
    have p3 := (blk_cell hD7.dp.hp 3).trans (show _ = some _ from rfl)
    have p4 := (blk_cell hD7.dp.hp 4).trans (show _ = some _ from rfl)
    have p5 := (blk_cell hD7.dp.hp 5).trans (show _ = some _ from rfl)
    have p6 := (blk_cell hD7.dp.hp 6).trans (show _ = some _ from rfl)
    have b0 := (blk_cell hD7.hb 0).trans (show _ = some _ from rfl)
    have b1 := (blk_cell hD7.hb 1).trans (show _ = some _ from rfl)
    have b2 := (blk_cell hD7.hb 2).trans (show _ = some _ from rfl)
    clear hrv hD7 hM hK hK1 hK2 c1' c2' c3' hus2
    go_wp2_with fail
    refine (proof_Missing.calls K1 s0 i1 pu i3 i4 i5 Aq cq q Av cv us2 (m + f2) 0 W7 (Kd.C_below HQ.out HD7.out.dp.below) hcq (Kd.R_reads' HRV.out).2.2 hcv HMI.out).mono ?_
    rintro e W8 ⟨rfl, hb8⟩
    have hD8 := HD7.out.after hb8
    have hrv8 := Kd.R_below HRV.out hb8
    have HD8 := Aside0.mk hD8
    have HRV8 := Aside0.mk hrv8
    clear HD7 HRV p0 p1 p2 p3 p4 p5 p6 b0 b1 b2 l0 la lb hb8
    have p0 := (blk_cell hD8.dp.hp 0).trans (show _ = some _ from rfl)
    have p1 := (blk_cell hD8.dp.hp 1).trans (show _ = some _ from rfl)
    have p2 := (blk_cell hD8.dp.hp 2).trans (show _ = some _ from rfl)
    have p3 := (blk_cell hD8.dp.hp 3).trans (show _ = some _ from rfl)
    have p4 := (blk_cell hD8.dp.hp 4).trans (show _ = some _ from rfl)
    have p5 := (blk_cell hD8.dp.hp 5).trans (show _ = some _ from rfl)
    have p6 := (blk_cell hD8.dp.hp 6).trans (show _ = some _ from rfl)
    have b0 := (blk_cell hD8.hb 0).trans (show _ = some _ from rfl)
    have b1 := (blk_cell hD8.hb 1).trans (show _ = some _ from rfl)
    have b2 := (blk_cell hD8.hb 2).trans (show _ = some _ from rfl)
    have a0 := (blk_cell hD8.ha 0).trans (show _ = some _ from rfl)
    have a1 := (blk_cell hD8.ha 1).trans (show _ = some _ from rfl)
    have a2 := (blk_cell hD8.ha 2).trans (show _ = some _ from rfl)
    obtain ⟨adu, eu, u0, u1, u2⟩ := at_T57 (Kd.R_reads' hD8.ru).2.2 (i : Int) (by omega) (by omega)
    cases eu
    have hru : (rd_T57 us (i : Int)).f2 = f2 := by rw [← HF2.out]; simp [rd_T57, List.getD, hi2]
    rw [hru, Int.toNat_natCast] at u2
    have l0 := blk_lt hD8.dp.hp
    have la := blk_lt hD8.ha
    have lb := blk_lt hD8.hb
    have hmf : wrap64 (m + f2) = m + f2 := by unfold wrap64; omega
    have hmf2 : IntKind.i64.wrap (m + f2) = m + f2 := IntWalk.i64_in _ (by omega)
    have q0 : (0 : Int) ≤ (i : Int) := by omega
    have q1 : ((i : Int) < (us.length : Int)) := by omega
    clear hD8 hrv8 u0 u1 hru
    have HU2 := Aside0.mk (show ∀ W : World, DS w #[.string s0, .int .i64 i1, .int .i64 pu, .int .i64 i3, .int .i64 i4, .int .i64 i5, .slice Aq q.length cq] ga gb (.slice (some ad) us.length cu) (.slice Ac c.length cc) (.slice Av us2.length cv) m m us c W → W.cell? ⟨(ad.add (i * 3)).block, (ad.add (i * 3)).off + 2, none⟩ = some (.int .i64 f2) from fun W hS => by
      obtain ⟨adu, eu, u0, u1, u2⟩ := at_T57 (Kd.R_reads' hS.ru).2.2 (i : Int) (by omega) (by omega)
      cases eu
      have hru : (rd_T57 us (i : Int)).f2 = f2 := by rw [← HF2.out]; simp [rd_T57, List.getD, hi2]
      rw [hru, Int.toNat_natCast] at u2
      exact u2)
    go_upto_region 12 with fail
    have HSD8 := Aside0.mk (HD8.out.after (below_drew (Below.refl W8.heap.size W8)))
    have HRD8 := Aside0.mk (Kd.R_drew HRV8.out)
    clear p0 p1 p2 p3 p4 p5 p6 b0 b1 b2 a0 a1 a2 u2 l0 la lb HRV8 HD8
    refine wp_region_noPanic ?_
    refine wp_region_held (S := fun w' => DS w #[.string s0, .int .i64 i1, .int .i64 pu, .int .i64 i3, .int .i64 i4, .int .i64 i5, .slice Aq q.length cq] ga gb (.slice (some ad) us.length cu) (.slice Ac c.length cc) (.slice Av us2.length cv) m m us c w') (by kernel_rfl) ?_
    show wpAnyH _ _ _ _ _ _ _ _ W8.drew
    obtain ⟨W, hW⟩ : ∃ X, W8.drew = X := ⟨_, rfl⟩
    rw [hW] at HSD8 HRD8 ⊢
    clear hW
    refine wpAnyH_take (i := 0) (v := .agg #[.string s0, .int .i64 i1, .int .i64 pu, .int .i64 i3, .int .i64 i4, .int .i64 i5, .slice Aq q.length cq]) rfl (by decide +kernel) (by decide +kernel) (by decide +kernel) (fun _ _ _ h => h) (.inl ⟨rfl, fun w' hS' => ?_⟩) HSD8.out ?_
    · have hS := hS'
      have z0 := (blk_cell hS.dp.hp 0).trans (show _ = some _ from rfl)
      have z1 := (blk_cell hS.dp.hp 1).trans (show _ = some _ from rfl)
      have z2 := (blk_cell hS.dp.hp 2).trans (show _ = some _ from rfl)
      have z3 := (blk_cell hS.dp.hp 3).trans (show _ = some _ from rfl)
      have z4 := (blk_cell hS.dp.hp 4).trans (show _ = some _ from rfl)
      have z5 := (blk_cell hS.dp.hp 5).trans (show _ = some _ from rfl)
      have z6 := (blk_cell hS.dp.hp 6).trans (show _ = some _ from rfl)
      go_simp; done
    (try simp only [Act.put, List.getElem_toArray, List.getElem_cons_succ, List.getElem_cons_zero, List.setIfInBounds_toArray, List.set_cons_zero, List.set_cons_succ])
    refine wpAnyH_take (i := 1) (v := .slice A1 l.length c1) rfl (by decide +kernel) (by decide +kernel) (by decide +kernel) (fun _ _ _ h => h) (.inl ⟨rfl, fun w' hS' => ?_⟩) HSD8.out ?_
    · go_simp; done
    (try simp only [Act.put, List.getElem_toArray, List.getElem_cons_succ, List.getElem_cons_zero, List.setIfInBounds_toArray, List.set_cons_zero, List.set_cons_succ])
    refine wpAnyH_take (i := 2) (v := .pointer (some ⟨gb, 0, none⟩)) rfl (by decide +kernel) (by decide +kernel) (by decide +kernel) (fun _ _ _ h => h) (.inl ⟨rfl, fun w' hS' => ?_⟩) HSD8.out ?_
    · go_simp; done
    (try simp only [Act.put, List.getElem_toArray, List.getElem_cons_succ, List.getElem_cons_zero, List.setIfInBounds_toArray, List.set_cons_zero, List.set_cons_succ])
    refine wpAnyH_take (i := 3) (v := (.slice Av us2.length cv)) rfl (by decide +kernel) (by decide +kernel) (by decide +kernel) (fun _ _ _ h => h) (.inl ⟨rfl, fun w' hS' => ?_⟩) HSD8.out ?_
    · have z0 := (blk_cell hS'.hb 0).trans (show _ = some _ from rfl)
      go_simp; done
    (try simp only [Act.put, List.getElem_toArray, List.getElem_cons_succ, List.getElem_cons_zero, List.setIfInBounds_toArray, List.set_cons_zero, List.set_cons_succ])
    refine wpAnyH_all (rs := [4]) (by decide +kernel) (by decide) (fun j hj => ?_)
    obtain rfl := List.mem_singleton.1 hj
    refine wpOp_of rfl rfl ?_
    unfold Oper.wp
    go_simp
    refine (proof_Allowed.calls s0 i1 pu i3 i4 i5 Aq cq q A1 c1 l Av cv us2 0 _ (Kd.C_below HQ.out HSD8.out.dp.below) hcq (Kd.C_below HL.out HSD8.out.dp.below) hcl (Kd.R_reads' HRD8.out).2.2 hcv HAL.out).mono ?_
    rintro e W9 ⟨rfl, hb9⟩
    have HSD9 := Aside0.mk (HSD8.out.after hb9)
    have HRD9 := Aside0.mk (Kd.R_below HRD8.out hb9)
    clear HSD8 HRD8 hb9
    refine ⟨HSD9.out, ?_⟩
    (try simp only [Act.put, List.getElem_toArray, List.getElem_cons_succ, List.getElem_cons_zero, List.setIfInBounds_toArray, List.set_cons_zero, List.set_cons_succ])
    refine wpAnyH_take (i := 5) (v := .bool false) rfl (by decide +kernel) (by decide +kernel) (by decide +kernel) (fun _ _ _ h => h) (.inl ⟨rfl, fun w' hS' => ?_⟩) HSD9.out ?_
    · go_simp; done
    (try simp only [Act.put, List.getElem_toArray, List.getElem_cons_succ, List.getElem_cons_zero, List.setIfInBounds_toArray, List.set_cons_zero, List.set_cons_succ])
    refine wpAnyH_take (i := 6) (v := .bool false) rfl (by decide +kernel) (by decide +kernel) (by decide +kernel) (fun _ _ _ h => h) (.inl ⟨rfl, fun w' hS' => ?_⟩) HSD9.out ?_
    · go_simp; done
    (try simp only [Act.put, List.getElem_toArray, List.getElem_cons_succ, List.getElem_cons_zero, List.setIfInBounds_toArray, List.set_cons_zero, List.set_cons_succ])
    refine wpAnyH_take (i := 7) (v := .int .i64 0) rfl (by decide +kernel) (by decide +kernel) (by decide +kernel) (fun _ _ _ h => h) (.inl ⟨?gd, fun w' hS' => ?_⟩) HSD9.out ?_
    case gd => go_simp
    · go_simp; done
    (try simp only [Act.put, List.getElem_toArray, List.getElem_cons_succ, List.getElem_cons_zero, List.setIfInBounds_toArray, List.set_cons_zero, List.set_cons_succ])
    refine wpAnyH_take (i := 8) (v := .bool false) rfl (by decide +kernel) (by decide +kernel) (by decide +kernel) (fun _ _ _ h => h) (.inl ⟨?gd, fun w' hS' => ?_⟩) HSD9.out ?_
    case gd => go_simp
    · go_simp; done
    (try simp only [Act.put, List.getElem_toArray, List.getElem_cons_succ, List.getElem_cons_zero, List.setIfInBounds_toArray, List.set_cons_zero, List.set_cons_succ])
    refine wpAnyH_take (i := 9) (v := .bool false) rfl (by decide +kernel) (by decide +kernel) (by decide +kernel) (fun _ _ _ h => h) (.inl ⟨rfl, fun w' hS' => ?_⟩) HSD9.out ?_
    · go_simp; done
    (try simp only [Act.put, List.getElem_toArray, List.getElem_cons_succ, List.getElem_cons_zero, List.setIfInBounds_toArray, List.set_cons_zero, List.set_cons_succ])
    refine wpAnyH_take (i := 10) (v := .bool false) rfl (by decide +kernel) (by decide +kernel) (by decide +kernel) (fun _ _ _ h => h) (.inl ⟨rfl, fun w' hS' => ?_⟩) HSD9.out ?_
    · go_simp; done
    (try simp only [Act.put, List.getElem_toArray, List.getElem_cons_succ, List.getElem_cons_zero, List.setIfInBounds_toArray, List.set_cons_zero, List.set_cons_succ])
    refine wpAnyH_take (i := 11) (v := .int .i64 (m + f2)) rfl (by decide +kernel) (by decide +kernel) (by decide +kernel) (fun _ _ _ h => h) (.inl ⟨?gd, fun w' hS' => ?_⟩) HSD9.out ?_
    case gd => go_simp
    · go_simp; done
    (try simp only [Act.put, List.getElem_toArray, List.getElem_cons_succ, List.getElem_cons_zero, List.setIfInBounds_toArray, List.set_cons_zero, List.set_cons_succ])
    refine wpAnyH_take (i := 12) (v := .pointer (some ⟨ga, 1, none⟩)) rfl (by decide +kernel) (by decide +kernel) (by decide +kernel) (fun _ _ _ h => h) (.inl ⟨?gd, fun w' hS' => ?_⟩) HSD9.out ?_
    case gd => go_simp
    · go_simp; done
    (try simp only [Act.put, List.getElem_toArray, List.getElem_cons_succ, List.getElem_cons_zero, List.setIfInBounds_toArray, List.set_cons_zero, List.set_cons_succ])
    refine wpAnyH_take (i := 13) (v := .int .i64 m) rfl (by decide +kernel) (by decide +kernel) (by decide +kernel) (fun _ _ _ h => h) (.inl ⟨?gd, fun w' hS' => ?_⟩) HSD9.out ?_
    case gd => go_simp
    · have z0 := (blk_cell hS'.ha 0).trans (show _ = some _ from rfl)
      have z1 := (blk_cell hS'.ha 1).trans (show _ = some _ from rfl)
      go_simp; done
    (try simp only [Act.put, List.getElem_toArray, List.getElem_cons_succ, List.getElem_cons_zero, List.setIfInBounds_toArray, List.set_cons_zero, List.set_cons_succ])
    refine wpAnyH_take (i := 14) (v := .pointer (some ⟨ga, 0, none⟩)) rfl (by decide +kernel) (by decide +kernel) (by decide +kernel) (fun _ _ _ h => h) (.inl ⟨?gd, fun w' hS' => ?_⟩) HSD9.out ?_
    case gd => go_simp
    · go_simp; done
    (try simp only [Act.put, List.getElem_toArray, List.getElem_cons_succ, List.getElem_cons_zero, List.setIfInBounds_toArray, List.set_cons_zero, List.set_cons_succ])
    refine wpAnyH_take (i := 15) (v := (.slice (some ad) us.length cu)) rfl (by decide +kernel) (by decide +kernel) (by decide +kernel) (fun _ _ _ h => h) (.inl ⟨?gd, fun w' hS' => ?_⟩) HSD9.out ?_
    case gd => go_simp
    · have z0 := (blk_cell hS'.ha 0).trans (show _ = some _ from rfl)
      have z1 := (blk_cell hS'.ha 1).trans (show _ = some _ from rfl)
      go_simp; done
    (try simp only [Act.put, List.getElem_toArray, List.getElem_cons_succ, List.getElem_cons_zero, List.setIfInBounds_toArray, List.set_cons_zero, List.set_cons_succ])
    refine wpAnyH_take (i := 16) (v := .int .i64 (i : Int)) rfl (by decide +kernel) (by decide +kernel) (by decide +kernel) (fun _ _ _ h => h) (.inl ⟨?gd, fun w' hS' => ?_⟩) HSD9.out ?_
    case gd => go_simp
    · go_simp; done
    (try simp only [Act.put, List.getElem_toArray, List.getElem_cons_succ, List.getElem_cons_zero, List.setIfInBounds_toArray, List.set_cons_zero, List.set_cons_succ])
    refine wpAnyH_take (i := 17) (v := .pointer (some (ad.add (i * 3)))) rfl (by decide +kernel) (by decide +kernel) (by decide +kernel) (fun _ _ _ h => h) (.inl ⟨?gd, fun w' hS' => ?_⟩) HSD9.out ?_
    case gd => go_simp
    · go_simp; done
    (try simp only [Act.put, List.getElem_toArray, List.getElem_cons_succ, List.getElem_cons_zero, List.setIfInBounds_toArray, List.set_cons_zero, List.set_cons_succ])
    refine wpAnyH_take (i := 18) (v := .pointer (some ⟨(ad.add (i * 3)).block, (ad.add (i * 3)).off + 2, none⟩)) rfl (by decide +kernel) (by decide +kernel) (by decide +kernel) (fun _ _ _ h => h) (.inl ⟨?gd, fun w' hS' => ?_⟩) HSD9.out ?_
    case gd => go_simp
    · go_simp; done
    (try simp only [Act.put, List.getElem_toArray, List.getElem_cons_succ, List.getElem_cons_zero, List.setIfInBounds_toArray, List.set_cons_zero, List.set_cons_succ])
    refine wpAnyH_take (i := 19) (v := .int .i64 f2) rfl (by decide +kernel) (by decide +kernel) (by decide +kernel) (fun _ _ _ h => h) (.inl ⟨?gd, fun w' hS' => ?_⟩) HSD9.out ?_
    case gd => go_simp
    · have u2 := HU2.out w' hS'
      go_simp; done
    (try simp only [Act.put, List.getElem_toArray, List.getElem_cons_succ, List.getElem_cons_zero, List.setIfInBounds_toArray, List.set_cons_zero, List.set_cons_succ])
    refine wpAnyH_take (i := 20) (v := .int .i64 (m + f2)) rfl (by decide +kernel) (by decide +kernel) (by decide +kernel) (fun _ _ _ h => h) (.inl ⟨?gd, fun w' hS' => ?_⟩) HSD9.out ?_
    case gd => go_simp
    · go_simp; done
    (try simp only [Act.put, List.getElem_toArray, List.getElem_cons_succ, List.getElem_cons_zero, List.setIfInBounds_toArray, List.set_cons_zero, List.set_cons_succ])
    refine wpAnyH_take (i := 21) (v := .bool false) rfl (by decide +kernel) (by decide +kernel) (by decide +kernel) (fun _ _ _ h => h) (.inl ⟨?gd, fun w' hS' => ?_⟩) HSD9.out ?_
    case gd => go_simp
    · go_simp; done
    (try simp only [Act.put, List.getElem_toArray, List.getElem_cons_succ, List.getElem_cons_zero, List.setIfInBounds_toArray, List.set_cons_zero, List.set_cons_succ])
    refine wpAnyH_take (i := 22) (v := .bool false) rfl (by decide +kernel) (by decide +kernel) (by decide +kernel) (fun _ _ _ h => h) (.inl ⟨rfl, fun w' hS' => ?_⟩) HSD9.out ?_
    · go_simp; done
    (try simp only [Act.put, List.getElem_toArray, List.getElem_cons_succ, List.getElem_cons_zero, List.setIfInBounds_toArray, List.set_cons_zero, List.set_cons_succ])
    refine wpAnyH_done (by decide +kernel) ?_ _
    refine NoPanic.normal ?_
    have hD9 := HSD9.out
    have l0 := blk_lt hD9.dp.hp
    have lb := blk_lt hD9.hb
    have n1 : w.heap.size ≠ gb := by have := hD9.l1; have := hD9.l2; omega
    have p0 := (blk_cell hD9.dp.hp 0).trans (show _ = some _ from rfl)
    have p1 := (blk_cell hD9.dp.hp 1).trans (show _ = some _ from rfl)
    have p2 := (blk_cell hD9.dp.hp 2).trans (show _ = some _ from rfl)
    have p3 := (blk_cell hD9.dp.hp 3).trans (show _ = some _ from rfl)
    have p4 := (blk_cell hD9.dp.hp 4).trans (show _ = some _ from rfl)
    have p5 := (blk_cell hD9.dp.hp 5).trans (show _ = some _ from rfl)
    have p6 := (blk_cell hD9.dp.hp 6).trans (show _ = some _ from rfl)
    have b0 := (blk_cell hD9.hb 0).trans (show _ = some _ from rfl)
    have b1 := (blk_cell hD9.hb 1).trans (show _ = some _ from rfl)
    have b2 := (blk_cell hD9.hb 2).trans (show _ = some _ from rfl)
    have fb1 := blk_frozen hD9.hb 1
    clear hD9
    go_wp2_with fail
    have hD10 := HSD9.out.set1 (m + f2)
    have hr10 := Kd.R_far (p := ⟨gb, 1, none⟩) HRD9.out (fun k hk => by show k ≠ gb; omega) (.int .i64 (m + f2))
    refine (proof_Check.calls K2 s0 i1 pu i3 i4 i5 Aq cq q A1 c1 l Av cv us2 (m + f2) Ac cc c 200 _ (Kd.C_below HQ.out hD10.dp.below) hcq (Kd.C_below HL.out hD10.dp.below) hcl (Kd.R_reads' hr10).2.2 hcv (Kd.R_reads' hD10.rc).2.2 (Kd.R_reads' hD10.rc).2.1 HCK.out).mono ?_
    rintro e W11 ⟨rfl, hb11⟩
    have hfin := below_step hD10.dp.below hb11
    go_wp2_with fail
    go_ret
    exact ⟨rfl, hfin⟩
end Go.Proofs.Ytadeidhefjifaaa.Px
end
