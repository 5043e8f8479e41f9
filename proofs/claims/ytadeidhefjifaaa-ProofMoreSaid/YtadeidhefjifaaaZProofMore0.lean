/- Parts of the proof of ProofMore, put together from several texts: the declarations that this law needs beside those of ProofAccepts. -/
import Derived.Test.YtadeidhefjifaaaZProofAccepts8
import Derived.ArgAppend
import Derived.Below
import Derived.BigQuiet
import Derived.ChangeSame
import Derived.Deep.AppendLies
import Derived.Deep.CutBlock
import Derived.Deep.DeepCutAuto
import Derived.Deep.Draws
import Derived.Deep.Fields
import Derived.Deep.Grids
import Derived.Deep.LoopGhost
import Derived.Deep.OwnRows
import Derived.Deep.QuietTactic
import Derived.Deep.RegionHeld3
import Derived.Deep.Slices
import Derived.KernelRfl
import Derived.Laws.BitsLemmas
import Derived.Laws.BytesArg
import Derived.Laws.IdiomCopy
import Derived.Laws.MakeOwn
import Derived.Laws.OwnMore
import Derived.Laws.Rows
import Derived.Laws.Slices
import Derived.Lib.AppendStr
import Derived.Lib.ConvBytes
import Derived.Maps.AppendAt
import Derived.OrdersHeld
import Derived.OwnWalk
import Derived.RowKit
import Derived.RowKit3
import Derived.Tactics
import Derived.Test.YtadeidhefjifaaaProg
import Derived.WalkKit
import Derived.WideLaws
section
set_option linter.unusedVariables false
set_option linter.unusedSimpArgs false
namespace Go.Proofs.YtadeidhefjifaaaW.PrintWords
open Go.RowKit
section
variable {P : Program} {ops : Array Oper} {rest : List Oper} {o : Oper} {a : Act} {Q : Exit → Act → World → Prop}
end
section
variable {P : Program}
end
section
variable {P : Program} {ops : Array Oper} {rest : List Oper} {o : Oper} {a : Act} {Q : Exit → Act → World → Prop}
end
section
variable {P : Program} {ops : Array Oper} {rest : List Oper} {o : Oper} {a : Act} {Q : Exit → Act → World → Prop}
end
section
variable {P : Program} {ops : Array Oper} {o : Oper} {a : Act} {Q : Exit → Act → World → Prop} {K : Act → World → Prop}
end
section
variable {α : Type} {enc : α → Value} {d : α}
end
section
variable {α : Type} {P : Program} {ops : Array Oper} {rest : List Oper} {o : Oper} {a : Act} {Q : Exit → Act → World → Prop}
end
section
variable {P : Program}
end
section
variable {α : Type} {R R' : α → List Value → Prop} {e : TypeId} {size : Nat} {w w1 : World} {base : Nat} {v : Value} {ps : List α}
end
section
variable {P : Program} {ops : Array Oper} {rest : List Oper} {o : Oper} {a : Act} {Q : Exit → Act → World → Prop} {α : Type} {R : α → List Value → Prop}
end
section
variable {P : Program} {ops : Array Oper} {o : Oper} {a : Act} {Q : Exit → Act → World → Prop} {K : Act → World → Prop} {α : Type} {R : α → List Value → Prop}
end
/-- What is read as_ a row has its cells one behind the other. -/
theorem ReadsRow.inner_ {α : Type} {R : α → List Value → Prop} {size : Nat} {w : World} {ad : Addr} {n : Nat} {ps : List α} (h : ReadsRow R size w (some ad) n ps) :
    ∃ inner, Reps R size ps inner ∧ ∀ j u, inner[j]? = some u → w.cell? (ad.add j) = some u := by
  have key : ∀ m, m ≤ ps.length → ∃ inner, Reps R size (ps.take m) inner ∧ ∀ j u, inner[j]? = some u → w.cell? (ad.add j) = some u := by
    intro m
    induction m with
    | zero => exact fun _ => ⟨[], Reps.none _ _, fun j u hu => by simp at hu⟩
    | succ m ih =>
      intro hm
      obtain ⟨inner, hr, hc⟩ := ih (by omega)
      obtain ⟨ad', he, hcell⟩ := h.2.2 (by have := h.1; omega)
      injection he with he
      subst he
      obtain ⟨c, hcl, hp, hcc⟩ := hcell m _ (List.getElem?_eq_getElem (show m < ps.length by omega))
      refine ⟨inner ++ c, ?_, fun j u hu => ?_⟩
      · rw [List.take_succ_eq_append_getElem (show m < ps.length by omega)]
        exact hr.snoc hp hcl
      · have hil : inner.length = m * size := by rw [hr.1, List.length_take, Nat.min_eq_left (by omega)]
        rcases Nat.lt_or_ge j inner.length with hj | hj
        · rw [List.getElem?_append_left hj] at hu
          exact hc j u hu
        · rw [List.getElem?_append_right hj] at hu
          have := hcc (j - inner.length) u hu
          rwa [hil, Nat.add_sub_cancel' (by omega)] at this
  obtain ⟨inner, hr, hc⟩ := key ps.length (Nat.le_refl _)
  rw [List.take_length] at hr
  exact ⟨inner, hr, hc⟩
section
variable {α : Type} {P : Program}
end
section
variable {P : Program} {ops : Array Oper} {rest : List Oper} {o : Oper} {a : Act} {Q : Exit → Act → World → Prop}
end
namespace Kd
section
variable {α : Type} {d : Kd α} {e : Nat} {w w1 : World} {base : Nat} {ok ok' : Nat → Prop} {v : Value} {xs : List α}
end
section
variable {P : Program} {ops : Array Oper} {rest : List Oper} {o : Oper} {a : Act} {Q : Exit → Act → World → Prop} {α : Type}
end
section
variable {P : Program} {ops : Array Oper} {o : Oper} {a : Act} {Q : Exit → Act → World → Prop} {Kc : Act → World → Prop} {α : Type}
end
end Kd
namespace Kd
section
variable {α : Type} {F : Kd α → Kd α} {sz : Nat} {E : List Nat} {hs : ∀ n, (upto F sz E n).sz = sz} {hE : ∀ n q, q ∈ (upto F sz E n).E → q ∈ E}
end
end Kd
namespace Kd
end Kd
namespace Kd
section
variable {α β : Type} {d : Kd α} {d' : Kd β} {e e' : Nat} {w w1 W : World} {base b b' : Nat} {ok ok' okv oku : Nat → Prop} {v u : Value} {xs : List α} {ys : List β}
end
section
variable {w W : World} {A : Option Addr} {n : Nat}
variable {α : Type} {enc : α → Value} {h1 : ∀ x, (enc x).oneCell' = true} {e base g cap : Nat} {ok : Nat → Prop} {xs : List α}
end
section
variable {P : Program} {ops : Array Oper} {rest : List Oper} {o : Oper} {a : Act} {Q : Exit → Act → World → Prop}
variable {α : Type}
end
end Kd
section
variable {P : Program}
end
section
variable {w w1 : World} {base n size : Nat} {e : TypeId} {v : Value} {xs : List Value}
end
section
variable {P : Program}
end
namespace Kd
section
variable {α : Type} {d : Kd α} {e : Nat} {w w1 W : World} {base : Nat} {ok ok' : Nat → Prop} {v : Value} {xs : List α}
end
section
variable {P : Program} {ops : Array Oper} {rest : List Oper} {o : Oper} {a : Act} {Q' : Exit → Act → World → Prop} {Kc : Act → World → Prop} {α : Type}
end
end Kd
namespace Kd
section
variable {α : Type} {d : Kd α} {e e' : Nat} {w w1 W : World} {base : Nat} {ok : Nat → Prop} {u v : Value} {xs : List α}
end
end Kd
namespace Kd
section
variable {α : Type} {d : Kd α} {e base g n cap : Nat} {ok okp : Nat → Prop} {W : World} {xs : List α}
end
end Kd
namespace Kd
section
variable {α : Type} {F : Kd α → Kd α} {sz : Nat} {E : List Nat} {hs : ∀ n, (upto F sz E n).sz = sz} {hE : ∀ n q, q ∈ (upto F sz E n).E → q ∈ E}
end
end Kd
namespace Kd
theorem reps_append {α : Type} {R : α → List Value → Prop} {size : Nat} {ps qs : List α} {cs ds : List Value} (h : Reps R size ps cs) (h' : Reps R size qs ds) : Reps R size (ps ++ qs) (cs ++ ds) := by
  refine ⟨by rw [List.length_append, List.length_append, h.1, h'.1, Nat.add_mul], fun j p hj => ?_⟩
  rcases Nat.lt_or_ge j ps.length with hlt | hge
  · rw [List.getElem?_append_left hlt] at hj
    have hle : j * size + size ≤ cs.length := by rw [h.1, ← Nat.succ_mul]; exact Nat.mul_le_mul_right _ hlt
    rw [List.drop_append_of_le_length (by omega), List.take_append_of_le_length (by rw [List.length_drop]; omega)]
    exact h.2 j p hj
  · rw [List.getElem?_append_right hge] at hj
    have h2 := h'.2 (j - ps.length) p hj
    have hle : ps.length * size ≤ j * size := Nat.mul_le_mul_right _ hge
    rw [List.drop_append, List.drop_eq_nil_of_le (by rw [h.1]; exact hle), List.nil_append, h.1, ← Nat.sub_mul]
    exact h2
section
variable {P : Program} {ops : Array Oper} {rest : List Oper} {o : Oper} {a : Act} {Q : Exit → Act → World → Prop} {α : Type}
end
end Kd
namespace Kd
section
variable {P : Program} {ops : Array Oper} {rest : List Oper} {o : Oper} {a : Act} {Q : Exit → Act → World → Prop} {α : Type}
end
end Kd
namespace Kd
section
variable {α : Type} {k : Kd α} {w : World} {A : Option Addr} {xs : List α} {m c : Nat}
end
end Kd
section
variable {P : Program}
end
namespace Kd
section
variable {α β : Type} {d : Kd α} {d' : Kd β} {e e' base base' n : Nat} {ok ok' : Nat → Prop} {w W w1 W1 : World} {v u : Value} {xs : List α} {ys : List β} {A : Option Addr} {c : Nat}
end
section
variable {α : Type} {enc : α → Value} {h1 : ∀ x, (enc x).oneCell' = true} {w W : World} {A : Option Addr} {n g : Nat} {xs : List α}
end
end Kd
namespace Kd
section
variable {α : Type} {d : Kd α} {e base g : Nat} {ok : Nat → Prop} {w w1 : World} {v : Value} {xs : List α} {o : Obj}
end
end Kd
section
variable {P : Program} {ops : Array Oper} {rest : List Oper} {o : Oper} {a : Act} {Q : Exit → Act → World → Prop}
end
namespace Kd
section
variable {α : Type} {enc : α → Value} {h1 : ∀ x, (enc x).oneCell' = true} {e base g n cap : Nat} {ok : Nat → Prop} {W : World} {xs : List α}
end
end Kd
section
variable {P : Program} {ops : Array Oper} {rest : List Oper} {o : Oper} {a : Act} {Q : Exit → Act → World → Prop}
end
namespace Kd
section
variable {α : Type} {enc : α → Value} {h1 : ∀ x, (enc x).oneCell' = true} {e base g n cap : Nat} {ok : Nat → Prop} {W : World} {xs : List α}
end
end Kd
section
variable {P : Program} {ops : Array Oper} {rest : List Oper} {o : Oper} {a : Act} {Q : Exit → Act → World → Prop} {W : World}
end
section
variable {P : Program} {ops : Array Oper} {o : Oper} {a : Act} {Q : Exit → Act → World → Prop} {Kc : Act → World → Prop}
namespace Kd
variable {α : Type}
theorem R_append_rows_step (d : Kd α) {Rr : α → List Value → Prop} {w0 W : World} (base : Nat) (hw : Region.wanted o (yielded ops a.tmps) = true) (s x : Operand) (t e : TypeId) (z : Value) (bytes : Nat)
    (ho : o.op = .call { callee := .builtin .append, args := #[s, x], argTypes := #[t, t] })
    (ht : P.underlying t = some (.slice e)) (hinfo : (P.info? e).map (fun i => (i.zero, i.size, i.bytes)) = some (some z, d.sz, bytes)) (hz : z.cells.size = d.sz) (hs0 : 0 < d.sz) (hb0 : 0 < bytes)
    (v : Value) (xs ys : List α) (A : Option Addr) (m c : Nat) (ok okp : Nat → Prop) (hs : a.eval s = v) (hx : a.eval x = .slice A m c)
    (HO : d.R e W base ok v xs) (HR : ReadsRow Rr d.sz W A m ys) (hKM : ∀ x cs, Rr x cs → d.M W base okp x cs) (hokp : ∀ k, okp k → ok k ∧ some k ≠ v.ownBlock) (hfresh : ∀ k, W.heap.size ≤ k → ok k)
    (HB : Below base w0 W) (hbase : base ≤ W.heap.size) (hl : (xs.length + m) * bytes ≤ 140737488355328)
    (h : ∀ v1 w1, d.R e w1 base ok v1 (xs ++ ys) → Below base w0 w1 → W.grownBy w1 v.ownBlock → (v1.ownBlock = v.ownBlock ∨ ∃ b, v1.ownBlock = some b ∧ W.heap.size ≤ b) → Kc (a.put o.dst v1) w1) :
    if Region.wanted o (yielded ops a.tmps) = true then Oper.wp P o a W Kc Q else Kc (a.put o.dst undef) W := by
  obtain ⟨i0, hi, hzz⟩ := Option.map_eq_some_iff.1 hinfo
  simp only [Prod.mk.injEq] at hzz
  obtain ⟨hz0, hz1, hz2⟩ := hzz
  have hm : ys.length = m := HR.1
  have hlen : xs.length + m ≤ 140737488355328 := Nat.le_trans (Nat.le_mul_of_pos_right _ hb0) hl
  obtain ⟨hok, inner, hown, hr⟩ := HO
  have hrun : ∃ v1 w1, (Builtin.append_ #[t, t] o.type #[v, .slice A m c]).run P W = .ok v1 w1 ∧ d.R e w1 base ok v1 (xs ++ ys) ∧ W.grownBy w1 v.ownBlock ∧ (v1.ownBlock = v.ownBlock ∨ ∃ b, v1.ownBlock = some b ∧ W.heap.size ≤ b) := by
    rcases A with _ | ad
    · have h0 : m = 0 := by
        rcases Nat.eq_zero_or_pos m with h0 | h0
        · exact h0
        · obtain ⟨ad, h, _⟩ := HR.2.2 h0
          cases h
      subst h0
      obtain rfl : ys = [] := List.eq_nil_of_length_eq_zero hm
      refine ⟨v, W, ?_, by rw [List.append_nil]; exact ⟨hok, inner, hown, hr⟩, World.grownBy.refl W _, .inl rfl⟩
      rcases hown.2 with ⟨rfl, hn⟩ | ⟨g, cap, cur, rfl, _, _, hnc, _⟩
      · simp [Builtin.append_, run_underlying ht, sizeOf, typeInfo, hi, Builtin.lenOf, Builtin.firstCells]
      · simp [Builtin.append_, run_underlying ht, sizeOf, typeInfo, hi, Builtin.lenOf, Builtin.firstCells, hnc, storeCells]
    · obtain ⟨news, hnr, hnc⟩ := ReadsRow.inner_ HR
      have hnM : Reps (d.M W base okp) d.sz ys news := hnr.imp_ (fun p c hp => hKM p c hp)
      have hone : ∀ u ∈ news, u.oneCell' = true := by
        intro u hu
        obtain ⟨q, hq, rfl⟩ := List.mem_iff_getElem.1 hu
        have hql : q / d.sz < ys.length := by
          rw [Nat.div_lt_iff_lt_mul hs0]
          rw [← hnM.1]
          exact hq
        have hc := hnM.2 (q / d.sz) _ (List.getElem?_eq_getElem hql)
        refine d.K_one (d.K_of_M hc) _ ?_
        rw [List.mem_iff_getElem?]
        refine ⟨q % d.sz, ?_⟩
        rw [List.getElem?_take, if_pos (Nat.mod_lt _ hs0), List.getElem?_drop, Nat.mul_comm, Nat.div_add_mod, List.getElem?_eq_getElem hq]
      obtain ⟨v1, w1, hrun, h2, hg, _, hat⟩ := run_append_own_at (P := P) W base t o.type e i0 z d.sz bytes ht hi hz0 hz1 hz2 hz hs0 v xs.length inner hown ad m c news (by rw [hnM.1, hm]) hnc hone (by simp only [maxLen]; omega) hl hbase
      have hat' : v1.ownBlock = v.ownBlock ∨ ∃ b, v1.ownBlock = some b ∧ W.heap.size ≤ b := by
        rcases hat with hat | hat
        · exact .inl hat
        · exact .inr ⟨_, hat, Nat.le_refl _⟩
      have hne : ∀ k, some k ≠ v.ownBlock → k < W.heap.size → some k ≠ v1.ownBlock := by
        intro k hk hlt
        rcases hat' with hat | ⟨b, hb, hle⟩
        · rw [hat]; exact hk
        · rw [hb]
          intro he
          injection he with he
          omega
      have step : ∀ {q : α} {c : List Value} {o : Nat → Prop}, d.M W base o q c → (∀ k, o k → ok k ∧ some k ≠ v.ownBlock) → d.M w1 base (fun k => ok k ∧ some k ≠ v1.ownBlock) q c := by
        intro q c o hq ho
        have h1 := d.M_move (w1 := w1) (fun k hk => hg.block k hk.2.2.1 (ho k hk.1).2) (d.M_bound hq)
        exact d.M_mono (fun k hk => ⟨(ho k hk.1).1, hne k (ho k hk.1).2 hk.2.2.1⟩) h1
      refine ⟨v1, w1, hrun, ⟨fun k hk => ?_, inner ++ news, by rw [List.length_append, hm]; exact h2, reps_append (hr.imp_ (fun _ _ hq => step hq (fun _ hk => hk))) (hnM.imp_ (fun _ _ hq => step hq hokp))⟩, hg, hat'⟩
      rcases hat' with hat | ⟨b, hb, hle⟩
      · exact hok k (hat ▸ hk)
      · rw [hb] at hk
        injection hk with hk
        exact hfresh k (by omega)
  obtain ⟨v1, w1, hr1, h1, hg, hat⟩ := hrun
  rw [if_pos hw]
  unfold Oper.wp execOp
  simp only [ho, resolve, invoke, builtin, Sem.run_bind, Sem.run_pure, Result.andThen_ok, List.map_toArray, List.map_cons, List.map_nil, hs, hx, hr1]
  exact h v1 w1 h1 (HB.grown hg hbase (own_base hown)) hg hat
end Kd
end
section
variable {P : Program} {tmps : Array Value} {w : World}
end
namespace Kd
section
variable {P : Program} {α : Type}
end
section
variable {P : Program} {ops : Array Oper} {rest : List Oper} {o : Oper} {a : Act} {Q : Exit → Act → World → Prop} {Kc : Act → World → Prop} {α : Type}
end
end Kd
end Go.Proofs.YtadeidhefjifaaaW.PrintWords
end
section
namespace Go.Proofs.Ytadeidhefjifaaa.Px
open Go.RowKit Go.Proofs.YtadeidhefjifaaaW.PrintWords Go.Proofs.YtadeidhefjifaaaW.PrintLast Go.Proofs.YtadeidhefjifaaaW.PrintMore
attribute [local go_sem] max2_int min2_int max_two min_two max_three min_three max_four min_four   -- for this text's walks alone
set_option linter.unusedVariables false
set_option linter.unusedSimpArgs false
theorem info44 : (Try.prog.info? 44).map (fun i => (i.zero, i.size, i.bytes)) = some (some (.agg #[(.int .i64 0), (.int .i64 0), (.int .i64 0), (.int .i64 0), (.int .i64 0)]), 5, 40) := by kernel_rfl
end Go.Proofs.Ytadeidhefjifaaa.Px
end
section
set_option linter.unusedVariables false
set_option linter.unusedSimpArgs false
namespace Go.Proofs.Ytadeidhefjifaaa.Px.L20
open Go.RowKit Go.Proofs.YtadeidhefjifaaaW.PrintWords Go.Proofs.YtadeidhefjifaaaW.PrintLast Go.Proofs.YtadeidhefjifaaaW.PrintMore
section
variable {α β : Type} {f F A B : Nat → Option α} {r x : α} {y : β} {g : Nat → α → Option β} {c : Prop} [Decidable c]
end
theorem sg_swap (x : Nat → Nat → Int) (m : Nat) : ∀ n, sg (fun j => sg (x j) m) n = sg (fun k => sg (fun j => x j k) n) m
  | 0 => by simp only [sg]; exact (sg_zero m).symm
  | n + 1 => by simp only [sg]; rw [sg_swap x m n, sg_add]
theorem sb_zero {p : S57 → Bool} : ∀ {us : List S57}, (∀ u ∈ us, ¬ p u = true) → sb p us = 0
  | [], _ => rfl
  | u :: us, h => by rw [sb_no (h u (by simp))]; exact sb_zero fun x hx => h x (by simp [hx])
/-- NO ASSIGNMENT EXCEEDS A CUT. -/
theorem dual {pu : Int} {q : List S92} {l : List S44} (G : Gd pu q l) {us : List S57} (A : Al q l pu us) (ca cr : List Bool) : allS us ≤ sg (outS q l pu ca cr) l.length + sg (finS q cr) q.length := by
  have hpos : ∀ p, 0 ≤ sb p us := fun p => sb_nonneg fun u hu => (A.use u hu).2.2.2.2.1
  have hS : sg (fun j => sb (atA j) us) l.length = allS us := sg_split (c := S57.f0) (fun k u => by simp [atA]) fun u hu => ⟨(A.use u hu).1, (A.use u hu).2.1⟩
  have hR : ∀ j : Nat, sg (fun k => sb (atB j k) us) q.length = sb (atA j) us := fun j => sg_split (c := S57.f1) (fun k u => by simp [atB, atA]) fun u hu => ⟨(A.use u hu).2.2.1, (A.use u hu).2.2.2.1⟩
  have hC : ∀ k : Nat, sg (fun j => sb (atB j k) us) l.length = sb (atR k) us := fun k => sg_split (c := S57.f0) (fun j u => by simp [atB, atR, Bool.and_comm]) fun u hu => ⟨(A.use u hu).1, (A.use u hu).2.1⟩
  have hrow : ∀ j, j < l.length → sb (atA j) us ≤ outS q l pu ca cr j + sg (fun k => if rdOf false cr (k : Int) = true then sb (atB j k) us else 0) q.length := by
    intro j hj
    have h0 : 0 ≤ sg (fun k => if rdOf false cr (k : Int) = true then sb (atB j k) us else 0) q.length := by
      have h := sg_le (f := fun _ => 0) (g := fun k => if rdOf false cr (k : Int) = true then sb (atB j k) us else 0) (n := q.length) fun k hk => by
        split
        · exact hpos _
        · exact Int.le_refl _
      rwa [sg_zero] at h
    unfold outS
    split
    · have := A.row j (by omega) (by omega); omega
    · rw [← hR j]
      have h1 : sg (fun k => sb (atB j k) us) q.length = sg (fun k => if rdOf false cr (k : Int) = true then 0 else sb (atB j k) us) q.length + sg (fun k => if rdOf false cr (k : Int) = true then sb (atB j k) us else 0) q.length := by
        rw [← sg_add]
        exact sg_congr fun k hk => by split <;> simp
      have h2 : sg (fun k => if rdOf false cr (k : Int) = true then 0 else sb (atB j k) us) q.length ≤ rowS q cr (rd_T44 l j) q.length := by
        refine sg_le fun k hk => ?_
        have hc := G.l1 _ (rd_memA (l := l) (a := (j : Int)) (by omega) (by omega))
        by_cases e : rdOf false cr (k : Int) = true
        · rw [if_pos e, if_neg (by simp [e])]; exact Int.le_refl _
        · rw [if_neg e]
          by_cases e2 : eligB (rd_T92 q k) (rd_T44 l j) = true
          · rw [if_pos ⟨by simpa using e, e2⟩]; exact A.one j k (by omega) (by omega)
          · rw [if_neg (fun h => e2 h.2)]
            refine Int.le_of_eq (sb_zero fun u hu hb => ?_)
            have := (A.use u hu).2.2.2.2.2.2
            simp only [atB, decide_eq_true_eq] at hb
            rw [hb.1, hb.2] at this
            exact e2 this
      omega
  have hsum := sg_le hrow
  rw [sg_add, hS, sg_swap] at hsum
  have hfin : sg (fun k => sg (fun j => if rdOf false cr (k : Int) = true then sb (atB j k) us else 0) l.length) q.length ≤ sg (finS q cr) q.length := by
    refine sg_le fun k hk => ?_
    unfold finS
    by_cases e : rdOf false cr (k : Int) = true
    · simp only [e, if_true]
      rw [hC k]
      exact A.col k (by omega) (by omega)
    · rw [if_neg e]
      refine Int.le_of_eq ((sg_congr fun j hj => ?_).trans (sg_zero l.length))
      rw [if_neg e]
  omega
/-- THE MAIN THEOREM: an assignment leaves at least as much open as every cut says. -/
theorem main {n u e mn md : Int} {q : List S92} {l : List S44} {us : List S57} (h : alV n u e mn md q l us = 0) (hl : l.length ≤ 12000000) (c : List Bool) : (missV n u e mn md q us).2 = 0 ∧ 0 ≤ (missV n u e mn md q us).1 ∧ ((boundV n u e mn md q l c).2 = 0 → 0 ≤ (boundV n u e mn md q l c).1 ∧ (boundV n u e mn md q l c).1 ≤ (missV n u e mn md q us).1) := by
  obtain ⟨h1, h2⟩ := al_zero h
  obtain ⟨h3, h4, G⟩ := gd_of h1
  obtain ⟨e1, e2⟩ := miss_al h3 G h2
  rw [e1]
  refine ⟨rfl, e2, fun hb => ?_⟩
  unfold boundV at hb ⊢
  rw [if_pos h1] at hb ⊢
  split at hb
  · rename_i hc
    rw [if_pos hc]
    have := dual G (al_all G h2) ((c.drop 1).take l.length) (c.drop (1 + l.length))
    have := bound_eq G hl ((c.drop 1).take l.length) (c.drop (1 + l.length))
    dsimp only
    unfold mx
    split <;> omega
  · cases hb
end Go.Proofs.Ytadeidhefjifaaa.Px.L20
end
section
set_option linter.unusedVariables false
set_option linter.unusedSimpArgs false
namespace FlowM
section
variable {α : Type} {fr tu cp : α → Int}
end
end FlowM
namespace Go.Proofs.Ytadeidhefjifaaa.Px.L20
open Go.RowKit Go.Proofs.YtadeidhefjifaaaW.PrintWords Go.Proofs.YtadeidhefjifaaaW.PrintLast Go.Proofs.YtadeidhefjifaaaW.PrintMore
theorem ltU_trans {x y z : S57} (h : ltU x y) (k : ltU y z) : ltU x z := by unfold ltU at *; omega
/-- .. and what is allowed is in order -/
theorem al_up {pu : Int} {q : List S92} {l : List S44} : ∀ (us : List S57) (pr : Option S57) (m1 m2 : Int → Int), alGo q l pu pr m1 m2 us = true → us.Pairwise ltU ∧ (∀ v, pr = some v → ∀ u ∈ us, ltU v u)
  | [], _, _, _, _ => by simp
  | u :: us, pr, m1, m2, h => by
    rw [alGo] at h
    simp only [Bool.and_eq_true] at h
    obtain ⟨-, ha, -, -, -, hr⟩ := h
    obtain ⟨h1, h2⟩ := al_up us _ _ _ hr
    have hp : ∀ v, pr = some v → ltU v u := by
      rintro v rfl
      simp only [useAft, Bool.not_eq_true', Bool.or_eq_false_iff, decide_eq_false_iff_not, Bool.and_eq_false_iff, beq_eq_false_iff_ne] at ha
      unfold ltU; omega
    refine ⟨List.pairwise_cons.2 ⟨h2 u rfl, h1⟩, fun v hv x hx => ?_⟩
    rcases List.mem_cons.1 hx with rfl | hx
    · exact hp v hv
    · exact ltU_trans (hp v hv) (h2 u rfl x hx)
end Go.Proofs.Ytadeidhefjifaaa.Px.L20
end
section
set_option linter.unusedVariables false
set_option linter.unusedSimpArgs false
namespace Go.Proofs.Ytadeidhefjifaaa.Px.L20
open Go.RowKit Go.Proofs.YtadeidhefjifaaaW.PrintWords Go.Proofs.YtadeidhefjifaaaW.PrintLast Go.Proofs.YtadeidhefjifaaaW.PrintMore
theorem rd_more (l : List S44) (x : S44) {a : Int} (h0 : 0 ≤ a) (h1 : a < l.length) : rd_T44 (l ++ [x]) a = rd_T44 l a := by
  unfold rd_T44
  rw [List.getD_eq_getElem?_getD, List.getD_eq_getElem?_getD, List.getElem?_append_left (by omega)]
theorem rd_last (l : List S44) (x : S44) : rd_T44 (l ++ [x]) (l.length : Int) = x := by
  unfold rd_T44
  rw [List.getD_eq_getElem?_getD, Int.toNat_natCast, List.getElem?_concat_length]; rfl
theorem ask_gd {n u e mn md : Int} {q : List S92} {l : List S44} (h : askV n u e mn md q l = 0) : Gd u q l := (gd_of h).2.2
/-- what was an assignment remains one -/
theorem al_more {n u e mn md : Int} {q : List S92} {l : List S44} {x : S44} {us : List S57} (h : alV n u e mn md q l us = 0) (hb : askV n u e mn md q (l ++ [x]) = 0) : alV n u e mn md q (l ++ [x]) us = 0 := by
  obtain ⟨h1, h2⟩ := al_zero h
  have G := ask_gd h1
  have G' := ask_gd hb
  have A := al_all G h2
  have hU : ∀ v ∈ us, Use q (l ++ [x]) v := fun v hv => by
    obtain ⟨a0, a1, b0, b1, c0, c1, hel⟩ := A.use v hv
    refine ⟨a0, by simp; omega, b0, b1, c0, ?_, ?_⟩
    · rw [rd_more l x a0 a1]; exact c1
    · rw [rd_more l x a0 a1]; exact hel
  unfold alV
  rw [if_pos hb, if_pos (al_mk G' us none _ _ hU (al_up us _ _ _ h2).1 (fun v hv => by cases hv) (fun _ => Int.le_refl _) (fun _ => Int.le_refl _) (fun a a0 a1 => ?_) (fun r r0 r1 => by have := A.col r r0 r1; simpa using this))]
  by_cases e : a < l.length
  · rw [rd_more l x a0 e]; have := A.row a a0 e; simpa using this
  · have hz : sb (atA a) us = 0 := sb_zero fun v hv hp => by
      have := (A.use v hv).2.1
      simp only [atA, decide_eq_true_eq] at hp
      omega
    have := (cap_bound G' a0 a1).1
    rw [hz]; simpa using this
/-- a cut, with a further attempt outside -/
def cutM (c : List Bool) (A : Nat) : List Bool := c.take (1 + A) ++ false :: c.drop (1 + A)
theorem cof_take (c : List Bool) (A : Nat) (h : 1 + A ≤ c.length) (v : Int) (h0 : 0 ≤ v) (h1 : v < 1 + (A : Int)) : Cof (cutM c A) v = Cof c v := by
  unfold Cof cutM
  rw [List.getD_eq_getElem?_getD, List.getD_eq_getElem?_getD, List.getElem?_append_left (by rw [List.length_take]; omega), List.getElem?_take_of_lt (by omega)]
theorem cof_mid (c : List Bool) (A : Nat) (h : 1 + A ≤ c.length) : Cof (cutM c A) (1 + (A : Int)) = false := by
  unfold Cof cutM
  rw [List.getD_eq_getElem?_getD, List.getElem?_append_right (by rw [List.length_take]; omega), List.length_take, show (1 + (A : Int)).toNat - min (1 + A) c.length = 0 by omega]
  rfl
theorem cof_drop (c : List Bool) (A : Nat) (h : 1 + A ≤ c.length) (k : Int) (h0 : 0 ≤ k) : Cof (cutM c A) (1 + ((A + 1 : Nat) : Int) + k) = Cof c (1 + (A : Int) + k) := by
  unfold Cof cutM
  rw [List.getD_eq_getElem?_getD, List.getD_eq_getElem?_getD, List.getElem?_append_right (by rw [List.length_take]; omega), List.length_take, show (1 + ((A + 1 : Nat) : Int) + k).toNat - min (1 + A) c.length = k.toNat + 1 by omega, List.getElem?_cons_succ, List.getElem?_drop, show (1 + (A : Int) + k).toNat = 1 + A + k.toNat by omega]
theorem bound_cof {n u e mn md : Int} {q : List S92} {l : List S44} {c : List Bool} (ha : askV n u e mn md q l = 0) (hl : l.length ≤ 12000000) (h1 : c.length = 2 + l.length + q.length) (h2 : Cof c 0 = true) (h3 : Cof c (1 + (l.length : Int) + (q.length : Int)) = false) :
    boundV n u e mn md q l c = (mx 0 (totS q - (sg (outS q l u ((c.drop 1).take l.length) (c.drop (1 + l.length))) l.length + sg (finS q (c.drop (1 + l.length))) q.length)), 0) := by
  unfold boundV
  have h2' : rdOf false c 0 = true := h2
  have h3' : rdOf false c (1 + l.length + q.length) = false := h3
  rw [if_pos ha, if_pos ⟨h1, h2', h3'⟩, bound_eq (ask_gd ha) hl]
theorem bound_ok {n u e mn md : Int} {q : List S92} {l : List S44} {c : List Bool} (ha : askV n u e mn md q l = 0) (h : (boundV n u e mn md q l c).2 = 0) : c.length = 2 + l.length + q.length ∧ Cof c 0 = true ∧ Cof c (1 + (l.length : Int) + (q.length : Int)) = false := by
  unfold boundV at h
  rw [if_pos ha] at h
  split at h
  · rename_i hc; exact hc
  · cases h
/-- WITH A FURTHER ATTEMPT NO MORE IS MISSING, and at most so much less. -/
theorem aud_more {n u e mn md : Int} {q : List S92} {l : List S44} {x : S44} (hl : l.length ≤ 50) (ha : askV n u e mn md q l = 0) (hb : askV n u e mn md q (l ++ [x]) = 0) {us us' : List S57} {m m' er er' : Int} {c c' : List Bool}
    (h : audV n u e mn md q l = (us, m, c, er)) (h' : audV n u e mn md q (l ++ [x]) = (us', m', c', er')) : m' ≤ m ∧ m - m' ≤ x.f4 * u ∧ alV n u e mn md q (l ++ [x]) us = 0 ∧ 0 ≤ m' ∧ m ≤ 640000 ∧ 0 ≤ x.f4 * u ∧ x.f4 * u ≤ 240 := by
  have hl' : (l ++ [x]).length ≤ 100 := by simp; omega
  obtain ⟨-, p2, p3, p4, -⟩ := aud_ok ha (by omega) h
  obtain ⟨-, r2, r3, r4, -⟩ := aud_ok hb hl' h'
  have hal := al_more p2 hb
  have G := ask_gd ha
  have G' := ask_gd hb
  have hcap := cap_bound G' (a := (l.length : Int)) (by omega) (by simp; omega)
  rw [rd_last] at hcap
  have hm1 := main hal (by omega) c'
  rw [p3, r4] at hm1
  have hbk := bound_ok ha (show (boundV n u e mn md q l c).2 = 0 by rw [p4])
  obtain ⟨c1, c2, c3⟩ := hbk
  have hA : 1 + l.length ≤ c.length := by omega
  have hbc := bound_cof ha (by omega) c1 c2 c3
  rw [p4] at hbc
  have hlen : (l ++ [x]).length = l.length + 1 := by simp
  have d1 : (cutM c l.length).length = 2 + (l ++ [x]).length + q.length := by
    unfold cutM
    rw [hlen, List.length_append, List.length_take, List.length_cons, List.length_drop]; omega
  have d2 : Cof (cutM c l.length) 0 = true := by rw [cof_take c _ hA 0 (by omega) (by omega)]; exact c2
  have d3 : Cof (cutM c l.length) (1 + ((l ++ [x]).length : Int) + (q.length : Int)) = false := by
    rw [hlen, cof_drop c _ hA _ (by omega)]; exact c3
  have hbm := bound_cof hb (by omega) d1 d2 d3
  have hm2 := main r2 (by omega) (cutM c l.length)
  rw [hbm, r3] at hm2
  have hm3 := (hm2.2.2 rfl).2
  dsimp only at hm3
  have hfin : sg (finS q ((cutM c l.length).drop (1 + (l ++ [x]).length))) q.length = sg (finS q (c.drop (1 + l.length))) q.length := sg_congr fun k hk => by
    unfold finS
    rw [cof_col, cof_col, hlen, cof_drop c _ hA _ (by omega)]
  have hout : sg (outS q (l ++ [x]) u (((cutM c l.length).drop 1).take (l ++ [x]).length) ((cutM c l.length).drop (1 + (l ++ [x]).length))) (l ++ [x]).length = sg (outS q l u ((c.drop 1).take l.length) (c.drop (1 + l.length))) l.length + x.f4 * u := by
    rw [hlen]
    show sg _ l.length + outS q (l ++ [x]) u _ _ l.length = _
    congr 1
    · refine sg_congr fun j hj => ?_
      unfold outS rowS
      rw [cof_row _ _ _ (by omega), cof_row _ _ _ hj, cof_take c _ hA _ (by omega) (by omega), rd_more l x (by omega) (by omega)]
      split
      · rfl
      · refine sg_congr fun k hk => ?_
        rw [cof_col, cof_col, cof_drop c _ hA _ (by omega)]
    · unfold outS
      rw [cof_row _ _ _ (by omega), cof_mid c _ hA, if_pos rfl, rd_last]
  rw [hfin, hout] at hm3
  have htb := tot_bound G
  have hmm : m = mx 0 (totS q - (sg (outS q l u ((c.drop 1).take l.length) (c.drop (1 + l.length))) l.length + sg (finS q (c.drop (1 + l.length))) q.length)) := congrArg Prod.fst hbc
  have o1 := sg_bound (b := 3840) (n := l.length) (f := outS q l u ((c.drop 1).take l.length) (c.drop (1 + l.length))) fun i hi => out_bound G _ _ hi
  have o2 := sg_bound (b := 10000) (n := q.length) (f := finS q (c.drop (1 + l.length))) fun i hi => fin_bound G _ hi
  have hm0 := hm2.2.1
  have hm4 := (hm1.2.2 rfl).2
  dsimp only at hm0 hm4
  refine ⟨hm4, ?_, hal, hm0, ?_, hcap.1, hcap.2⟩
  · rw [hmm]
    unfold mx at hm3 ⊢
    split at hm3 <;> split <;> omega
  · rw [hmm]; unfold mx; split <;> omega
end Go.Proofs.Ytadeidhefjifaaa.Px.L20
end
section
set_option linter.unusedVariables false
set_option linter.unusedSimpArgs false
namespace Go.Proofs.Ytadeidhefjifaaa.Px
open Go.RowKit Go.Proofs.YtadeidhefjifaaaW.PrintWords Go.Proofs.YtadeidhefjifaaaW.PrintLast Go.Proofs.YtadeidhefjifaaaW.PrintMore
open L20 (ev_few ev_sane sane_ok audV aud_more aud_bad aud_ok)
theorem wpOp_of {P : Program} {ops : Array Oper} {Q : Exit → Act → World → Prop} {i : Nat} {o : Oper} {a : Act} {w : World} {K : Act → World → Prop} (hi : ops[i]? = some o) (hg : o.guard = none) (h : o.wp P a w K Q) : wpOp P ops Q i K a w := by
  unfold wpOp
  simp only [hi]
  rw [if_pos (by unfold Region.wanted; rw [hg])]
  exact .inl h
theorem wpAnyT_two {P : Program} {md : Region.Mode} {ops : Array Oper} {Q : Exit → Act → World → Prop} {S : World → Prop} {L i j fuel : Nat} {listed : Array Bool} {a : Act} {w : World} (hr : Region.ready md ops listed = [i, j])
    (hi : wpOp P ops Q i (fun a' w' => (i = L ∨ S w') ∧ wpAnyT P md ops Q S L fuel (listed.setIfInBounds i true) a' w') a w)
    (hj : wpOp P ops Q j (fun a' w' => (j = L ∨ S w') ∧ wpAnyT P md ops Q S L fuel (listed.setIfInBounds j true) a' w') a w) : wpAnyT P md ops Q S L (fuel + 1) listed a w := by
  refine ⟨fun h0 => (by rw [hr] at h0; cases h0), fun k hk => ?_⟩
  rw [hr] at hk
  rcases List.mem_cons.1 hk with rfl | hk
  · exact hi
  · obtain rfl := List.mem_singleton.1 hk
    exact hj
/-- a row of no elements, made -/
theorem R_made0 {α : Type} (d : Kd α) (e : Nat) {W : World} {g base : Nat} {ok : Nat → Prop} (h : W.heap[g]? = some (.cells #[] e (0, 0))) (hb : base ≤ g) (hok : ok g) : Kd.R d e W base ok (.slice (some ⟨g, 0, none⟩) 0 0) [] :=
  ⟨fun k hk => by cases hk; exact hok, [], ⟨by simp, .inr ⟨g, 0, #[], rfl, hb, h, Nat.le_refl _, Nat.zero_le _, by simp, by simp⟩⟩, by simp, fun j p hj => by simp at hj⟩
/-- the boxes of the law -/
structure MS (w : World) (pv xv : Array Value) (W : World) : Prop where
  below : Below w.heap.size w W
  hp : W.heap[w.heap.size]? = some (.cells pv 41 (0, 0))
  hx : W.heap[w.heap.size + 1]? = some (.cells xv 44 (0, 0))
theorem MS.after {w W W' : World} {pv xv : Array Value} (h : MS w pv xv W) (hb : Below W.heap.size W W') : MS w pv xv W' :=
  ⟨below_step h.below hb, (hb.block _ (blk_lt h.hp)).trans h.hp, (hb.block _ (blk_lt h.hx)).trans h.hx⟩
/-- other rows may grow, if they lie beyond -/
theorem MS.grown {w W W' : World} {pv xv : Array Value} (h : MS w pv xv W) {row : Option Nat} (hg : W.grownBy W' row) (hr : ∀ k, row = some k → w.heap.size + 1 < k) : MS w pv xv W' :=
  ⟨h.below.grown hg h.below.size (fun k e => by have := hr k e; omega), (hg.block _ (blk_lt h.hp) (fun e => by have := hr _ e.symm; omega)).trans h.hp, (hg.block _ (blk_lt h.hx) (fun e => by have := hr _ e.symm; omega)).trans h.hx⟩
def sizarlaw20_ProofMore.f (k : Nat) (a0_0 : ByteArray) (a0_1 a0_2 a0_3 a0_4 a0_5 : Int) (l0_6 : List S92) (l1 : List S44) (a2_0 a2_1 a2_2 a2_3 a2_4 : Int) : Option Bool := some true
set_option maxRecDepth 100000 in
set_option maxHeartbeats 4000000 in
theorem sizarlaw20_ProofMore.calls (k : Nat) (s0 : ByteArray) (i1 pu i3 i4 i5 : Int) (Aq : Option Addr) (cq : Nat) (q : List S92) (A1 : Option Addr) (c1 : Nat) (l : List S44) (x0 x1 x2 x3 x4 : Int) (r : Bool) (w : World)
    (hq : Kd.C k92 w Aq q.length q) (hcq : q.length ≤ cq) (hl : Kd.C k44 w A1 l.length l) (hcl : l.length ≤ c1) (h : sizarlaw20_ProofMore.f k s0 i1 pu i3 i4 i5 q l x0 x1 x2 x3 x4 = some r) :
    Calls Try.prog 7 #[.agg #[.string s0, .int .i64 i1, .int .i64 pu, .int .i64 i3, .int .i64 i4, .int .i64 i5, .slice Aq q.length cq], .slice A1 l.length c1, .agg #[.int .i64 x0, .int .i64 x1, .int .i64 x2, .int .i64 x3, .int .i64 x4]] w
      fun e w' => e = .returned (.bool r) ∧ Below w.heap.size w w' := by
  obtain rfl : true = r := Option.some.inj h
  have hu41 := Try.underlying41
  have hu44 := Try.underlying44
  have hu48 := Try.underlying48
  have HQ := Aside0.mk hq
  have HL := Aside0.mk hl
  obtain ⟨bf, ⟨KF, hKF⟩, hbf⟩ := ev_few s0 i1 pu i3 i4 i5 q l
  have HKF := Aside0.mk (hKF KF (Nat.le_refl _))
  have HBF := Aside0.mk hbf
  have hM0 : MS w #[.string s0, .int .i64 i1, .int .i64 pu, .int .i64 i3, .int .i64 i4, .int .i64 i5, .slice Aq q.length cq] #[.int .i64 x0, .int .i64 x1, .int .i64 x2, .int .i64 x3, .int .i64 x4] ((w.alloc (.cells #[.string s0, .int .i64 i1, .int .i64 pu, .int .i64 i3, .int .i64 i4, .int .i64 i5, .slice Aq q.length cq] 41)).alloc (.cells #[.int .i64 x0, .int .i64 x1, .int .i64 x2, .int .i64 x3, .int .i64 x4] 44)) :=
    ⟨below_alloc (below_alloc (Below.refl _ _) _) _, (Below.heap_alloc _ _ _ (by simp)).trans (heap_alloc_new w _), by have h_ := heap_alloc_new (w.alloc (.cells #[.string s0, .int .i64 i1, .int .i64 pu, .int .i64 i3, .int .i64 i4, .int .i64 i5, .slice Aq q.length cq] 41)) (.cells #[.int .i64 x0, .int .i64 x1, .int .i64 x2, .int .i64 x3, .int .i64 x4] 44); rw [World.size_alloc] at h_; exact h_⟩
  have HM0 := Aside0.mk hM0
  clear hq hl h hKF hbf hM0
  go_enter Try.func7, Try.ntmps7
  go_wp2_with fail
  refine (sizarlaw20_sane.calls 30 true _ sane_ok).mono ?_
  rintro e W1 ⟨rfl, hb1⟩
  have hM1 := HM0.out.after hb1
  have HM1 := Aside0.mk hM1
  have p0 := (blk_cell hM1.hp 0).trans (show _ = some _ from rfl)
  have p1 := (blk_cell hM1.hp 1).trans (show _ = some _ from rfl)
  have p2 := (blk_cell hM1.hp 2).trans (show _ = some _ from rfl)
  have p3 := (blk_cell hM1.hp 3).trans (show _ = some _ from rfl)
  have p4 := (blk_cell hM1.hp 4).trans (show _ = some _ from rfl)
  have p5 := (blk_cell hM1.hp 5).trans (show _ = some _ from rfl)
  have p6 := (blk_cell hM1.hp 6).trans (show _ = some _ from rfl)
  clear hM1 HM0 hb1
  go_wp2_with fail
  refine (sizarref20_Few.calls KF s0 i1 pu i3 i4 i5 Aq cq q A1 c1 l bf _ (Kd.C_below HQ.out HM1.out.below) hcq (Kd.C_below HL.out HM1.out.below) hcl HKF.out).mono ?_
  rintro e W2 ⟨rfl, hb2⟩
  have HM2 := Aside0.mk (HM1.out.after hb2)
  clear HM1 hb2 p0 p1 p2 p3 p4 p5 p6
  cases bf with
  | false =>
    go_wp2_with fail
    go_ret
    exact ⟨rfl, HM2.out.below⟩
  | true =>
    have hl12 := (HBF.out rfl).2
    have hq10 := (HBF.out rfl).1
    clear HBF HKF
    go_upto_region 5 with fail
    have hw2 := HM2.out.after (below_drew (Below.refl W2.heap.size W2))
    have HMD := Aside0.mk hw2
    clear hw2
    refine Go.Code.wp_mono (Q := fun e a' w' => e = .normal ∧ ∃ g0 gx u20 v, a' = { tmps := #[Value.agg #[Value.string s0, Value.int .i64 i1, Value.int .i64 pu, Value.int .i64 i3, Value.int .i64 i4, Value.int .i64 i5, Value.slice Aq q.length cq], Value.slice A1 l.length c1, Value.agg #[Value.int .i64 x0, Value.int .i64 x1, Value.int .i64 x2, Value.int .i64 x3, Value.int .i64 x4], Value.pointer (some ⟨w.heap.size, 0, none⟩), undef, Value.pointer (some ⟨w.heap.size + 1, 0, none⟩), Value.bool false, v, undef, undef, undef, undef, Value.bool true, Value.bool false, Value.agg #[Value.string s0, Value.int .i64 i1, Value.int .i64 pu, Value.int .i64 i3, Value.int .i64 i4, Value.int .i64 i5, Value.slice Aq q.length cq], Value.slice A1 l.length c1, Value.bool true, Value.bool false, .slice (some ⟨g0, 0, none⟩) 0 0, .slice A1 l.length c1, u20, .agg #[.int .i64 x0, .int .i64 x1, .int .i64 x2, .int .i64 x3, .int .i64 x4], .slice (some ⟨gx, 0, none⟩) 1 1, v, undef, undef, undef, undef, undef, undef, undef, undef, undef, undef, undef, undef, undef, undef, undef, undef, undef, undef, undef, undef, undef, undef, undef, undef, undef, undef, undef, undef, undef, undef, undef, undef, undef, undef, undef, undef, undef, undef, undef, undef, undef, undef, undef, undef], defers := [] } ∧ Kd.R k44 44 w' w.heap.size (fun k => w.heap.size + 1 < k) v (l ++ [⟨x0, x1, x2, x3, x4⟩]) ∧ MS w #[.string s0, .int .i64 i1, .int .i64 pu, .int .i64 i3, .int .i64 i4, .int .i64 i5, .slice Aq q.length cq] #[.int .i64 x0, .int .i64 x1, .int .i64 x2, .int .i64 x3, .int .i64 x4] w') ?post ?reg
    case reg =>
      have hsz : w.heap.size + 1 < W2.drew.heap.size := blk_lt HMD.out.hx
      have HFR := Aside0.mk (show ∀ W : World, W2.drew.heap.size ≤ W.heap.size → ∀ k, W.heap.size ≤ k → w.heap.size + 1 < k from fun W h k hk => by omega)
      have HCL := Aside0.mk (show ∀ W, Below w.heap.size w W → Kd.C k44 W A1 l.length l from fun W hb => Kd.C_below HL.out hb)
      have HKM := Aside0.mk (show ∀ (W : World) (x : S44) (cs : List Value), k44.K W x cs → k44.M W w.heap.size (fun _ => False) x cs from fun W x cs hK => by obtain rfl := k44_open hK; exact k44_mkM _ _ _ x)
      refine wp_region_T (by kernel_rfl) (fun w' => MS w #[.string s0, .int .i64 i1, .int .i64 pu, .int .i64 i3, .int .i64 i4, .int .i64 i5, .slice Aq q.length cq] #[.int .i64 x0, .int .i64 x1, .int .i64 x2, .int .i64 x3, .int .i64 x4] w') 6 ?_
      refine wpAnyT_take (i := 1) (v := .slice A1 l.length c1) (by decide +kernel) (by decide) rfl (by decide +kernel) (by decide +kernel) (by decide +kernel) (fun _ _ _ h => by cases h.1) (.inl ⟨rfl, fun w' hS' => ?_⟩) HMD.out ?_
      · go_simp; done
      (try simp only [Act.put, List.setIfInBounds_toArray, List.set_cons_zero, List.set_cons_succ])
      refine wpAnyT_take (i := 3) (v := .agg #[.int .i64 x0, .int .i64 x1, .int .i64 x2, .int .i64 x3, .int .i64 x4]) (by decide +kernel) (by decide) rfl (by decide +kernel) (by decide +kernel) (by decide +kernel) (fun _ _ _ h => by cases h.1) (.inl ⟨rfl, fun w' hS' => ?_⟩) HMD.out ?_
      · have z0 := (blk_cell hS'.hx 0).trans (show _ = some _ from rfl)
        have z1 := (blk_cell hS'.hx 1).trans (show _ = some _ from rfl)
        have z2 := (blk_cell hS'.hx 2).trans (show _ = some _ from rfl)
        have z3 := (blk_cell hS'.hx 3).trans (show _ = some _ from rfl)
        have z4 := (blk_cell hS'.hx 4).trans (show _ = some _ from rfl)
        go_simp; done
      (try simp only [Act.put, List.setIfInBounds_toArray, List.set_cons_zero, List.set_cons_succ])
      refine wpAnyT_two (i := 0) (j := 4) (by decide +kernel) (wpOp_of rfl rfl ?first0) (wpOp_of rfl rfl ?first4)
      case first0 =>
        have mW : MS w #[.string s0, .int .i64 i1, .int .i64 pu, .int .i64 i3, .int .i64 i4, .int .i64 i5, .slice Aq q.length cq] #[.int .i64 x0, .int .i64 x1, .int .i64 x2, .int .i64 x3, .int .i64 x4] W2.drew := HMD.out
        obtain ⟨W, hW⟩ : ∃ X, W2.drew = X := ⟨_, rfl⟩
        rw [hW] at mW hsz HFR ⊢
        unfold Oper.wp
        go_simp
        obtain ⟨Wa, hWa⟩ : ∃ X, W.alloc (.cells #[] 44) = X := ⟨_, rfl⟩
        have ga_h : Wa.heap[W.heap.size]? = some (.cells #[] 44 (0, 0)) := by rw [← hWa]; exact heap_alloc_new _ _
        have mWa : MS w #[.string s0, .int .i64 i1, .int .i64 pu, .int .i64 i3, .int .i64 i4, .int .i64 i5, .slice Aq q.length cq] #[.int .i64 x0, .int .i64 x1, .int .i64 x2, .int .i64 x3, .int .i64 x4] Wa := by rw [← hWa]; exact mW.after (below_alloc (Below.refl _ _) _)
        have sWa : W.heap.size < Wa.heap.size := by rw [← hWa]; simp
        have bWa : Below W.heap.size W Wa := by rw [← hWa]; exact below_alloc (Below.refl _ _) _
        rw [hWa]
        refine ⟨mWa, ?_⟩
        (try simp only [Act.put, List.setIfInBounds_toArray, List.set_cons_zero, List.set_cons_succ])
        refine wpAnyT_two (i := 2) (j := 4) (by decide +kernel) (wpOp_of rfl rfl ?then2) (wpOp_of rfl rfl ?then4)
        case then2 =>
          refine of_wanted (ops := #[]) rfl (Kd.R_append_rows_step k44 (w0 := w) (W := Wa) w.heap.size rfl (.tmp 18) (.tmp 19) 42 44 (.agg #[.int .i64 0, .int .i64 0, .int .i64 0, .int .i64 0, .int .i64 0]) 40 rfl Try.underlying42 info44 rfl (by decide) (by decide) (.slice (some ⟨W.heap.size, 0, none⟩) 0 0) [] l A1 l.length c1 (fun k => w.heap.size + 1 < k) (fun _ => False) rfl rfl (R_made0 k44 44 ga_h (by omega) (by omega)) (HCL.out _ mWa.below) (HKM.out _) (fun _ h => h.elim) (HFR.out _ (by omega)) mWa.below mWa.below.size (by simp; omega) ?_)
          intro u20 Wb hrWb _ hgWb _
          (try simp only [Act.put, List.setIfInBounds_toArray, List.set_cons_zero, List.set_cons_succ])
          have mWb : MS w #[.string s0, .int .i64 i1, .int .i64 pu, .int .i64 i3, .int .i64 i4, .int .i64 i5, .slice Aq q.length cq] #[.int .i64 x0, .int .i64 x1, .int .i64 x2, .int .i64 x3, .int .i64 x4] Wb := mWa.grown hgWb (fun k e => by cases e; (try dsimp only); omega)
          rw [List.nil_append] at hrWb
          have sWb : Wa.heap.size ≤ Wb.heap.size := hgWb.size
          refine ⟨.inr mWb, ?_⟩
          refine wpAnyT_one (i := 4) rfl rfl (by decide +kernel) ?_
          unfold Oper.wp
          go_simp
          obtain ⟨Wc, hWc⟩ : ∃ X, Wb.alloc (.cells #[.int .i64 x0, .int .i64 x1, .int .i64 x2, .int .i64 x3, .int .i64 x4] 44) = X := ⟨_, rfl⟩
          have gx_h : Wc.heap[Wb.heap.size]? = some (.cells #[.int .i64 x0, .int .i64 x1, .int .i64 x2, .int .i64 x3, .int .i64 x4] 44 (0, 0)) := by rw [← hWc]; exact heap_alloc_new _ _
          have mWc : MS w #[.string s0, .int .i64 i1, .int .i64 pu, .int .i64 i3, .int .i64 i4, .int .i64 i5, .slice Aq q.length cq] #[.int .i64 x0, .int .i64 x1, .int .i64 x2, .int .i64 x3, .int .i64 x4] Wc := by rw [← hWc]; exact mWb.after (below_alloc (Below.refl _ _) _)
          have sWc : Wb.heap.size < Wc.heap.size := by rw [← hWc]; simp
          have bWc : Below Wb.heap.size Wb Wc := by rw [← hWc]; exact below_alloc (Below.refl _ _) _
          rw [hWc]
          refine ⟨mWc, ?_⟩
          (try simp only [Act.put, List.setIfInBounds_toArray, List.set_cons_zero, List.set_cons_succ])
          have hrc := Kd.R_below hrWb bWc
          refine wpAnyT_one (i := 5) rfl rfl (by decide +kernel) ?_
          refine of_wanted (ops := #[]) rfl (Kd.R_append_rows_step k44 (w0 := w) (W := Wc) w.heap.size rfl (.tmp 20) (.tmp 22) 42 44 (.agg #[.int .i64 0, .int .i64 0, .int .i64 0, .int .i64 0, .int .i64 0]) 40 rfl Try.underlying42 info44 rfl (by decide) (by decide) u20 l [⟨x0, x1, x2, x3, x4⟩] (some ⟨Wb.heap.size, 0, none⟩) 1 1 (fun k => w.heap.size + 1 < k) (fun _ => False) rfl rfl hrc (C_att20 (x := ⟨x0, x1, x2, x3, x4⟩) gx_h) (HKM.out _) (fun _ h => h.elim) (HFR.out _ (by omega)) mWc.below mWc.below.size (by omega) ?_)
          intro v Wd hrWd _ hgWd _
          (try simp only [Act.put, List.setIfInBounds_toArray, List.set_cons_zero, List.set_cons_succ])
          have mWd : MS w #[.string s0, .int .i64 i1, .int .i64 pu, .int .i64 i3, .int .i64 i4, .int .i64 i5, .slice Aq q.length cq] #[.int .i64 x0, .int .i64 x1, .int .i64 x2, .int .i64 x3, .int .i64 x4] Wd := mWc.grown hgWd (fun k e => hrc.1 k e)
          refine ⟨.inr mWd, ?_⟩
          refine wpAnyT_one (i := 6) rfl rfl (by decide +kernel) ?_
          unfold Oper.wp
          go_simp
          refine wpAnyT_done (by decide +kernel) ?_ _
          exact ⟨rfl, _, _, _, _, rfl, hrWd, mWd⟩

        case then4 =>
          unfold Oper.wp
          go_simp
          obtain ⟨Wb, hWb⟩ : ∃ X, Wa.alloc (.cells #[.int .i64 x0, .int .i64 x1, .int .i64 x2, .int .i64 x3, .int .i64 x4] 44) = X := ⟨_, rfl⟩
          have gx_h : Wb.heap[Wa.heap.size]? = some (.cells #[.int .i64 x0, .int .i64 x1, .int .i64 x2, .int .i64 x3, .int .i64 x4] 44 (0, 0)) := by rw [← hWb]; exact heap_alloc_new _ _
          have mWb : MS w #[.string s0, .int .i64 i1, .int .i64 pu, .int .i64 i3, .int .i64 i4, .int .i64 i5, .slice Aq q.length cq] #[.int .i64 x0, .int .i64 x1, .int .i64 x2, .int .i64 x3, .int .i64 x4] Wb := by rw [← hWb]; exact mWa.after (below_alloc (Below.refl _ _) _)
          have sWb : Wa.heap.size < Wb.heap.size := by rw [← hWb]; simp
          have bWb : Below Wa.heap.size Wa Wb := by rw [← hWb]; exact below_alloc (Below.refl _ _) _
          rw [hWb]
          refine ⟨mWb, ?_⟩
          (try simp only [Act.put, List.setIfInBounds_toArray, List.set_cons_zero, List.set_cons_succ])
          refine wpAnyT_one (i := 2) rfl rfl (by decide +kernel) ?_
          refine of_wanted (ops := #[]) rfl (Kd.R_append_rows_step k44 (w0 := w) (W := Wb) w.heap.size rfl (.tmp 18) (.tmp 19) 42 44 (.agg #[.int .i64 0, .int .i64 0, .int .i64 0, .int .i64 0, .int .i64 0]) 40 rfl Try.underlying42 info44 rfl (by decide) (by decide) (.slice (some ⟨W.heap.size, 0, none⟩) 0 0) [] l A1 l.length c1 (fun k => w.heap.size + 1 < k) (fun _ => False) rfl rfl (Kd.R_below (R_made0 k44 44 ga_h (by omega) (by omega)) bWb) (HCL.out _ mWb.below) (HKM.out _) (fun _ h => h.elim) (HFR.out _ (by omega)) mWb.below mWb.below.size (by simp; omega) ?_)
          intro u20 Wc hrWc _ hgWc _
          (try simp only [Act.put, List.setIfInBounds_toArray, List.set_cons_zero, List.set_cons_succ])
          have mWc : MS w #[.string s0, .int .i64 i1, .int .i64 pu, .int .i64 i3, .int .i64 i4, .int .i64 i5, .slice Aq q.length cq] #[.int .i64 x0, .int .i64 x1, .int .i64 x2, .int .i64 x3, .int .i64 x4] Wc := mWb.grown hgWc (fun k e => by cases e; (try dsimp only); omega)
          rw [List.nil_append] at hrWc
          have sWc : Wb.heap.size ≤ Wc.heap.size := hgWc.size
          refine ⟨.inr mWc, ?_⟩
          have gx_c := (hgWc.block _ (blk_lt gx_h) (fun e => by simp only [Value.ownBlock, Option.some.injEq] at e; omega)).trans gx_h
          refine wpAnyT_one (i := 5) rfl rfl (by decide +kernel) ?_
          refine of_wanted (ops := #[]) rfl (Kd.R_append_rows_step k44 (w0 := w) (W := Wc) w.heap.size rfl (.tmp 20) (.tmp 22) 42 44 (.agg #[.int .i64 0, .int .i64 0, .int .i64 0, .int .i64 0, .int .i64 0]) 40 rfl Try.underlying42 info44 rfl (by decide) (by decide) u20 l [⟨x0, x1, x2, x3, x4⟩] (some ⟨Wa.heap.size, 0, none⟩) 1 1 (fun k => w.heap.size + 1 < k) (fun _ => False) rfl rfl hrWc (C_att20 (x := ⟨x0, x1, x2, x3, x4⟩) gx_c) (HKM.out _) (fun _ h => h.elim) (HFR.out _ (by omega)) mWc.below mWc.below.size (by omega) ?_)
          intro v Wd hrWd _ hgWd _
          (try simp only [Act.put, List.setIfInBounds_toArray, List.set_cons_zero, List.set_cons_succ])
          have mWd : MS w #[.string s0, .int .i64 i1, .int .i64 pu, .int .i64 i3, .int .i64 i4, .int .i64 i5, .slice Aq q.length cq] #[.int .i64 x0, .int .i64 x1, .int .i64 x2, .int .i64 x3, .int .i64 x4] Wd := mWc.grown hgWd (fun k e => hrWc.1 k e)
          refine ⟨.inr mWd, ?_⟩
          refine wpAnyT_one (i := 6) rfl rfl (by decide +kernel) ?_
          unfold Oper.wp
          go_simp
          refine wpAnyT_done (by decide +kernel) ?_ _
          exact ⟨rfl, _, _, _, _, rfl, hrWd, mWd⟩

      case first4 =>
        have mW : MS w #[.string s0, .int .i64 i1, .int .i64 pu, .int .i64 i3, .int .i64 i4, .int .i64 i5, .slice Aq q.length cq] #[.int .i64 x0, .int .i64 x1, .int .i64 x2, .int .i64 x3, .int .i64 x4] W2.drew := HMD.out
        obtain ⟨W, hW⟩ : ∃ X, W2.drew = X := ⟨_, rfl⟩
        rw [hW] at mW hsz HFR ⊢
        unfold Oper.wp
        go_simp
        obtain ⟨Wa, hWa⟩ : ∃ X, W.alloc (.cells #[.int .i64 x0, .int .i64 x1, .int .i64 x2, .int .i64 x3, .int .i64 x4] 44) = X := ⟨_, rfl⟩
        have gx_h : Wa.heap[W.heap.size]? = some (.cells #[.int .i64 x0, .int .i64 x1, .int .i64 x2, .int .i64 x3, .int .i64 x4] 44 (0, 0)) := by rw [← hWa]; exact heap_alloc_new _ _
        have mWa : MS w #[.string s0, .int .i64 i1, .int .i64 pu, .int .i64 i3, .int .i64 i4, .int .i64 i5, .slice Aq q.length cq] #[.int .i64 x0, .int .i64 x1, .int .i64 x2, .int .i64 x3, .int .i64 x4] Wa := by rw [← hWa]; exact mW.after (below_alloc (Below.refl _ _) _)
        have sWa : W.heap.size < Wa.heap.size := by rw [← hWa]; simp
        have bWa : Below W.heap.size W Wa := by rw [← hWa]; exact below_alloc (Below.refl _ _) _
        rw [hWa]
        refine ⟨mWa, ?_⟩
        (try simp only [Act.put, List.setIfInBounds_toArray, List.set_cons_zero, List.set_cons_succ])
        refine wpAnyT_one (i := 0) rfl rfl (by decide +kernel) ?_
        unfold Oper.wp
        go_simp
        obtain ⟨Wb, hWb⟩ : ∃ X, Wa.alloc (.cells #[] 44) = X := ⟨_, rfl⟩
        have ga_h : Wb.heap[Wa.heap.size]? = some (.cells #[] 44 (0, 0)) := by rw [← hWb]; exact heap_alloc_new _ _
        have mWb : MS w #[.string s0, .int .i64 i1, .int .i64 pu, .int .i64 i3, .int .i64 i4, .int .i64 i5, .slice Aq q.length cq] #[.int .i64 x0, .int .i64 x1, .int .i64 x2, .int .i64 x3, .int .i64 x4] Wb := by rw [← hWb]; exact mWa.after (below_alloc (Below.refl _ _) _)
        have sWb : Wa.heap.size < Wb.heap.size := by rw [← hWb]; simp
        have bWb : Below Wa.heap.size Wa Wb := by rw [← hWb]; exact below_alloc (Below.refl _ _) _
        rw [hWb]
        refine ⟨mWb, ?_⟩
        (try simp only [Act.put, List.setIfInBounds_toArray, List.set_cons_zero, List.set_cons_succ])
        refine wpAnyT_one (i := 2) rfl rfl (by decide +kernel) ?_
        refine of_wanted (ops := #[]) rfl (Kd.R_append_rows_step k44 (w0 := w) (W := Wb) w.heap.size rfl (.tmp 18) (.tmp 19) 42 44 (.agg #[.int .i64 0, .int .i64 0, .int .i64 0, .int .i64 0, .int .i64 0]) 40 rfl Try.underlying42 info44 rfl (by decide) (by decide) (.slice (some ⟨Wa.heap.size, 0, none⟩) 0 0) [] l A1 l.length c1 (fun k => w.heap.size + 1 < k) (fun _ => False) rfl rfl (R_made0 k44 44 ga_h (by omega) (by omega)) (HCL.out _ mWb.below) (HKM.out _) (fun _ h => h.elim) (HFR.out _ (by omega)) mWb.below mWb.below.size (by simp; omega) ?_)
        intro u20 Wc hrWc _ hgWc _
        (try simp only [Act.put, List.setIfInBounds_toArray, List.set_cons_zero, List.set_cons_succ])
        have mWc : MS w #[.string s0, .int .i64 i1, .int .i64 pu, .int .i64 i3, .int .i64 i4, .int .i64 i5, .slice Aq q.length cq] #[.int .i64 x0, .int .i64 x1, .int .i64 x2, .int .i64 x3, .int .i64 x4] Wc := mWb.grown hgWc (fun k e => by cases e; (try dsimp only); omega)
        rw [List.nil_append] at hrWc
        have sWc : Wb.heap.size ≤ Wc.heap.size := hgWc.size
        refine ⟨.inr mWc, ?_⟩
        have gx_b := (bWb.block _ (blk_lt gx_h)).trans gx_h
        have gx_c := (hgWc.block _ (blk_lt gx_b) (fun e => by simp only [Value.ownBlock, Option.some.injEq] at e; omega)).trans gx_b
        refine wpAnyT_one (i := 5) rfl rfl (by decide +kernel) ?_
        refine of_wanted (ops := #[]) rfl (Kd.R_append_rows_step k44 (w0 := w) (W := Wc) w.heap.size rfl (.tmp 20) (.tmp 22) 42 44 (.agg #[.int .i64 0, .int .i64 0, .int .i64 0, .int .i64 0, .int .i64 0]) 40 rfl Try.underlying42 info44 rfl (by decide) (by decide) u20 l [⟨x0, x1, x2, x3, x4⟩] (some ⟨W.heap.size, 0, none⟩) 1 1 (fun k => w.heap.size + 1 < k) (fun _ => False) rfl rfl hrWc (C_att20 (x := ⟨x0, x1, x2, x3, x4⟩) gx_c) (HKM.out _) (fun _ h => h.elim) (HFR.out _ (by omega)) mWc.below mWc.below.size (by omega) ?_)
        intro v Wd hrWd _ hgWd _
        (try simp only [Act.put, List.setIfInBounds_toArray, List.set_cons_zero, List.set_cons_succ])
        have mWd : MS w #[.string s0, .int .i64 i1, .int .i64 pu, .int .i64 i3, .int .i64 i4, .int .i64 i5, .slice Aq q.length cq] #[.int .i64 x0, .int .i64 x1, .int .i64 x2, .int .i64 x3, .int .i64 x4] Wd := mWc.grown hgWd (fun k e => hrWc.1 k e)
        refine ⟨.inr mWd, ?_⟩
        refine wpAnyT_one (i := 6) rfl rfl (by decide +kernel) ?_
        unfold Oper.wp
        go_simp
        refine wpAnyT_done (by decide +kernel) ?_ _
        exact ⟨rfl, _, _, _, _, rfl, hrWd, mWd⟩

    case post =>
      rintro e a' W3 ⟨rfl, g0, gx, u20, v, rfl, hrv, hm3⟩
      obtain ⟨us, m, c, er, hA1⟩ : ∃ us m c er, audV i1 pu i3 i4 i5 q l = (us, m, c, er) := ⟨_, _, _, _, rfl⟩
      obtain ⟨us', m', c', er', hA2⟩ : ∃ us m c er, audV i1 pu i3 i4 i5 q (l ++ [⟨x0, x1, x2, x3, x4⟩]) = (us, m, c, er) := ⟨_, _, _, _, rfl⟩
      have hF1 : degree_Audit.f 0 s0 i1 pu i3 i4 i5 q l = some (us, m, c, er) := by unfold degree_Audit.f; rw [if_pos (by omega), hA1]
      have hF2 : degree_Audit.f 0 s0 i1 pu i3 i4 i5 q (l ++ [⟨x0, x1, x2, x3, x4⟩]) = some (us', m', c', er') := by unfold degree_Audit.f; rw [if_pos (by simp; omega), hA2]
      have hMORE : er = 0 → er' = 0 → m' ≤ m ∧ m - m' ≤ x4 * pu ∧ alV i1 pu i3 i4 i5 q (l ++ [⟨x0, x1, x2, x3, x4⟩]) us = 0 ∧ 0 ≤ m' ∧ m ≤ 640000 ∧ 0 ≤ x4 * pu ∧ x4 * pu ≤ 240 := fun h1 h2 => by
        have e1 : askV i1 pu i3 i4 i5 q l = 0 := by
          by_cases ha : askV i1 pu i3 i4 i5 q l = 0
          · exact ha
          · rw [aud_bad ha] at hA1; cases hA1; exact absurd h1 ha
        have e2 : askV i1 pu i3 i4 i5 q (l ++ [⟨x0, x1, x2, x3, x4⟩]) = 0 := by
          by_cases ha : askV i1 pu i3 i4 i5 q (l ++ [⟨x0, x1, x2, x3, x4⟩]) = 0
          · exact ha
          · rw [aud_bad ha] at hA2; cases hA2; exact absurd h2 ha
        exact aud_more (x := ⟨x0, x1, x2, x3, x4⟩) (by omega) e1 e2 hA1 hA2
      obtain ⟨l2, hl2⟩ : ∃ l2 : List S44, l ++ [⟨x0, x1, x2, x3, x4⟩] = l2 := ⟨_, rfl⟩
      rw [hl2] at hrv hF2 hMORE
      obtain ⟨Av, cv, rfl⟩ := Kd.R_slice hrv
      have hrd := Kd.R_reads' hrv
      have HV := Aside0.mk (And.intro hrd.2.1 hrd.2.2)
      have HF1 := Aside0.mk hF1
      have HF2 := Aside0.mk hF2
      have HMR := Aside0.mk hMORE
      have HM3 := Aside0.mk hm3
      have p0 := (blk_cell hm3.hp 0).trans (show _ = some _ from rfl)
      have p1 := (blk_cell hm3.hp 1).trans (show _ = some _ from rfl)
      have p2 := (blk_cell hm3.hp 2).trans (show _ = some _ from rfl)
      have p3 := (blk_cell hm3.hp 3).trans (show _ = some _ from rfl)
      have p4 := (blk_cell hm3.hp 4).trans (show _ = some _ from rfl)
      have p5 := (blk_cell hm3.hp 5).trans (show _ = some _ from rfl)
      have p6 := (blk_cell hm3.hp 6).trans (show _ = some _ from rfl)
      clear hA1 hA2 hF1 hF2 hMORE hrv hrd hm3 hl2 HMD HM2
      go_wp2_with fail
      refine (degree_Audit.calls 0 s0 i1 pu i3 i4 i5 Aq cq q A1 c1 l us m c er W3 (Kd.C_below HQ.out HM3.out.below) hcq (Kd.C_below HL.out HM3.out.below) hcl HF1.out).mono ?_
      rintro e W4 ⟨v0, v2, rfl, hr0, hr2, hb4⟩
      obtain ⟨Au, cu, rfl⟩ := Kd.R_slice hr0
      obtain ⟨Ac, cc, rfl⟩ := Kd.R_slice hr2
      have hm4 := HM3.out.after hb4
      have HM4 := Aside0.mk hm4
      have HV4 := Aside0.mk (And.intro HV.out.1 (Kd.C_below HV.out.2 hb4))
      have hus := Kd.R_reads' hr0
      have HUS := Aside0.mk (And.intro hus.2.1 hus.2.2)
      have l0 := blk_lt hm4.hp
      clear p0 p1 p2 p3 p4 p5 p6 hr0 hr2 hb4 HM3 HV HF1 hus
      have p0 := (blk_cell hm4.hp 0).trans (show _ = some _ from rfl)
      have p1 := (blk_cell hm4.hp 1).trans (show _ = some _ from rfl)
      have p2 := (blk_cell hm4.hp 2).trans (show _ = some _ from rfl)
      have p3 := (blk_cell hm4.hp 3).trans (show _ = some _ from rfl)
      have p4 := (blk_cell hm4.hp 4).trans (show _ = some _ from rfl)
      have p5 := (blk_cell hm4.hp 5).trans (show _ = some _ from rfl)
      have p6 := (blk_cell hm4.hp 6).trans (show _ = some _ from rfl)
      clear hm4
      go_wp2_with fail
      obtain ⟨ga, hga⟩ : ∃ g, W4.heap.size = g := ⟨_, rfl⟩
      have hM5 := HM4.out.after (below_alloc (Below.refl _ _) (.cells #[.slice Au us.length cu, .int .i64 m, .slice Ac c.length cc] 48))
      have hA5 : (W4.alloc (.cells #[.slice Au us.length cu, .int .i64 m, .slice Ac c.length cc] 48)).heap[ga]? = some (.cells #[.slice Au us.length cu, .int .i64 m, .slice Ac c.length cc] 48 (0, 0)) := by rw [← hga]; exact heap_alloc_new _ _
      have hV5 := Kd.C_alloc HV4.out.2 (.cells #[.slice Au us.length cu, .int .i64 m, .slice Ac c.length cc] 48)
      have hU5 := Kd.C_alloc HUS.out.2 (.cells #[.slice Au us.length cu, .int .i64 m, .slice Ac c.length cc] 48)
      rw [hga]
      obtain ⟨W5, hW5⟩ : ∃ X, W4.alloc (.cells #[.slice Au us.length cu, .int .i64 m, .slice Ac c.length cc] 48) = X := ⟨_, rfl⟩
      rw [hW5] at hM5 hA5 hV5 hU5 ⊢
      clear hW5 p0 p1 p2 p3 p4 p5 p6 l0 hga HM4
      refine (degree_Audit.calls 0 s0 i1 pu i3 i4 i5 Aq cq q Av cv l2 us' m' c' er' W5 (Kd.C_below HQ.out hM5.below) hcq hV5 HV4.out.1 HF2.out).mono ?_
      rintro e W6 ⟨v0', v2', rfl, hr0', hr2', hb6⟩
      obtain ⟨Au', cu', rfl⟩ := Kd.R_slice hr0'
      obtain ⟨Ac', cc', rfl⟩ := Kd.R_slice hr2'
      have hm6 := hM5.after hb6
      have hA6 := (hb6.block _ (blk_lt hA5)).trans hA5
      have HU6 := Aside0.mk (Kd.C_below hU5 hb6)
      have HV6 := Aside0.mk (Kd.C_below hV5 hb6)
      have HM6 := Aside0.mk hm6
      have HA6 := Aside0.mk hA6
      have l0 := blk_lt hm6.hp
      have l1 := blk_lt hm6.hx
      have la := blk_lt hA6
      have a0 := (blk_cell hA6 0).trans (show _ = some _ from rfl)
      have a1 := (blk_cell hA6 1).trans (show _ = some _ from rfl)
      have a2 := (blk_cell hA6 2).trans (show _ = some _ from rfl)
      have y4 := (blk_cell hm6.hx 4).trans (show _ = some _ from rfl)
      have p0 := (blk_cell hm6.hp 0).trans (show _ = some _ from rfl)
      have p1 := (blk_cell hm6.hp 1).trans (show _ = some _ from rfl)
      have p2 := (blk_cell hm6.hp 2).trans (show _ = some _ from rfl)
      have p3 := (blk_cell hm6.hp 3).trans (show _ = some _ from rfl)
      have p4 := (blk_cell hm6.hp 4).trans (show _ = some _ from rfl)
      have p5 := (blk_cell hm6.hp 5).trans (show _ = some _ from rfl)
      have p6 := (blk_cell hm6.hp 6).trans (show _ = some _ from rfl)
      clear hM5 hA5 hV5 hU5 hr0' hr2' hb6 hm6 hA6 HF2
      by_cases h0 : er = 0
      case neg =>
        have b0 : (er != 0) = true := by simp [h0]
        clear h0
        go_wp2_with fail
        go_ret
        exact ⟨rfl, HM6.out.below.trans (below_alloc (Below.refl _ _) _ |>.mono HM6.out.below.size)⟩
      by_cases h1 : er' = 0
      case neg =>
        subst h0
        have b0 : (er' != 0) = true := by simp [h1]
        clear h1
        go_wp2_with fail
        go_ret
        exact ⟨rfl, HM6.out.below.trans (below_alloc (Below.refl _ _) _ |>.mono HM6.out.below.size)⟩
      subst h0
      subst h1
      obtain ⟨r1, r2, r3, r4, r5, r6, r7⟩ := HMR.out rfl rfl
      have hw1 : wrap64 (m - m') = m - m' := by unfold wrap64; omega
      have hw2 : wrap64 (x4 * pu) = x4 * pu := by unfold wrap64; omega
      have d1 : decide (m' ≤ m) = true := decide_eq_true r1
      have d2 : decide (wrap64 (m - m') ≤ wrap64 (x4 * pu)) = true := by rw [hw1, hw2]; exact decide_eq_true r2
      have HR3 := Aside0.mk r3
      clear HMR hw1 hw2 r2 r3 r4 r5 r6 r7 r1
      go_wp2_with fail
      have hM7 := HM6.out.after (below_alloc (Below.refl _ _) (.cells #[.slice Au' us'.length cu', .int .i64 m', .slice Ac' c'.length cc'] 48))
      refine (proof_Allowed.calls s0 i1 pu i3 i4 i5 Aq cq q Av cv l2 Au cu us 0 _ (Kd.C_below HQ.out hM7.below) hcq (Kd.C_alloc HV6.out _) HV4.out.1 (Kd.C_alloc HU6.out _) HUS.out.1 (by unfold proof_Allowed.f; rw [HR3.out])).mono ?_
      rintro e W8 ⟨rfl, hb8⟩
      have hfin := below_step hM7.below hb8
      go_wp2_with fail
      go_ret
      exact ⟨rfl, hfin⟩
end Go.Proofs.Ytadeidhefjifaaa.Px
end
section
set_option linter.unusedVariables false
set_option linter.unusedSimpArgs false
set_option linter.constructorNameAsVariable false
set_option maxRecDepth 100000
namespace Go.Proofs.Ytadeidhefjifaaa.Px
open Go.RowKit Go.Deep Go.ChangeShapes Go.WideShapes Go.Proofs.YtadeidhefjifaaaW.PrintWords Go.Proofs.YtadeidhefjifaaaW.PrintLast Go.Proofs.YtadeidhefjifaaaW.PrintMore
section
variable {H : Type} {enc : TypeId × Value → H} {base : Nat} {spare : Nat → Bool} {held : Bool}
theorem open_att {w : World} {r : Reach} {b0 : Nat} {v : Value} {D : DataW H} {p : List MemPlace} (hv : Value.okWide Try.prog w r b0 44 v) (h : DataW.Trod enc Try.prog w base spare held 44 v D p) :
    ∃ n0 n1 n2 n3 n4 : Int, v = .agg #[.int .i64 n0, .int .i64 n1, .int .i64 n2, .int .i64 n3, .int .i64 n4] := by
  obtain ⟨cs, rfl, ⟨n0, n1, n2, n3, n4⟩, hK⟩ := open_struct Try.underlying44 opens_att hv h
  obtain rfl := k44_open hK
  exact ⟨n0, n1, n2, n3, n4, rfl⟩
end
end Go.Proofs.Ytadeidhefjifaaa.Px
end
