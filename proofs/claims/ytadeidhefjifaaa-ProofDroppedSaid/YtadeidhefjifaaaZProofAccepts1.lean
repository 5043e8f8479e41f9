/- Parts of the proof of ProofAccepts, put together from several texts (words that the printing program wrote for this claim, walks, plain facts): the declarations that this law needs. -/
import Derived.Test.YtadeidhefjifaaaZProofAccepts0
import Derived.ArgAppend
import Derived.Below
import Derived.BigQuiet
import Derived.Deep.AppendLies
import Derived.Deep.CutBlock
import Derived.Deep.DeepCutAuto
import Derived.Deep.Draws
import Derived.Deep.LoopGhost
import Derived.Deep.OwnRows
import Derived.Deep.QuietTactic
import Derived.Deep.RegionHeld3
import Derived.KernelRfl
import Derived.Laws.BitsLemmas
import Derived.Laws.BytesArg
import Derived.Laws.EntriesVeiled
import Derived.Laws.IdiomCopy
import Derived.Laws.MakeOwn
import Derived.Laws.OwnMore
import Derived.Laws.Rows
import Derived.Laws.Slices
import Derived.Lib.AppendStr
import Derived.Lib.ConvBytes
import Derived.Maps.AppendAt
import Derived.OrdersHeld
import Derived.OwnWalk
import Derived.RowKit
import Derived.RowKit3
import Derived.Tactics
import Derived.Test.YtadeidhefjifaaaProg
import Derived.WalkKit
import Derived.WideLaws
section
namespace Go.Proofs.Ytadeidhefjifaaa.Px
open Go.RowKit Go.Proofs.YtadeidhefjifaaaW.PrintWords Go.Proofs.YtadeidhefjifaaaW.PrintLast Go.Proofs.YtadeidhefjifaaaW.PrintMore
attribute [local go_sem] max2_int min2_int max_two min_two max_three min_three max_four min_four   -- for this text's walks alone
set_option linter.unusedVariables false
set_option linter.unusedSimpArgs false
def errW : Option Int → Value
  | none => .nilIface
  | some c => .iface 0 (.int .i64 c)
theorem errW_none : errW none = .nilIface := rfl
theorem errW_some (c : Int) : errW (some c) = .iface 0 (.int .i64 c) := rfl
theorem info3 : (Try.prog.info? 3).map (fun i => (i.zero, i.size, i.bytes)) = some (some (.int .i64 0), 1, 8) := by kernel_rfl
theorem info4 : (Try.prog.info? 4).map (fun i => (i.zero, i.size, i.bytes)) = some (some (.bool false), 1, 1) := by kernel_rfl
theorem info57 : (Try.prog.info? 57).map (fun i => (i.zero, i.size, i.bytes)) = some (some (.agg #[(.int .i64 0), (.int .i64 0), (.int .i64 0)]), 3, 24) := by kernel_rfl
theorem info61 : (Try.prog.info? 61).map (fun i => (i.zero, i.size, i.bytes)) = some (some (.agg #[(.int .i64 0), (.int .i64 0), (.int .i64 0)]), 3, 24) := by kernel_rfl
structure S61 where
  f0 : Int
  f1 : Int
  f2 : Int
def z61 : S61 := ⟨(0 : Int), (0 : Int), (0 : Int)⟩
def k61 : Kd S61 := Kd.iso (Kd.pair (Kd.int .i64) (Kd.pair (Kd.int .i64) (Kd.int .i64))) (fun x : S61 => (x.f0, x.f1, x.f2))
theorem k61_open {w : World} {x : S61} {cs : List Value} (h : k61.K w x cs) : cs = [.int .i64 x.f0, .int .i64 x.f1, .int .i64 x.f2] := by
  obtain ⟨_, _, rfl, rfl, ⟨_, _, rfl, rfl, rfl⟩⟩ := h
  exact rfl
theorem k61_mkM (w : World) (base : Nat) (ok : Nat → Prop) (x : S61)  : k61.M w base ok x [.int .i64 x.f0, .int .i64 x.f1, .int .i64 x.f2] := ⟨[.int .i64 x.f0], [.int .i64 x.f1, .int .i64 x.f2], rfl, rfl, ⟨[.int .i64 x.f1], [.int .i64 x.f2], rfl, rfl, rfl⟩⟩
def rd_T61 (xs : List S61) (i : Int) : S61 := xs.getD i.toNat z61
theorem at_T61 {w : World} {A : Option Addr} {n : Nat} {xs : List S61} (h : Kd.C k61 w A n xs) (i : Int) (h0 : 0 ≤ i) (h1 : i < n) : ∃ ad , A = some ad ∧ w.cell? (ad.add (i.toNat * 3)) = some (.int .i64 (rd_T61 xs i).f0) ∧ w.cell? ⟨(ad.add (i.toNat * 3)).block, (ad.add (i.toNat * 3)).off + 1, none⟩ = some (.int .i64 (rd_T61 xs i).f1) ∧ w.cell? ⟨(ad.add (i.toNat * 3)).block, (ad.add (i.toNat * 3)).off + 2, none⟩ = some (.int .i64 (rd_T61 xs i).f2) := by
  obtain ⟨ad, c, e, _, hK, hc0⟩ := Kd.C_get h z61 i h0 h1
  have hc : ∀ j u, c[j]? = some u → w.cell? (ad.add (i.toNat * 3 + j)) = some u := hc0
  obtain rfl := k61_open hK
  exact ⟨ad, e, hc 0 _ rfl, by rw [← add_field _ _ 1 (by omega)]; exact hc 1 _ rfl, by rw [← add_field _ _ 2 (by omega)]; exact hc 2 _ rfl⟩
structure S92 where
  f0 : ByteArray
  f1 : Int
  f2 : Int
  f3 : Bool
  f4 : (List ByteArray)
  f5 : (List Int)
def z92 : S92 := ⟨(⟨#[]⟩ : ByteArray), (0 : Int), (0 : Int), false, ([] : List ByteArray), ([] : List Int)⟩
def k92 : Kd S92 := Kd.iso (Kd.pair Kd.string (Kd.pair (Kd.int .i64) (Kd.pair (Kd.int .i64) (Kd.pair Kd.bool (Kd.pair (Kd.slice 9 Kd.string) (Kd.slice 3 (Kd.int .i64))))))) (fun x : S92 => (x.f0, x.f1, x.f2, x.f3, x.f4, x.f5))
theorem k92_open {w : World} {x : S92} {cs : List Value} (h : k92.K w x cs) : ∃ A4 c4 A5 c5, cs = [.string x.f0, .int .i64 x.f1, .int .i64 x.f2, .bool x.f3, .slice A4 x.f4.length c4, .slice A5 x.f5.length c5] ∧ x.f4.length ≤ c4 ∧ Kd.string.C w A4 x.f4.length x.f4 ∧ x.f5.length ≤ c5 ∧ (Kd.int .i64).C w A5 x.f5.length x.f5 := by
  obtain ⟨_, _, rfl, rfl, ⟨_, _, rfl, rfl, ⟨_, _, rfl, rfl, ⟨_, _, rfl, rfl, ⟨_, _, rfl, ⟨A4, c4, rfl, l4, g4⟩, ⟨A5, c5, rfl, l5, g5⟩⟩⟩⟩⟩⟩ := h
  exact ⟨A4, c4, A5, c5, rfl, l4, g4, l5, g5⟩
theorem k92_mk (w : World) (x : S92) {A4 : Option Addr} {c4 : Nat} (l4 : x.f4.length ≤ c4) (g4 : Kd.string.C w A4 x.f4.length x.f4) {A5 : Option Addr} {c5 : Nat} (l5 : x.f5.length ≤ c5) (g5 : (Kd.int .i64).C w A5 x.f5.length x.f5) : k92.K w x [.string x.f0, .int .i64 x.f1, .int .i64 x.f2, .bool x.f3, .slice A4 x.f4.length c4, .slice A5 x.f5.length c5] := ⟨[.string x.f0], [.int .i64 x.f1, .int .i64 x.f2, .bool x.f3, .slice A4 x.f4.length c4, .slice A5 x.f5.length c5], rfl, rfl, ⟨[.int .i64 x.f1], [.int .i64 x.f2, .bool x.f3, .slice A4 x.f4.length c4, .slice A5 x.f5.length c5], rfl, rfl, ⟨[.int .i64 x.f2], [.bool x.f3, .slice A4 x.f4.length c4, .slice A5 x.f5.length c5], rfl, rfl, ⟨[.bool x.f3], [.slice A4 x.f4.length c4, .slice A5 x.f5.length c5], rfl, rfl, ⟨[.slice A4 x.f4.length c4], [.slice A5 x.f5.length c5], rfl, ⟨A4, c4, rfl, l4, g4⟩, ⟨A5, c5, rfl, l5, g5⟩⟩⟩⟩⟩⟩
theorem k92_mkF (W : World) (ok : Nat → Prop) (x : S92) {A4 : Option Addr} {c4 : Nat} (l4 : x.f4.length ≤ c4) (g4 : Kd.F Kd.string W ok A4 x.f4.length x.f4) {A5 : Option Addr} {c5 : Nat} (l5 : x.f5.length ≤ c5) (g5 : Kd.F (Kd.int .i64) W ok A5 x.f5.length x.f5) : Kd.FK k92 W ok x [.string x.f0, .int .i64 x.f1, .int .i64 x.f2, .bool x.f3, .slice A4 x.f4.length c4, .slice A5 x.f5.length c5] := fun W2 hW => k92_mk W2 x l4 (g4 W2 hW) l5 (g5 W2 hW)
def rd_T92 (xs : List S92) (i : Int) : S92 := xs.getD i.toNat z92
theorem at_T92 {w : World} {A : Option Addr} {n : Nat} {xs : List S92} (h : Kd.C k92 w A n xs) (i : Int) (h0 : 0 ≤ i) (h1 : i < n) : ∃ ad A4 c4 A5 c5, A = some ad ∧ w.cell? (ad.add (i.toNat * 6)) = some (.string (rd_T92 xs i).f0) ∧ w.cell? ⟨(ad.add (i.toNat * 6)).block, (ad.add (i.toNat * 6)).off + 1, none⟩ = some (.int .i64 (rd_T92 xs i).f1) ∧ w.cell? ⟨(ad.add (i.toNat * 6)).block, (ad.add (i.toNat * 6)).off + 2, none⟩ = some (.int .i64 (rd_T92 xs i).f2) ∧ w.cell? ⟨(ad.add (i.toNat * 6)).block, (ad.add (i.toNat * 6)).off + 3, none⟩ = some (.bool (rd_T92 xs i).f3) ∧ w.cell? ⟨(ad.add (i.toNat * 6)).block, (ad.add (i.toNat * 6)).off + 4, none⟩ = some (.slice A4 (rd_T92 xs i).f4.length c4) ∧ w.cell? ⟨(ad.add (i.toNat * 6)).block, (ad.add (i.toNat * 6)).off + 5, none⟩ = some (.slice A5 (rd_T92 xs i).f5.length c5) ∧ (rd_T92 xs i).f4.length ≤ c4 ∧ Kd.string.C w A4 (rd_T92 xs i).f4.length (rd_T92 xs i).f4 ∧ (rd_T92 xs i).f5.length ≤ c5 ∧ (Kd.int .i64).C w A5 (rd_T92 xs i).f5.length (rd_T92 xs i).f5 := by
  obtain ⟨ad, c, e, _, hK, hc0⟩ := Kd.C_get h z92 i h0 h1
  have hc : ∀ j u, c[j]? = some u → w.cell? (ad.add (i.toNat * 6 + j)) = some u := hc0
  obtain ⟨A4, c4, A5, c5, rfl, l4, g4, l5, g5⟩ := k92_open hK
  exact ⟨ad, A4, c4, A5, c5, e, hc 0 _ rfl, by rw [← add_field _ _ 1 (by omega)]; exact hc 1 _ rfl, by rw [← add_field _ _ 2 (by omega)]; exact hc 2 _ rfl, by rw [← add_field _ _ 3 (by omega)]; exact hc 3 _ rfl, by rw [← add_field _ _ 4 (by omega)]; exact hc 4 _ rfl, by rw [← add_field _ _ 5 (by omega)]; exact hc 5 _ rfl, l4, g4, l5, g5⟩
structure S44 where
  f0 : Int
  f1 : Int
  f2 : Int
  f3 : Int
  f4 : Int
def z44 : S44 := ⟨(0 : Int), (0 : Int), (0 : Int), (0 : Int), (0 : Int)⟩
def k44 : Kd S44 := Kd.iso (Kd.pair (Kd.int .i64) (Kd.pair (Kd.int .i64) (Kd.pair (Kd.int .i64) (Kd.pair (Kd.int .i64) (Kd.int .i64))))) (fun x : S44 => (x.f0, x.f1, x.f2, x.f3, x.f4))
theorem k44_open {w : World} {x : S44} {cs : List Value} (h : k44.K w x cs) : cs = [.int .i64 x.f0, .int .i64 x.f1, .int .i64 x.f2, .int .i64 x.f3, .int .i64 x.f4] := by
  obtain ⟨_, _, rfl, rfl, ⟨_, _, rfl, rfl, ⟨_, _, rfl, rfl, ⟨_, _, rfl, rfl, rfl⟩⟩⟩⟩ := h
  exact rfl
theorem k44_mk (w : World) (x : S44)  : k44.K w x [.int .i64 x.f0, .int .i64 x.f1, .int .i64 x.f2, .int .i64 x.f3, .int .i64 x.f4] := ⟨[.int .i64 x.f0], [.int .i64 x.f1, .int .i64 x.f2, .int .i64 x.f3, .int .i64 x.f4], rfl, rfl, ⟨[.int .i64 x.f1], [.int .i64 x.f2, .int .i64 x.f3, .int .i64 x.f4], rfl, rfl, ⟨[.int .i64 x.f2], [.int .i64 x.f3, .int .i64 x.f4], rfl, rfl, ⟨[.int .i64 x.f3], [.int .i64 x.f4], rfl, rfl, rfl⟩⟩⟩⟩
theorem k44_mkM (w : World) (base : Nat) (ok : Nat → Prop) (x : S44)  : k44.M w base ok x [.int .i64 x.f0, .int .i64 x.f1, .int .i64 x.f2, .int .i64 x.f3, .int .i64 x.f4] := ⟨[.int .i64 x.f0], [.int .i64 x.f1, .int .i64 x.f2, .int .i64 x.f3, .int .i64 x.f4], rfl, rfl, ⟨[.int .i64 x.f1], [.int .i64 x.f2, .int .i64 x.f3, .int .i64 x.f4], rfl, rfl, ⟨[.int .i64 x.f2], [.int .i64 x.f3, .int .i64 x.f4], rfl, rfl, ⟨[.int .i64 x.f3], [.int .i64 x.f4], rfl, rfl, rfl⟩⟩⟩⟩
def rd_T44 (xs : List S44) (i : Int) : S44 := xs.getD i.toNat z44
theorem at_T44 {w : World} {A : Option Addr} {n : Nat} {xs : List S44} (h : Kd.C k44 w A n xs) (i : Int) (h0 : 0 ≤ i) (h1 : i < n) : ∃ ad , A = some ad ∧ w.cell? (ad.add (i.toNat * 5)) = some (.int .i64 (rd_T44 xs i).f0) ∧ w.cell? ⟨(ad.add (i.toNat * 5)).block, (ad.add (i.toNat * 5)).off + 1, none⟩ = some (.int .i64 (rd_T44 xs i).f1) ∧ w.cell? ⟨(ad.add (i.toNat * 5)).block, (ad.add (i.toNat * 5)).off + 2, none⟩ = some (.int .i64 (rd_T44 xs i).f2) ∧ w.cell? ⟨(ad.add (i.toNat * 5)).block, (ad.add (i.toNat * 5)).off + 3, none⟩ = some (.int .i64 (rd_T44 xs i).f3) ∧ w.cell? ⟨(ad.add (i.toNat * 5)).block, (ad.add (i.toNat * 5)).off + 4, none⟩ = some (.int .i64 (rd_T44 xs i).f4) := by
  obtain ⟨ad, c, e, _, hK, hc0⟩ := Kd.C_get h z44 i h0 h1
  have hc : ∀ j u, c[j]? = some u → w.cell? (ad.add (i.toNat * 5 + j)) = some u := hc0
  obtain rfl := k44_open hK
  exact ⟨ad, e, hc 0 _ rfl, by rw [← add_field _ _ 1 (by omega)]; exact hc 1 _ rfl, by rw [← add_field _ _ 2 (by omega)]; exact hc 2 _ rfl, by rw [← add_field _ _ 3 (by omega)]; exact hc 3 _ rfl, by rw [← add_field _ _ 4 (by omega)]; exact hc 4 _ rfl⟩
structure S57 where
  f0 : Int
  f1 : Int
  f2 : Int
def z57 : S57 := ⟨(0 : Int), (0 : Int), (0 : Int)⟩
def k57 : Kd S57 := Kd.iso (Kd.pair (Kd.int .i64) (Kd.pair (Kd.int .i64) (Kd.int .i64))) (fun x : S57 => (x.f0, x.f1, x.f2))
theorem k57_open {w : World} {x : S57} {cs : List Value} (h : k57.K w x cs) : cs = [.int .i64 x.f0, .int .i64 x.f1, .int .i64 x.f2] := by
  obtain ⟨_, _, rfl, rfl, ⟨_, _, rfl, rfl, rfl⟩⟩ := h
  exact rfl
theorem k57_mkM (w : World) (base : Nat) (ok : Nat → Prop) (x : S57)  : k57.M w base ok x [.int .i64 x.f0, .int .i64 x.f1, .int .i64 x.f2] := ⟨[.int .i64 x.f0], [.int .i64 x.f1, .int .i64 x.f2], rfl, rfl, ⟨[.int .i64 x.f1], [.int .i64 x.f2], rfl, rfl, rfl⟩⟩
def rd_T57 (xs : List S57) (i : Int) : S57 := xs.getD i.toNat z57
theorem at_T57 {w : World} {A : Option Addr} {n : Nat} {xs : List S57} (h : Kd.C k57 w A n xs) (i : Int) (h0 : 0 ≤ i) (h1 : i < n) : ∃ ad , A = some ad ∧ w.cell? (ad.add (i.toNat * 3)) = some (.int .i64 (rd_T57 xs i).f0) ∧ w.cell? ⟨(ad.add (i.toNat * 3)).block, (ad.add (i.toNat * 3)).off + 1, none⟩ = some (.int .i64 (rd_T57 xs i).f1) ∧ w.cell? ⟨(ad.add (i.toNat * 3)).block, (ad.add (i.toNat * 3)).off + 2, none⟩ = some (.int .i64 (rd_T57 xs i).f2) := by
  obtain ⟨ad, c, e, _, hK, hc0⟩ := Kd.C_get h z57 i h0 h1
  have hc : ∀ j u, c[j]? = some u → w.cell? (ad.add (i.toNat * 3 + j)) = some u := hc0
  obtain rfl := k57_open hK
  exact ⟨ad, e, hc 0 _ rfl, by rw [← add_field _ _ 1 (by omega)]; exact hc 1 _ rfl, by rw [← add_field _ _ 2 (by omega)]; exact hc 2 _ rfl⟩
end Go.Proofs.Ytadeidhefjifaaa.Px
end
section
namespace Go.Proofs.Ytadeidhefjifaaa.Px
set_option linter.unusedVariables false
set_option linter.unusedSimpArgs false
open Go.RowKit Go.Proofs.YtadeidhefjifaaaW.PrintWords Go.Proofs.YtadeidhefjifaaaW.PrintLast Go.Proofs.YtadeidhefjifaaaW.PrintMore
theorem size_calls (n : Int) (h0 : -1073741824 ≤ n) (h1 : n ≤ 1073741824) (w : World) : Calls Try.prog 107 #[.int .i64 n] w fun e w' => e = .returned (.int .u64 n.natAbs) ∧ w' = w := by
  by_cases h : n < 0
  · have b : decide (n < 0) = true := decide_eq_true h
    go_enter Try.func107, Try.ntmps107
    go_wp2
    go_ret
    refine ⟨?_, rfl⟩
    show Ending.returned (.int .u64 (IntKind.u64.wrap (-IntKind.u64.wrap n))) = _
    rw [show IntKind.u64.wrap (-IntKind.u64.wrap n) = (n.natAbs : Int) from by simp [IntKind.wrap, IntKind.bits, IntKind.signed]; omega]
  · have b : decide (n < 0) = false := decide_eq_false h
    go_enter Try.func107, Try.ntmps107
    go_wp2
    go_ret
    refine ⟨?_, rfl⟩
    show Ending.returned (.int .u64 n) = _
    rw [show (n.natAbs : Int) = n by omega]
set_option maxRecDepth 100000 in
theorem gcd_calls (B : Nat) : ∀ (k y x : Nat) (w : World), y < k → x < 18446744073709551616 → y < 18446744073709551616 → w.cell? ⟨B, 0, none⟩ = some (.func (.func 106) #[] #[.pointer (some ⟨B, 0, none⟩)]) →
    Calls Try.prog 106 #[.int .u64 x, .int .u64 y, .pointer (some ⟨B, 0, none⟩)] w fun e w' => e = .returned (.int .u64 (Nat.gcd y x : Nat)) ∧ ∃ m, w' = w.drewN m := by
  intro k
  induction k with
  | zero => intro y x w h; omega
  | succ k ih =>
    intro y x w hk hx hy hc
    by_cases h : y = 0
    · subst h
      have b : (((0 : Nat) : Int) == 0) = true := rfl
      go_enter Try.func106, Try.ntmps106
      go_wp2
      go_ret
      exact ⟨by simp, 0, rfl⟩
    · have b : ((y : Int) == 0) = false := beq_eq_false_iff_ne.mpr (by omega)
      have hcall : ∀ n, Calls Try.prog 106 #[.int .u64 y, .int .u64 ((x : Int) % (y : Int)), .pointer (some ⟨B, 0, none⟩)] (w.drewN n) fun e w' => e = .returned (.int .u64 (Nat.gcd y x : Nat)) ∧ ∃ m, w' = (w.drewN n).drewN m := fun n => by
        have := ih (x % y) y (w.drewN n) (by have := Nat.mod_lt x (show 0 < y by omega); omega) hy (by have := Nat.mod_lt x (show 0 < y by omega); omega) hc
        rw [← Nat.gcd_rec] at this
        exact this
      have HC := Aside0.mk hcall
      clear hcall ih
      go_enter Try.func106, Try.ntmps106
      go_wp2
      go_quiet ((go_at_call 106; exact Calls.quiet_of (HC.out _)))
      go_wp2
      go_ret
      exact ⟨rfl, _, rfl⟩
set_option maxHeartbeats 1000000 in
set_option maxRecDepth 100000 in
theorem common_calls (a b : Int) (a0 : -1073741824 ≤ a) (a1 : a ≤ 1073741824) (b0 : -1073741824 ≤ b) (b1 : b ≤ 1073741824) (w : World) :
    Calls Try.prog 96 #[.int .i64 a, .int .i64 b] w fun e w' => e = .returned (.int .u64 (Nat.gcd b.natAbs a.natAbs : Nat)) ∧ Below w.heap.size w w' := by
  have hb : ∀ o, Below w.heap.size w (w.alloc o) := fun o => below_alloc (Below.refl _ _) o
  have hs1 : ∀ W, Calls Try.prog 107 #[.int .i64 a] W fun e w' => e = .returned (.int .u64 a.natAbs) ∧ w' = W := fun W => size_calls a a0 a1 W
  have hs2 : ∀ W, Calls Try.prog 107 #[.int .i64 b] W fun e w' => e = .returned (.int .u64 b.natAbs) ∧ w' = W := fun W => size_calls b b0 b1 W
  have HR := Aside0.mk (show a.natAbs < 18446744073709551616 ∧ b.natAbs < 18446744073709551616 by omega)
  have HS1 := Aside0.mk hs1
  have HS2 := Aside0.mk hs2
  have HB := Aside0.mk hb
  clear hs1 hs2 hb a0 a1 b0 b1
  go_enter Try.func96, Try.ntmps96
  go_wp2
  have hc1 : (w.alloc (Obj.cells #[Value.func (Fn.func 106) #[] #[Value.pointer (some ⟨w.heap.size, 0, none⟩)]] 132)).cell? ⟨w.heap.size, 0, none⟩ = some (.func (.func 106) #[] #[.pointer (some ⟨w.heap.size, 0, none⟩)]) := by go_simp
  have hb1 := HB.out (Obj.cells #[Value.func (Fn.func 106) #[] #[Value.pointer (some ⟨w.heap.size, 0, none⟩)]] 132)
  obtain ⟨W, hW⟩ : ∃ W, w.alloc (Obj.cells #[Value.func (Fn.func 106) #[] #[Value.pointer (some ⟨w.heap.size, 0, none⟩)]] 132) = W := ⟨_, rfl⟩
  rw [hW] at hc1 hb1 ⊢
  have hg : ∀ n, Calls Try.prog 106 #[.int .u64 a.natAbs, .int .u64 b.natAbs, .pointer (some ⟨w.heap.size, 0, none⟩)] (W.drewN n) fun e w' => e = .returned (.int .u64 (Nat.gcd b.natAbs a.natAbs : Nat)) ∧ ∃ m, w' = (W.drewN n).drewN m :=
    fun n => gcd_calls w.heap.size _ b.natAbs a.natAbs (W.drewN n) (Nat.lt_succ_self _) HR.out.1 HR.out.2 hc1
  have HG := Aside0.mk hg
  have HB1 := Aside0.mk hb1
  clear hg hW hb1
  go_quiet (first | (go_at_call 107; with_reducible exact Calls.quiet_of_same (HS1.out _)) | (go_at_call 107; with_reducible exact Calls.quiet_of_same (HS2.out _)) | (go_at_call 106; with_reducible exact Calls.quiet_of (HG.out _)))
  go_wp2
  go_ret
  exact ⟨rfl, pw_below_drewN HB1.out _⟩
/-- ratio.Check's answer -/
def ratV (a b : Int) : Int := if b < 1 ∨ 1073741824 < b ∨ a < -1073741824 ∨ 1073741824 < a then 50 else if Nat.gcd b.natAbs a.natAbs = 1 then 0 else 50
set_option maxHeartbeats 1000000 in
set_option maxRecDepth 100000 in
theorem ratio_calls (a b : Int) (w : World) : Calls Try.prog 85 #[.agg #[.int .i64 a, .int .i64 b]] w fun e w' => e = .returned (.int .i64 (ratV a b)) ∧ Below w.heap.size w w' := by
  have hu38 := Try.underlying38
  have HB := Aside0.mk (show ∀ o, Below w.heap.size w (w.alloc o) from fun o => below_alloc (Below.refl _ _) o)
  by_cases h1 : b < 1
  · have b1 : decide (b < 1) = true := decide_eq_true h1
    have HV := Aside0.mk (show ratV a b = 50 by unfold ratV; rw [if_pos (.inl h1)])
    clear h1
    go_enter Try.func85, Try.ntmps85
    go_wp2
    go_ret
    exact ⟨by rw [HV.out]; rfl, HB.out _⟩
  have b1 : decide (b < 1) = false := decide_eq_false h1
  by_cases h2 : 1073741824 < b
  · have b2 : decide (1073741824 < b) = true := decide_eq_true h2
    have HV := Aside0.mk (show ratV a b = 50 by unfold ratV; rw [if_pos (.inr (.inl h2))])
    clear h1 h2
    go_enter Try.func85, Try.ntmps85
    go_wp2
    go_ret
    exact ⟨by rw [HV.out]; rfl, HB.out _⟩
  have b2 : decide (1073741824 < b) = false := decide_eq_false h2
  by_cases h3 : a < -1073741824
  · have b3 : decide (a < -1073741824) = true := decide_eq_true h3
    have HV := Aside0.mk (show ratV a b = 50 by unfold ratV; rw [if_pos (.inr (.inr (.inl h3)))])
    clear h1 h2 h3
    go_enter Try.func85, Try.ntmps85
    go_wp2
    go_ret
    exact ⟨by rw [HV.out]; rfl, HB.out _⟩
  have b3 : decide (a < -1073741824) = false := decide_eq_false h3
  by_cases h4 : 1073741824 < a
  · have b4 : decide (1073741824 < a) = true := decide_eq_true h4
    have HV := Aside0.mk (show ratV a b = 50 by unfold ratV; rw [if_pos (.inr (.inr (.inr h4)))])
    clear h1 h2 h3 h4
    go_enter Try.func85, Try.ntmps85
    go_wp2
    go_ret
    exact ⟨by rw [HV.out]; rfl, HB.out _⟩
  have b4 : decide (1073741824 < a) = false := decide_eq_false h4
  obtain ⟨g, hg⟩ : ∃ g, Nat.gcd b.natAbs a.natAbs = g := ⟨_, rfl⟩
  have HC := Aside0.mk (show ∀ W, Calls Try.prog 96 #[.int .i64 a, .int .i64 b] W fun e w' => e = .returned (.int .u64 (g : Nat)) ∧ Below W.heap.size W w' from fun W => by
    have := common_calls a b (by omega) (by omega) (by omega) (by omega) W
    rw [hg] at this
    exact this)
  have hn : ¬ (b < 1 ∨ 1073741824 < b ∨ a < -1073741824 ∨ 1073741824 < a) := by omega
  clear h1 h2 h3 h4
  by_cases h5 : g = 1
  · have b5 : ((g : Int) != 1) = false := by simp [h5]
    have HV' := Aside0.mk (show ratV a b = 0 by unfold ratV; rw [if_neg hn, if_pos (hg.trans h5)])
    clear h5 hg hn
    go_enter Try.func85, Try.ntmps85
    go_wp2_with (go_at_call 96; refine (HC.out _).mono ?_; rintro e w1 ⟨rfl, hb1⟩)
    go_ret
    exact ⟨by rw [HV'.out]; rfl, (HB.out _).trans (hb1.mono (HB.out _).size)⟩
  · have b5 : ((g : Int) != 1) = true := by simp; omega
    have HV' := Aside0.mk (show ratV a b = 50 by unfold ratV; rw [if_neg hn, if_neg (fun e => h5 (hg.symm.trans e))])
    clear h5 hg hn
    go_enter Try.func85, Try.ntmps85
    go_wp2_with (go_at_call 96; refine (HC.out _).mono ?_; rintro e w1 ⟨rfl, hb1⟩)
    go_ret
    exact ⟨by rw [HV'.out]; rfl, (HB.out _).trans (hb1.mono (HB.out _).size)⟩
end Go.Proofs.Ytadeidhefjifaaa.Px
end
section
namespace Go.Proofs.Ytadeidhefjifaaa.Px
set_option linter.unusedVariables false
set_option linter.unusedSimpArgs false
open Go.RowKit Go.Proofs.YtadeidhefjifaaaW.PrintWords Go.Proofs.YtadeidhefjifaaaW.PrintLast Go.Proofs.YtadeidhefjifaaaW.PrintMore
/-- is n in lo .. hi -/
def inB (n lo hi : Int) : Bool := decide (lo ≤ n) && decide (n ≤ hi)
theorem within82 (n lo hi : Int) (w : World) : Calls Try.prog 82 #[.int .i64 n, .int .i64 lo, .int .i64 hi] w fun e w' => e = .returned (.bool (inB n lo hi)) ∧ w' = w := by
  unfold inB
  by_cases h1 : lo ≤ n
  · have b1 : decide (lo ≤ n) = true := decide_eq_true h1
    go_enter Try.func82, Try.ntmps82
    go_wp2
    go_ret
    exact ⟨by simp [b1], rfl⟩
  · have b1 : decide (lo ≤ n) = false := decide_eq_false h1
    go_enter Try.func82, Try.ntmps82
    go_wp2
    go_ret
    exact ⟨by simp [b1], rfl⟩
/-- the place of the first element that fits, counted from i on; -1 if none fits -/
def fIx {α : Type} (p : α → Bool) : List α → Int → Int
  | [], _ => -1
  | x :: l, i => if p x = true then i else fIx p l (i + 1)
theorem fIx_any {α : Type} (p : α → Bool) : ∀ (l : List α) (i : Int), 0 ≤ i → decide (0 ≤ fIx p l i) = l.any p
  | [], i, _ => by simp [fIx]
  | x :: l, i, h => by
    simp only [fIx, List.any_cons]
    by_cases hp : p x = true
    · simp [hp, h]
    · simp only [hp]; simpa using fIx_any p l (i + 1) (by omega)
/-- a course's number that is not valid -/
def badC (c : Int) : Bool := !inB c 0 4095
theorem bad84 (c : Int) (w : World) : Calls Try.prog 84 #[.int .i64 c] w fun e w' => e = .returned (.bool (badC c)) ∧ w' = w := by
  unfold badC
  go_enter Try.func84, Try.ntmps84
  go_wp2_with (go_at_call 82; refine (within82 _ _ _ _).mono ?_; rintro e w' ⟨rfl, rfl⟩)
  go_ret
  exact ⟨rfl, rfl⟩
theorem drop_rdI (l : List Int) (i : Int) (h0 : 0 ≤ i) (h : i < l.length) : l.drop i.toNat = rd l i :: l.drop (i + 1).toNat := by
  rw [List.drop_eq_getElem_cons (show i.toNat < l.length by omega), show (i + 1).toNat = i.toNat + 1 by omega]
  simp [rd, List.getD, show i.toNat < l.length by omega]
theorem rd_atI {w : World} {A : Option Addr} {n : Nat} {xs : List Int} (h : Kd.C (Kd.int .i64) w A n xs) (i : Int) (h0 : 0 ≤ i) (h1 : i < n) : ∃ ad, A = some ad ∧ w.cell? (ad.add i.toNat) = some (.int .i64 (rd xs i)) := by
  obtain ⟨ad, c, e, _, hK, hc⟩ := Kd.C_get h 0 i h0 h1
  obtain rfl : c = [Value.int .i64 (xs.getD i.toNat 0)] := hK
  have := hc 0 _ rfl
  refine ⟨ad, e, ?_⟩
  rw [show i.toNat * (Kd.int .i64).sz + 0 = i.toNat from by show i.toNat * 1 + 0 = _; omega] at this
  exact this
set_option maxHeartbeats 1000000 in
set_option maxRecDepth 100000 in
theorem idx95 (A : Option Addr) (c : Nat) (l : List Int) (w : World) (hr : Kd.C (Kd.int .i64) w A l.length l) (hc : l.length ≤ c) :
    Calls Try.prog 95 #[.slice A l.length c, .func (.func 84) #[] #[]] w fun e w' => e = .returned (.int .i64 (fIx badC l 0)) ∧ w' = w := by
  have hm : (l.length : Int) ≤ 9223372036854775807 := by have := hr.2.1; omega
  have HR := Aside0.mk hr
  clear hr
  go_enter Try.func95, Try.ntmps95
  go_wp2_with fail
  go_loopw [8] (fun v wr => ∃ i : Int, v = .int .i64 i ∧ 0 ≤ i ∧ i ≤ l.length ∧ Aside0 (fIx badC (l.drop i.toNat) i = fIx badC l 0) ∧ wr = w) (fun v _ => l.length - (intOf v).toNat)
  case atStart => exact ⟨0, rfl, by omega, by omega, ⟨rfl⟩, rfl⟩
  case round =>
    obtain ⟨i, rfl, h0, h1, HI, rfl⟩ := hrel
    by_cases hlt : i < l.length
    · have b0 : decide (i < (l.length : Int)) = true := decide_eq_true hlt
      have b1 : decide (0 ≤ i) = true := decide_eq_true h0
      obtain ⟨ad, e, x0⟩ := rd_atI HR.out i h0 hlt
      cases e
      have hI := HI.out
      rw [drop_rdI l i h0 hlt, fIx] at hI
      by_cases hb : badC (rd l i) = true
      · rw [if_pos hb] at hI
        have HI' := Aside0.mk hI
        clear hI HI
        go_wp2_with (go_at_call 84; refine (bad84 (rd l i) _).mono ?_; rintro e w1 ⟨rfl, rfl⟩)
        go_ret
        exact ⟨by rw [← HI'.out]; rfl, rfl⟩
      · rw [if_neg hb] at hI
        have hb' : badC (rd l i) = false := by simpa using hb
        have HI' := Aside0.mk hI
        clear hI HI hb
        go_wp2_with (go_at_call 84; refine (bad84 (rd l i) _).mono ?_; rintro e w1 ⟨rfl, rfl⟩)
        go_roundw
        case rel => exact ⟨i + 1, rfl, by omega, by omega, HI', by first | rfl | trivial⟩
        case measure => simp [intOf]; omega
    · have b0 : decide (i < (l.length : Int)) = false := decide_eq_false hlt
      have hI := HI.out
      rw [List.drop_eq_nil_of_le (by omega), fIx] at hI
      have HI' := Aside0.mk hI
      clear hI
      go_wp2
      go_ret
      exact ⟨by rw [← HI'.out]; rfl, rfl⟩
set_option maxHeartbeats 1000000 in
set_option maxRecDepth 100000 in
theorem cont83 (A : Option Addr) (c : Nat) (l : List Int) (w : World) (hr : Kd.C (Kd.int .i64) w A l.length l) (hc : l.length ≤ c) :
    Calls Try.prog 83 #[.slice A l.length c, .func (.func 84) #[] #[]] w fun e w' => e = .returned (.bool (l.any badC)) ∧ w' = w := by
  have H := Aside0.mk (fIx_any badC l 0 (by omega))
  go_enter Try.func83, Try.ntmps83
  go_wp2_with (go_at_call 95; refine (idx95 A c l _ hr hc).mono ?_; rintro e w1 ⟨rfl, rfl⟩)
  go_ret
  exact ⟨by rw [← H.out]; rfl, rfl⟩
/-- is a requirement valid -/
def goodQ (q : S92) : Bool := inB q.f1 1 10000 && inB q.f2 0 12 && !(q.f5.any badC)
set_option maxHeartbeats 1000000 in
set_option maxRecDepth 100000 in
theorem good81 (q : S92) (A4 A5 : Option Addr) (c4 c5 : Nat) (w : World) (hr : Kd.C (Kd.int .i64) w A5 q.f5.length q.f5) (hc : q.f5.length ≤ c5) :
    Calls Try.prog 81 #[.agg #[.string q.f0, .int .i64 q.f1, .int .i64 q.f2, .bool q.f3, .slice A4 q.f4.length c4, .slice A5 q.f5.length c5]] w fun e w' => e = .returned (.bool (goodQ q)) ∧ Below w.heap.size w w' := by
  have hu92 := Try.underlying92
  have hb : ∀ o, Below w.heap.size w (w.alloc o) := fun o => below_alloc (Below.refl _ _) o
  have hr' := fun o => Kd.C_alloc hr o
  have HB := Aside0.mk hb
  have HR := Aside0.mk hr'
  clear hb hr' hr
  unfold goodQ
  by_cases h1 : inB q.f1 1 10000 = true
  · by_cases h2 : inB q.f2 0 12 = true
    · go_enter Try.func81, Try.ntmps81
      go_wp2_with (first | (go_at_call 82; refine (within82 _ _ _ _).mono ?_; rintro e w' ⟨rfl, rfl⟩) | (go_at_call 83; refine (cont83 _ _ _ _ (HR.out _) hc).mono ?_; rintro e w' ⟨rfl, rfl⟩))
      go_ret
      exact ⟨by simp [h1, h2], HB.out _⟩
    · have h2' : inB q.f2 0 12 = false := by simpa using h2
      clear h2
      go_enter Try.func81, Try.ntmps81
      go_wp2_with (first | (go_at_call 82; refine (within82 _ _ _ _).mono ?_; rintro e w' ⟨rfl, rfl⟩))
      go_ret
      exact ⟨by simp [h1, h2'], HB.out _⟩
  · have h1' : inB q.f1 1 10000 = false := by simpa using h1
    clear h1
    go_enter Try.func81, Try.ntmps81
    go_wp2_with (first | (go_at_call 82; refine (within82 _ _ _ _).mono ?_; rintro e w' ⟨rfl, rfl⟩))
    go_ret
    exact ⟨by simp [h1'], HB.out _⟩
/-- degree.Check's answer -/
def degV (n u e mn md : Int) (l : List S92) : Int := if inB n 0 255 && inB u 1 4 && inB e 0 10000 && decide (ratV mn md = 0) && inB mn 0 (12 * md) && decide ((l.length : Int) ≤ 64) && l.all goodQ then 0 else 190
def degree_Check.f (a0_0 : ByteArray) (a0_1 a0_2 a0_3 a0_4 a0_5 : Int) (l0_6 : List S92) : Option Int := some (degV a0_1 a0_2 a0_3 a0_4 a0_5 l0_6)
theorem ratV_den {a b : Int} (h : ratV a b = 0) : 1 ≤ b ∧ b ≤ 1073741824 := by
  unfold ratV at h
  split at h
  · cases h
  · omega
set_option maxHeartbeats 4000000 in
set_option maxRecDepth 100000 in
theorem degree_Check.calls (a0_0 : ByteArray) (a0_1 a0_2 a0_3 a0_4 a0_5 : Int) (A0_6 : Option Addr) (c0_6 : Nat) (l0_6 : List S92) (r : Int) (w : World) (hr0_6 : Kd.C k92 w A0_6 l0_6.length l0_6) (hc0_6 : l0_6.length ≤ c0_6) (h : degree_Check.f a0_0 a0_1 a0_2 a0_3 a0_4 a0_5 l0_6 = some r) :
    Calls Try.prog 66 #[.agg #[.string a0_0, .int .i64 a0_1, .int .i64 a0_2, .int .i64 a0_3, .int .i64 a0_4, .int .i64 a0_5, .slice A0_6 l0_6.length c0_6]] w fun e w' => e = .returned (.int .i64 r) ∧ Below w.heap.size w w' := by
  obtain rfl := Option.some.inj h
  clear h
  have hu41 := Try.underlying41
  have hu92 := Try.underlying92
  have hu38 := Try.underlying38
  have hm : (l0_6.length : Int) ≤ 9223372036854775807 := by have := hr0_6.2.1; omega
  have HB := Aside0.mk (show ∀ o, Below w.heap.size w (w.alloc o) from fun o => below_alloc (Below.refl _ _) o)
  have HR := Aside0.mk hr0_6
  clear hr0_6
  by_cases h1 : inB a0_1 0 255 = true
  case neg =>
    have h1' : inB a0_1 0 255 = false := by simpa using h1
    have HV := Aside0.mk (show degV a0_1 a0_2 a0_3 a0_4 a0_5 l0_6 = 190 by unfold degV; simp [h1'])
    clear h1
    go_enter Try.func66, Try.ntmps66
    go_wp2_with (first | (go_at_call 82; refine (within82 _ _ _ _).mono ?_; rintro e w' ⟨rfl, rfl⟩))
    go_ret
    exact ⟨by rw [HV.out]; rfl, HB.out _⟩
  by_cases h2 : inB a0_2 1 4 = true
  case neg =>
    have h2' : inB a0_2 1 4 = false := by simpa using h2
    have HV := Aside0.mk (show degV a0_1 a0_2 a0_3 a0_4 a0_5 l0_6 = 190 by unfold degV; simp [h2'])
    clear h2
    go_enter Try.func66, Try.ntmps66
    go_wp2_with (first | (go_at_call 82; refine (within82 _ _ _ _).mono ?_; rintro e w' ⟨rfl, rfl⟩))
    go_ret
    exact ⟨by rw [HV.out]; rfl, HB.out _⟩
  by_cases h3 : inB a0_3 0 10000 = true
  case neg =>
    have h3' : inB a0_3 0 10000 = false := by simpa using h3
    have HV := Aside0.mk (show degV a0_1 a0_2 a0_3 a0_4 a0_5 l0_6 = 190 by unfold degV; simp [h3'])
    clear h3
    go_enter Try.func66, Try.ntmps66
    go_wp2_with (first | (go_at_call 82; refine (within82 _ _ _ _).mono ?_; rintro e w' ⟨rfl, rfl⟩))
    go_ret
    exact ⟨by rw [HV.out]; rfl, HB.out _⟩
  by_cases h4 : ratV a0_4 a0_5 = 0
  case neg =>
    have h4' : (ratV a0_4 a0_5 != 0) = true := by simp [h4]
    have HV := Aside0.mk (show degV a0_1 a0_2 a0_3 a0_4 a0_5 l0_6 = 190 by unfold degV; simp [h4])
    clear h4
    go_enter Try.func66, Try.ntmps66
    go_wp2_with (first | (go_at_call 82; refine (within82 _ _ _ _).mono ?_; rintro e w' ⟨rfl, rfl⟩) | (go_at_call 85; refine (ratio_calls _ _ _).mono ?_; rintro e w1 ⟨rfl, hb1⟩))
    go_ret
    exact ⟨by rw [HV.out]; rfl, (HB.out _).trans (hb1.mono (HB.out _).size)⟩
  obtain ⟨d0, d1⟩ := ratV_den h4
  have h4b : (ratV a0_4 a0_5 != 0) = false := by simp [h4]
  by_cases h5 : inB a0_4 0 (12 * a0_5) = true
  case neg =>
    have h5' : inB a0_4 0 (12 * a0_5) = false := by simpa using h5
    have HV := Aside0.mk (show degV a0_1 a0_2 a0_3 a0_4 a0_5 l0_6 = 190 by unfold degV; simp [h5'])
    clear h4 h5
    go_enter Try.func66, Try.ntmps66
    go_wp2_with (first | (go_at_call 82; refine (within82 _ _ _ _).mono ?_; rintro e w' ⟨rfl, rfl⟩) | (go_at_call 85; refine (ratio_calls _ _ _).mono ?_; rintro e w1 ⟨rfl, hb1⟩; have k1 := (hb1.block w.heap.size (by simp)).trans (heap_alloc_new w _); have e4 := (blk_cell k1 4).trans (show _ = some _ from rfl); have e5 := (blk_cell k1 5).trans (show _ = some _ from rfl); have e6 := (blk_cell k1 6).trans (show _ = some _ from rfl); clear k1))
    go_ret
    exact ⟨by rw [HV.out]; rfl, (HB.out _).trans (hb1.mono (HB.out _).size)⟩
  by_cases h6 : 64 < (l0_6.length : Int)
  · have h6b : decide (64 < (l0_6.length : Int)) = true := decide_eq_true h6
    have HV := Aside0.mk (show degV a0_1 a0_2 a0_3 a0_4 a0_5 l0_6 = 190 by unfold degV; rw [show decide ((l0_6.length : Int) ≤ 64) = false from decide_eq_false (by omega)]; simp)
    clear h4 h6
    go_enter Try.func66, Try.ntmps66
    go_wp2_with (first | (go_at_call 82; refine (within82 _ _ _ _).mono ?_; rintro e w' ⟨rfl, rfl⟩) | (go_at_call 85; refine (ratio_calls _ _ _).mono ?_; rintro e w1 ⟨rfl, hb1⟩; have k1 := (hb1.block w.heap.size (by simp)).trans (heap_alloc_new w _); have e4 := (blk_cell k1 4).trans (show _ = some _ from rfl); have e5 := (blk_cell k1 5).trans (show _ = some _ from rfl); have e6 := (blk_cell k1 6).trans (show _ = some _ from rfl); clear k1))
    go_ret
    exact ⟨by rw [HV.out]; rfl, (HB.out _).trans (hb1.mono (HB.out _).size)⟩
  have h6b : decide (64 < (l0_6.length : Int)) = false := decide_eq_false h6
  have HV := Aside0.mk (show degV a0_1 a0_2 a0_3 a0_4 a0_5 l0_6 = if l0_6.all goodQ = true then 0 else 190 by unfold degV; rw [h1, h2, h3, h5, decide_eq_true h4, show decide ((l0_6.length : Int) ≤ 64) = true from decide_eq_true (by omega)]; simp)
  clear h4 h6
  go_enter Try.func66, Try.ntmps66
  go_wp2_with (first | (go_at_call 82; refine (within82 _ _ _ _).mono ?_; rintro e w' ⟨rfl, rfl⟩) | (go_at_call 85; refine (ratio_calls _ _ _).mono ?_; rintro e w1 ⟨rfl, hb1⟩; have k1 := (hb1.block w.heap.size (by simp)).trans (heap_alloc_new w _); have e4 := (blk_cell k1 4).trans (show _ = some _ from rfl); have e5 := (blk_cell k1 5).trans (show _ = some _ from rfl); have e6 := (blk_cell k1 6).trans (show _ = some _ from rfl); clear k1))
  have HB1 := Aside0.mk ((HB.out (Obj.cells #[.string a0_0, .int .i64 a0_1, .int .i64 a0_2, .int .i64 a0_3, .int .i64 a0_4, .int .i64 a0_5, .slice A0_6 l0_6.length c0_6] 41)).trans (hb1.mono (HB.out _).size))
  clear hb1
  go_loopw [48] (fun v wr => ∃ i : Int, v = .int .i64 i ∧ 0 ≤ i ∧ i ≤ l0_6.length ∧ Aside0 ((l0_6.drop i.toNat).all goodQ = l0_6.all goodQ) ∧ Aside0 (Below w.heap.size w wr)) (fun v _ => l0_6.length - (intOf v).toNat)
  case atStart => exact ⟨0, rfl, by omega, by omega, ⟨rfl⟩, HB1⟩
  case round =>
    obtain ⟨i, rfl, i0, i1, HI, HW⟩ := hrel
    by_cases hlt : i < l0_6.length
    · have q0 : decide (i < (l0_6.length : Int)) = true := decide_eq_true hlt
      have q1 : decide (0 ≤ i) = true := decide_eq_true i0
      have hr' := Kd.C_below HR.out HW.out
      obtain ⟨ad, A4, c4, A5, c5, e, x0, x1, x2, x3, x4, x5, g4l, g4, g5l, g5⟩ := at_T92 hr' i i0 hlt
      cases e
      have hI := HI.out
      rw [List.drop_eq_getElem_cons (show i.toNat < l0_6.length by omega), List.all_cons, show l0_6[i.toNat]'(by omega) = rd_T92 l0_6 i by simp [rd_T92, List.getD, show i.toNat < l0_6.length by omega], show i.toNat + 1 = (i + 1).toNat by omega] at hI
      have HI2 := Aside0.mk hI
      have G5 := Aside0.mk g5
      have HWA := Aside0.mk (show ∀ o, Below wr.heap.size wr (wr.alloc o) from fun o => below_alloc (Below.refl _ _) o)
      clear hI g4 g5 hr' e4 e5 e6
      by_cases hq : goodQ (rd_T92 l0_6 i) = true
      · go_wp2_with (first | (go_at_call 81; refine (good81 (rd_T92 l0_6 i) A4 A5 c4 c5 _ (Kd.C_alloc G5.out _) g5l).mono ?_; rintro e w2 ⟨rfl, hb2⟩; have HB2 := Aside0.mk (HW.out.trans (((HWA.out _).trans (hb2.mono (HWA.out _).size)).mono HW.out.size)); clear hb2))
        go_roundw
        case rel => exact ⟨i + 1, rfl, by omega, by omega, ⟨by have := HI2.out; rw [hq] at this; simpa using this⟩, HB2⟩
        case measure => simp [intOf]; omega
      · have hq' : goodQ (rd_T92 l0_6 i) = false := by simpa using hq
        have HV2 := Aside0.mk (show degV a0_1 a0_2 a0_3 a0_4 a0_5 l0_6 = 190 by rw [HV.out, ← HI2.out, hq']; simp)
        clear hq
        go_wp2_with (first | (go_at_call 81; refine (good81 (rd_T92 l0_6 i) A4 A5 c4 c5 _ (Kd.C_alloc G5.out _) g5l).mono ?_; rintro e w2 ⟨rfl, hb2⟩; have HB2 := Aside0.mk (HW.out.trans (((HWA.out _).trans (hb2.mono (HWA.out _).size)).mono HW.out.size)); clear hb2))
        go_ret
        exact ⟨by rw [HV2.out]; rfl, HB2.out⟩
    · have q0 : decide (i < (l0_6.length : Int)) = false := decide_eq_false hlt
      have HV2 := Aside0.mk (show degV a0_1 a0_2 a0_3 a0_4 a0_5 l0_6 = 0 by
        have := HI.out
        rw [List.drop_eq_nil_of_le (by omega)] at this
        rw [HV.out, ← this]; simp)
      go_wp2
      go_ret
      exact ⟨by rw [HV2.out]; rfl, HW.out⟩
end Go.Proofs.Ytadeidhefjifaaa.Px
end
