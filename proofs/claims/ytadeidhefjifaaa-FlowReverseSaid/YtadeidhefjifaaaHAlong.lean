/- The closures of flow.Max: along, and what it is handed . -/
import Derived.Test.YtadeidhefjifaaaHNet
set_option linter.unusedVariables false
set_option linter.unusedSimpArgs false
namespace Go.Proofs.Ytadeidhefjifaaa.Px
open Go.RowKit Go.Proofs.YtadeidhefjifaaaW.PrintWords Go.Proofs.YtadeidhefjifaaaW.PrintLast Go.Proofs.YtadeidhefjifaaaW.PrintMore
section
variable {w0 : World} {U : Nat} {w : World} {G : Nat} {A : Option Addr} {c : Nat} {l : List S61} {vF : Value} {fl : List Int} {vA : Value} {adj : List (List Int)}
set_option maxHeartbeats 1000000 in
set_option maxRecDepth 100000 in
theorem pushes_calls (hN : NS w0 U w G A c l vF fl vA adj) (r m : Int) (h0 : 0 ≤ r) (h1 : r < 2 * l.length) (f0 : 0 ≤ rd fl (r / 2)) (f1 : rd fl (r / 2) ≤ 1073741824) (m0 : 0 ≤ m) (m1 : m ≤ 1073741824) (L Bw : Nat)
    (hL : w.heap[L]? = some (.cells #[.int .i64 m] 3 (0, 0))) (hw : w.heap[Bw]? = some (.cells #[.pointer (some ⟨G, 0, none⟩)] 76 (0, 0))) :
    Calls Try.prog 54 #[.int .i64 r, .pointer (some ⟨Bw, 0, none⟩), .pointer (some ⟨L, 0, none⟩)] w fun e w' => e = .returned (.tuple #[]) ∧ NS w0 U w' G A c l vF (pushF fl r m) vA adj ∧ w.grownBy w' vF.ownBlock := by
  have c0 : w.cell? ⟨L, 0, none⟩ = some (.int .i64 m) := (blk_cell hL 0).trans rfl
  have c1 : w.cell? ⟨Bw, 0, none⟩ = some (.pointer (some ⟨G, 0, none⟩)) := (blk_cell hw 0).trans rfl
  have HN := Aside0.mk hN
  clear hL hw hN
  go_enter Try.func54, Try.ntmps54
  go_wp2_with (go_at_call 55; refine (push_calls HN.out r m h0 h1 f0 f1 m0 m1).mono ?_; rintro e w1 ⟨rfl, hn1, hg1⟩)
  go_end0
  exact ⟨rfl, hn1, hg1⟩
end
/-- where a residual edge begins -/
def begR (l : List S61) (r : Int) : Int := if r % 2 = 0 then (rd_T61 l (r / 2)).f0 else (rd_T61 l (r / 2)).f1
/-- the residual edges along which v was reached from frm, last first -/
def isPath (l : List S61) (bys : List Int) (frm : Int) : Int → List Int → Prop
  | v, [] => v = frm
  | v, r :: rs => (v ≠ frm ∧ 0 ≤ v ∧ v < bys.length ∧ r = rd bys v ∧ 0 ≤ r ∧ r < 2 * l.length) ∧ isPath l bys frm (begR l r) rs
theorem nat_xor_one (a : Nat) : a ^^^ 1 = if a % 2 = 0 then a + 1 else a - 1 := by
  have h1 : (a ^^^ 1) / 2 = a / 2 := by rw [Nat.xor_div_two]; simp
  have h2 : (a ^^^ 1) % 2 = (a + 1) % 2 := by
    have := Nat.xor_mod_two_pow (a := a) (b := 1) (n := 1)
    simp only [Nat.pow_one] at this
    rw [this]
    rcases Nat.mod_two_eq_zero_or_one a with h | h <;> rw [h] <;> simp <;> omega
  split <;> omega
theorem xor_one (r : Int) (h0 : 0 ≤ r) (h1 : r < 131072) : Go.bits .xor .i64 r 1 = if r % 2 = 0 then r + 1 else r - 1 := by
  obtain ⟨a, rfl⟩ := Int.eq_ofNat_of_zero_le h0
  have e : Go.bits .xor .i64 (a : Int) 1 = IntKind.i64.wrap ((a ^^^ 1 : Nat) : Int) := by
    have ha' : a % 2 ^ IntKind.i64.bits = a := Nat.mod_eq_of_lt (Nat.lt_of_lt_of_le (show a < 131072 by omega) (by decide))
    have hb' : 1 % 2 ^ IntKind.i64.bits = 1 := by decide
    have h1 : (1 : Int) = ((1 : Nat) : Int) := rfl
    rw [h1]
    simp only [Go.bits, BitVec.ofInt_natCast, BitVec.toNat_xor, BitVec.toNat_ofNat, ha', hb']
  rw [e, nat_xor_one, IntKind.wrap_i64]
  split <;> split <;> omega
theorem end_xor (l : List S61) (r : Int) (h0 : 0 ≤ r) : endR l (if r % 2 = 0 then r + 1 else r - 1) = begR l r := by
  unfold endR begR
  by_cases h : r % 2 = 0
  · rw [if_pos h, if_neg (by omega), if_pos h, show (r + 1) / 2 = r / 2 by omega]
  · rw [if_neg h, if_pos (by omega), if_neg h, show (r - 1) / 2 = r / 2 by omega]

set_option maxHeartbeats 2000000 in
set_option maxRecDepth 100000 in
theorem along52 (w0 : World) (U G : Nat) (A : Option Addr) (c : Nat) (l : List S61) (vF vA : Value) (adj : List (List Int)) (Bt Bf Bw Bb P1 P2 : Nat) (tt frm : Int) (Ab : Option Addr) (cb : Nat) (bys : List Int) (p : List Int)
    (J : List Int → World → Prop)
    (hJ : ∀ (pre : List Int) (W : World), J pre W → (∃ fl, NS w0 U W G A c l vF fl vA adj) ∧ W.cell? ⟨Bt, 0, none⟩ = some (.int .i64 tt) ∧ W.cell? ⟨Bf, 0, none⟩ = some (.int .i64 frm) ∧ W.cell? ⟨Bw, 0, none⟩ = some (.pointer (some ⟨G, 0, none⟩)) ∧ W.cell? ⟨Bb, 0, none⟩ = some (.slice Ab bys.length cb) ∧ Kd.C (Kd.int .i64) W Ab bys.length bys)
    (hD : ∀ (pre : List Int) (W : World) (n : Nat), J pre W → J pre (W.drewN n))
    (hdo : ∀ (pre : List Int) (r : Int) (rest : List Int) (W : World), J pre W → p = pre ++ r :: rest → 0 ≤ r → r < 2 * l.length → Calls Try.prog 52 #[.int .i64 r, .pointer (some ⟨P1, 0, none⟩), .pointer (some ⟨P2, 0, none⟩)] W fun e W' => e = .returned (.tuple #[]) ∧ J (pre ++ [r]) W')
    (hp : isPath l bys frm tt p) (w : World) (h0 : J [] w) :
    Calls Try.prog 50 #[.func (.func 52) #[] #[.pointer (some ⟨P1, 0, none⟩), .pointer (some ⟨P2, 0, none⟩)], .pointer (some ⟨Bt, 0, none⟩), .pointer (some ⟨Bf, 0, none⟩), .pointer (some ⟨Bw, 0, none⟩), .pointer (some ⟨Bb, 0, none⟩)] w fun e w' => e = .returned (.tuple #[]) ∧ J p w' := by
  obtain ⟨-, t0, -, -, -, -⟩ := hJ _ _ h0
  have HJ := Aside0.mk hJ
  have HD := Aside0.mk hD
  have HO := Aside0.mk hdo
  have HP := Aside0.mk hp
  have H0 := Aside0.mk h0
  clear hJ hD hdo hp h0
  go_enter Try.func50, Try.ntmps50
  go_wp2_with fail
  go_loopg [6] p.length (fun g v W => ∃ (x : Int) (pre rest : List Int), v = .int .i64 x ∧ Aside0 (p = pre ++ rest) ∧ Aside0 (isPath l bys frm x rest) ∧ Aside0 (g = rest.length) ∧ Aside0 (J pre W))
  case atStart => exact ⟨tt, [], p, rfl, ⟨rfl⟩, HP, ⟨rfl⟩, H0⟩
  case round =>
    obtain ⟨x, pre, rest, rfl, HE, HX, HG, H1⟩ := hrel
    obtain ⟨⟨fl, hN⟩, -, t1, t2, t3, t4⟩ := HJ.out _ _ H1.out
    cases rest with
    | nil =>
      have hx : x = frm := HX.out
      have b : (x != frm) = false := by simp [hx]
      have hpre : pre = p := by have := HE.out; simpa using this.symm
      have HX2 := Aside0.mk hpre
      clear hx hpre hN
      go_wp2_with fail
      go_end0
      exact ⟨rfl, by rw [← HX2.out]; exact H1.out⟩
    | cons r rest =>
      obtain ⟨⟨a1, a2, a3, a4, a5, a6⟩, a7⟩ := HX.out
      have b : (x != frm) = true := by simp [a1]
      obtain ⟨ab, e, y0⟩ := rd_at t4 x a2 a3
      cases e
      rw [← a4] at y0
      have p0 : decide (0 ≤ x) = true := decide_eq_true a2
      have p1 : decide (x < (bys.length : Int)) = true := decide_eq_true a3
      have HX4 := Aside0.mk a4
      clear a1 a4
      go_wp2_with fail
      refine (HO.out pre r rest _ H1.out HE.out a5 a6).mono ?_
      rintro e W1 ⟨rfl, h2⟩
      obtain ⟨⟨fl1, hN1⟩, -, u1, u2, u3, u4⟩ := HJ.out _ _ h2
      obtain ⟨ab1, e, z0⟩ := rd_at u4 x a2 a3
      cases e
      rw [show rd bys x = r from HX4.out.symm] at z0
      obtain ⟨r', hr'⟩ : ∃ r', r' = if r % 2 = 0 then r + 1 else r - 1 := ⟨_, rfl⟩
      have hxo := xor_one r a5 (by have := hN1.hm; omega)
      rw [← hr'] at hxo
      have he := end_xor l r a5
      rw [← hr'] at he
      have r0 : 0 ≤ r' := by rw [hr']; split <;> omega
      have r1 : r' < 2 * l.length := by rw [hr']; split <;> omega
      have hE : ∀ n, Calls Try.prog 51 #[.pointer (some ⟨G, 0, none⟩), .int .i64 r'] (W1.drewN n) fun e w' => e = .returned (.int .i64 (begR l r)) ∧ w' = W1.drewN n := fun n => by
        rw [← he]; exact (end_calls (hN1.below (pw_below_drewN (Below.refl _ _) n)) r' r0 r1).mono fun e w' h => ⟨h.1, h.2.symm⟩
      have HE2 := Aside0.mk hE
      have H2 := Aside0.mk h2
      clear hN1 hE he hr' h2 hN u4 t4 y0
      go_wp2_with fail
      go_quiet ((go_at_call 51; exact Calls.quiet_of_same (HE2.out _)))
      go_wp2_with fail
      go_roundg rest.length
      case measure => have := HG.out; simp at this; omega
      case rel => exact ⟨begR l r, pre ++ [r], rest, rfl, ⟨by have := HE.out; simpa using this⟩, ⟨a7⟩, ⟨rfl⟩, ⟨HD.out _ _ _ H2.out⟩⟩
set_option maxHeartbeats 2000000 in
set_option maxRecDepth 100000 in
theorem along54 (w0 : World) (U G : Nat) (A : Option Addr) (c : Nat) (l : List S61) (vF vA : Value) (adj : List (List Int)) (Bt Bf Bw Bb P1 P2 : Nat) (tt frm : Int) (Ab : Option Addr) (cb : Nat) (bys : List Int) (p : List Int)
    (J : List Int → World → Prop)
    (hJ : ∀ (pre : List Int) (W : World), J pre W → (∃ fl, NS w0 U W G A c l vF fl vA adj) ∧ W.cell? ⟨Bt, 0, none⟩ = some (.int .i64 tt) ∧ W.cell? ⟨Bf, 0, none⟩ = some (.int .i64 frm) ∧ W.cell? ⟨Bw, 0, none⟩ = some (.pointer (some ⟨G, 0, none⟩)) ∧ W.cell? ⟨Bb, 0, none⟩ = some (.slice Ab bys.length cb) ∧ Kd.C (Kd.int .i64) W Ab bys.length bys)
    (hD : ∀ (pre : List Int) (W : World) (n : Nat), J pre W → J pre (W.drewN n))
    (hdo : ∀ (pre : List Int) (r : Int) (rest : List Int) (W : World), J pre W → p = pre ++ r :: rest → 0 ≤ r → r < 2 * l.length → Calls Try.prog 54 #[.int .i64 r, .pointer (some ⟨P1, 0, none⟩), .pointer (some ⟨P2, 0, none⟩)] W fun e W' => e = .returned (.tuple #[]) ∧ J (pre ++ [r]) W')
    (hp : isPath l bys frm tt p) (w : World) (h0 : J [] w) :
    Calls Try.prog 50 #[.func (.func 54) #[] #[.pointer (some ⟨P1, 0, none⟩), .pointer (some ⟨P2, 0, none⟩)], .pointer (some ⟨Bt, 0, none⟩), .pointer (some ⟨Bf, 0, none⟩), .pointer (some ⟨Bw, 0, none⟩), .pointer (some ⟨Bb, 0, none⟩)] w fun e w' => e = .returned (.tuple #[]) ∧ J p w' := by
  obtain ⟨-, t0, -, -, -, -⟩ := hJ _ _ h0
  have HJ := Aside0.mk hJ
  have HD := Aside0.mk hD
  have HO := Aside0.mk hdo
  have HP := Aside0.mk hp
  have H0 := Aside0.mk h0
  clear hJ hD hdo hp h0
  go_enter Try.func50, Try.ntmps50
  go_wp2_with fail
  go_loopg [6] p.length (fun g v W => ∃ (x : Int) (pre rest : List Int), v = .int .i64 x ∧ Aside0 (p = pre ++ rest) ∧ Aside0 (isPath l bys frm x rest) ∧ Aside0 (g = rest.length) ∧ Aside0 (J pre W))
  case atStart => exact ⟨tt, [], p, rfl, ⟨rfl⟩, HP, ⟨rfl⟩, H0⟩
  case round =>
    obtain ⟨x, pre, rest, rfl, HE, HX, HG, H1⟩ := hrel
    obtain ⟨⟨fl, hN⟩, -, t1, t2, t3, t4⟩ := HJ.out _ _ H1.out
    cases rest with
    | nil =>
      have hx : x = frm := HX.out
      have b : (x != frm) = false := by simp [hx]
      have hpre : pre = p := by have := HE.out; simpa using this.symm
      have HX2 := Aside0.mk hpre
      clear hx hpre hN
      go_wp2_with fail
      go_end0
      exact ⟨rfl, by rw [← HX2.out]; exact H1.out⟩
    | cons r rest =>
      obtain ⟨⟨a1, a2, a3, a4, a5, a6⟩, a7⟩ := HX.out
      have b : (x != frm) = true := by simp [a1]
      obtain ⟨ab, e, y0⟩ := rd_at t4 x a2 a3
      cases e
      rw [← a4] at y0
      have p0 : decide (0 ≤ x) = true := decide_eq_true a2
      have p1 : decide (x < (bys.length : Int)) = true := decide_eq_true a3
      have HX4 := Aside0.mk a4
      clear a1 a4
      go_wp2_with fail
      refine (HO.out pre r rest _ H1.out HE.out a5 a6).mono ?_
      rintro e W1 ⟨rfl, h2⟩
      obtain ⟨⟨fl1, hN1⟩, -, u1, u2, u3, u4⟩ := HJ.out _ _ h2
      obtain ⟨ab1, e, z0⟩ := rd_at u4 x a2 a3
      cases e
      rw [show rd bys x = r from HX4.out.symm] at z0
      obtain ⟨r', hr'⟩ : ∃ r', r' = if r % 2 = 0 then r + 1 else r - 1 := ⟨_, rfl⟩
      have hxo := xor_one r a5 (by have := hN1.hm; omega)
      rw [← hr'] at hxo
      have he := end_xor l r a5
      rw [← hr'] at he
      have r0 : 0 ≤ r' := by rw [hr']; split <;> omega
      have r1 : r' < 2 * l.length := by rw [hr']; split <;> omega
      have hE : ∀ n, Calls Try.prog 51 #[.pointer (some ⟨G, 0, none⟩), .int .i64 r'] (W1.drewN n) fun e w' => e = .returned (.int .i64 (begR l r)) ∧ w' = W1.drewN n := fun n => by
        rw [← he]; exact (end_calls (hN1.below (pw_below_drewN (Below.refl _ _) n)) r' r0 r1).mono fun e w' h => ⟨h.1, h.2.symm⟩
      have HE2 := Aside0.mk hE
      have H2 := Aside0.mk h2
      clear hN1 hE he hr' h2 hN u4 t4 y0
      go_wp2_with fail
      go_quiet ((go_at_call 51; exact Calls.quiet_of_same (HE2.out _)))
      go_wp2_with fail
      go_roundg rest.length
      case measure => have := HG.out; simp at this; omega
      case rel => exact ⟨begR l r, pre ++ [r], rest, rfl, ⟨by have := HE.out; simpa using this⟩, ⟨a7⟩, ⟨rfl⟩, ⟨HD.out _ _ _ H2.out⟩⟩
end Go.Proofs.Ytadeidhefjifaaa.Px
