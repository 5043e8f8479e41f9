/- Plain facts about networks, flows and cuts: no program in sight. -/
namespace FlowM

/-- the sum of g over 0 .. n-1 -/
def sumN : Nat → (Int → Int) → Int
  | 0, _ => 0
  | n + 1, g => sumN n g + g n

theorem sumN_add (n : Nat) (g h : Int → Int) : sumN n (fun v => g v + h v) = sumN n g + sumN n h := by
  induction n with
  | zero => rfl
  | succ n ih => simp only [sumN, ih]; omega

theorem sumN_sub (n : Nat) (g h : Int → Int) : sumN n (fun v => g v - h v) = sumN n g - sumN n h := by
  induction n with
  | zero => rfl
  | succ n ih => simp only [sumN, ih]; omega

theorem sumN_zero (n : Nat) : sumN n (fun _ => 0) = 0 := by
  induction n with
  | zero => rfl
  | succ n ih => simp only [sumN, ih]; rfl

theorem sumN_congr (n : Nat) (g h : Int → Int) (e : ∀ v : Int, 0 ≤ v → v < n → g v = h v) : sumN n g = sumN n h := by
  induction n with
  | zero => rfl
  | succ n ih =>
    simp only [sumN]
    rw [ih (fun v h0 h1 => e v h0 (by omega)), e n (by omega) (by omega)]

theorem sumN_one (n : Nat) (s : Int) (f : Int) : sumN n (fun v => if s = v then f else 0) = if 0 ≤ s ∧ s < n then f else 0 := by
  induction n with
  | zero => simp only [sumN]; rw [if_neg (by omega)]
  | succ n ih =>
    simp only [sumN, ih]
    by_cases h : s = n
    · subst h; rw [if_neg (by omega), if_pos rfl, if_pos (by omega)]; omega
    · rw [if_neg h]
      by_cases h2 : 0 ≤ s ∧ s < n
      · rw [if_pos h2, if_pos (by omega)]; omega
      · rw [if_neg h2, if_neg (by omega)]; omega

theorem sumN_cut (n : Nat) (C : Int → Bool) (s : Int) (f : Int) (h0 : 0 ≤ s) (h1 : s < n) :
    sumN n (fun v => if C v = true then (if s = v then f else 0) else 0) = if C s = true then f else 0 := by
  rw [sumN_congr n _ (fun v => if s = v then (if C s = true then f else 0) else 0)]
  · rw [sumN_one, if_pos ⟨h0, h1⟩]
  · intro v _ _
    by_cases e : s = v
    · subst e; simp
    · simp [e]

section
variable {α : Type} (fr to cp : α → Int)

/-- what flows out of a node, minus what flows in -/
def outs : List α → List Int → Int → Int
  | x :: l, f :: fs, v => ((if fr x = v then f else 0) - (if to x = v then f else 0)) + outs l fs v
  | _, _, _ => 0

/-- what crosses a cut outwards, minus what crosses inwards -/
def cross (C : Int → Bool) : List α → List Int → Int
  | x :: l, f :: fs => ((if C (fr x) = true then f else 0) - (if C (to x) = true then f else 0)) + cross C l fs
  | _, _ => 0

/-- the capacity of a cut -/
def cap (C : Int → Bool) : List α → Int
  | x :: l => (if C (fr x) = true ∧ C (to x) = false then cp x else 0) + cap C l
  | [] => 0

/-- as many flows as edges, each between 0 and the capacity -/
def Bnd : List α → List Int → Prop
  | x :: l, f :: fs => (0 ≤ f ∧ f ≤ cp x) ∧ Bnd l fs
  | [], [] => True
  | _, _ => False

/-- no residual edge leaves the cut -/
def Closed (C : Int → Bool) : List α → List Int → Prop
  | x :: l, f :: fs => ((C (fr x) = true → C (to x) = false → f = cp x) ∧ (C (to x) = true → C (fr x) = false → f = 0)) ∧ Closed C l fs
  | _, _ => True

/-- each edge joins two different nodes of 0 .. n-1 -/
def Ends (n : Int) (l : List α) : Prop := ∀ x ∈ l, (0 ≤ fr x ∧ fr x < n) ∧ (0 ≤ to x ∧ to x < n) ∧ fr x ≠ to x ∧ 0 ≤ cp x ∧ cp x ≤ 1073741824

structure Flow (n : Int) (l : List α) (s t : Int) (fs : List Int) : Prop where
  bnd : Bnd cp l fs
  cons : ∀ v, 0 ≤ v → v < n → v ≠ s → v ≠ t → outs fr to l fs v = 0

/-- a flow, and the set of the nodes that the residual network reaches from s; t is not among them -/
structure Opt (n : Int) (l : List α) (s t : Int) (fs : List Int) (C : Int → Bool) : Prop where
  flow : Flow fr to cp n l s t fs
  hs : C s = true
  ht : C t = false
  closed : Closed fr to cp C l fs
  least : ∀ D : Int → Bool, D s = true → Closed fr to cp D l fs → ∀ v, 0 ≤ v → v < n → C v = true → D v = true

variable {fr to cp}

theorem Bnd.length : ∀ {l : List α} {fs : List Int}, Bnd cp l fs → fs.length = l.length
  | [], [], _ => rfl
  | _ :: l, _ :: fs, h => by simp [Bnd.length (l := l) (fs := fs) h.2]
  | [], _ :: _, h => h.elim
  | _ :: _, [], h => h.elim

theorem cross_sum (C : Int → Bool) (n : Nat) : ∀ (l : List α) (fs : List Int), (∀ x ∈ l, (0 ≤ fr x ∧ fr x < n) ∧ (0 ≤ to x ∧ to x < n)) →
    sumN n (fun v => if C v = true then outs fr to l fs v else 0) = cross fr to C l fs
  | [], fs, _ => by simp [outs, cross, sumN_zero]
  | x :: l, [], _ => by simp [outs, cross, sumN_zero]
  | x :: l, f :: fs, h => by
    have ih := cross_sum C n l fs (fun y hy => h y (by simp [hy]))
    obtain ⟨⟨a0, a1⟩, b0, b1⟩ := h x (by simp)
    simp only [cross, ← ih]
    rw [sumN_congr n _ (fun v => ((if C v = true then (if fr x = v then f else 0) else 0) - (if C v = true then (if to x = v then f else 0) else 0)) + (if C v = true then outs fr to l fs v else 0))]
    · rw [sumN_add, sumN_sub, sumN_cut n C _ f a0 a1, sumN_cut n C _ f b0 b1]
    · intro v _ _
      simp only [outs]
      by_cases e : C v = true
      · simp [e]
      · simp [e]

theorem cross_le (C : Int → Bool) : ∀ (l : List α) (fs : List Int), Bnd cp l fs → cross fr to C l fs ≤ cap fr to cp C l
  | [], [], _ => by simp [cross, cap]
  | x :: l, f :: fs, h => by
    have ih := cross_le C l fs h.2
    have ⟨h0, h1⟩ := h.1
    simp only [cross, cap]
    cases e1 : C (fr x) <;> cases e2 : C (to x) <;> simp <;> omega
  | [], _ :: _, h => h.elim
  | _ :: _, [], h => h.elim

theorem cross_closed (C : Int → Bool) : ∀ (l : List α) (fs : List Int), Bnd cp l fs → (cross fr to C l fs = cap fr to cp C l ↔ Closed fr to cp C l fs)
  | [], [], _ => by simp [cross, cap, Closed]
  | x :: l, f :: fs, h => by
    have ih := cross_closed C l fs h.2
    have hl := cross_le (fr := fr) (to := to) C l fs h.2
    have ⟨h0, h1⟩ := h.1
    simp only [cross, cap, Closed]
    cases e1 : C (fr x) <;> cases e2 : C (to x) <;> simp <;> first | exact ih | (rw [← ih]; omega)
  | [], _ :: _, h => h.elim
  | _ :: _, [], h => h.elim

theorem value_cross {n s t : Int} {l : List α} {fs : List Int} (hn : 0 ≤ n) (hE : Ends fr to cp n l) (hf : Flow fr to cp n l s t fs) (hs0 : 0 ≤ s) (hs1 : s < n) (C : Int → Bool) (hs : C s = true) (ht : C t = false) :
    outs fr to l fs s = cross fr to C l fs := by
  obtain ⟨m, rfl⟩ := Int.eq_ofNat_of_zero_le hn
  rw [← cross_sum C m l fs (fun x hx => ⟨(hE x hx).1, (hE x hx).2.1⟩)]
  rw [sumN_congr m _ (fun v => if s = v then outs fr to l fs s else 0)]
  · rw [sumN_one, if_pos ⟨hs0, hs1⟩]
  · intro v h0 h1
    by_cases e : s = v
    · subst e; simp [hs]
    · rw [if_neg e]
      by_cases et : v = t
      · subst et; simp [ht]
      · rw [hf.cons v h0 h1 (fun h => e h.symm) et]; simp

/-- everything that leaves s arrives at t -/
theorem value_end {n s t : Int} {l : List α} {fs : List Int} (hn : 0 ≤ n) (hE : Ends fr to cp n l) (hf : Flow fr to cp n l s t fs) (hs0 : 0 ≤ s) (hs1 : s < n) (ht0 : 0 ≤ t) (ht1 : t < n) (hne : s ≠ t) :
    outs fr to l fs t = - outs fr to l fs s := by
  obtain ⟨m, rfl⟩ := Int.eq_ofNat_of_zero_le hn
  have h1 := cross_sum (fun _ => true) m l fs (fun x hx => ⟨(hE x hx).1, (hE x hx).2.1⟩)
  have h2 : ∀ (l : List α) (fs : List Int), cross fr to (fun _ => true) l fs = 0 := by
    intro l
    induction l with
    | nil => intro fs; rfl
    | cons x l ih => intro fs; cases fs with
      | nil => rfl
      | cons f fs => simp [cross, ih fs]
  rw [h2] at h1
  rw [sumN_congr m _ (fun v => (if s = v then outs fr to l fs s else 0) + (if t = v then outs fr to l fs t else 0))] at h1
  · rw [sumN_add, sumN_one, sumN_one, if_pos ⟨hs0, hs1⟩, if_pos ⟨ht0, ht1⟩] at h1; omega
  · intro v h0 h1
    by_cases e : s = v
    · subst e; simp [show ¬ t = s from fun h => hne h.symm]
    · by_cases et : t = v
      · subst et; simp [e]
      · rw [hf.cons v h0 h1 (fun h => e h.symm) (fun h => et h.symm)]; simp [e, et]

theorem weak {n s t : Int} {l : List α} {fs : List Int} (hn : 0 ≤ n) (hE : Ends fr to cp n l) (hf : Flow fr to cp n l s t fs) (hs0 : 0 ≤ s) (hs1 : s < n) (C : Int → Bool) (hs : C s = true) (ht : C t = false) :
    outs fr to l fs s ≤ cap fr to cp C l := by
  rw [value_cross hn hE hf hs0 hs1 C hs ht]; exact cross_le C l fs hf.bnd

theorem tight {n s t : Int} {l : List α} {fs : List Int} (hn : 0 ≤ n) (hE : Ends fr to cp n l) (hf : Flow fr to cp n l s t fs) (hs0 : 0 ≤ s) (hs1 : s < n) (C : Int → Bool) (hs : C s = true) (ht : C t = false) :
    outs fr to l fs s = cap fr to cp C l ↔ Closed fr to cp C l fs := by
  rw [value_cross hn hE hf hs0 hs1 C hs ht]; exact cross_closed C l fs hf.bnd

theorem Opt.value {n s t : Int} {l : List α} {fs : List Int} {C : Int → Bool} (h : Opt fr to cp n l s t fs C) (hn : 0 ≤ n) (hE : Ends fr to cp n l) (hs0 : 0 ≤ s) (hs1 : s < n) :
    outs fr to l fs s = cap fr to cp C l := (tight hn hE h.flow hs0 hs1 C h.hs h.ht).2 h.closed

/-- a cut of the same capacity holds the least one -/
theorem Opt.sub {n s t : Int} {l : List α} {fs : List Int} {C : Int → Bool} (h : Opt fr to cp n l s t fs C) (hn : 0 ≤ n) (hE : Ends fr to cp n l) (hs0 : 0 ≤ s) (hs1 : s < n) (D : Int → Bool) (ds : D s = true) (dt : D t = false)
    (e : cap fr to cp D l = cap fr to cp C l) : ∀ v, 0 ≤ v → v < n → C v = true → D v = true :=
  h.least D ds ((tight hn hE h.flow hs0 hs1 D ds dt).1 (by rw [h.value hn hE hs0 hs1, e]))

/-- no cut is lesser -/
theorem Opt.min {n s t : Int} {l : List α} {fs : List Int} {C : Int → Bool} (h : Opt fr to cp n l s t fs C) (hn : 0 ≤ n) (hE : Ends fr to cp n l) (hs0 : 0 ≤ s) (hs1 : s < n) (D : Int → Bool) (ds : D s = true) (dt : D t = false) :
    cap fr to cp C l ≤ cap fr to cp D l := by
  rw [← h.value hn hE hs0 hs1]; exact weak hn hE h.flow hs0 hs1 D ds dt

/-- two optimal pairs have one value and one cut -/
theorem Opt.unique {n s t : Int} {l : List α} {fs gs : List Int} {C D : Int → Bool} (h : Opt fr to cp n l s t fs C) (g : Opt fr to cp n l s t gs D) (hn : 0 ≤ n) (hE : Ends fr to cp n l) (hs0 : 0 ≤ s) (hs1 : s < n) :
    outs fr to l fs s = outs fr to l gs s ∧ ∀ v, 0 ≤ v → v < n → C v = D v := by
  have a := h.value hn hE hs0 hs1
  have b := g.value hn hE hs0 hs1
  have c := h.min hn hE hs0 hs1 D g.hs g.ht
  have d := g.min hn hE hs0 hs1 C h.hs h.ht
  refine ⟨by omega, fun v h0 h1 => ?_⟩
  have e := h.sub hn hE hs0 hs1 D g.hs g.ht (by omega) v h0 h1
  have f := g.sub hn hE hs0 hs1 C h.hs h.ht (by omega) v h0 h1
  cases hc : C v <;> cases hd : D v <;> simp_all


/-! mapped lists -/
variable {β : Type}

theorem outs_map (h : β → α) : ∀ (l : List β) (fs : List Int) (v : Int), outs fr to (l.map h) fs v = outs (fun x => fr (h x)) (fun x => to (h x)) l fs v
  | [], _, _ => rfl
  | _ :: _, [], _ => rfl
  | x :: l, f :: fs, v => by simp only [List.map_cons, outs, outs_map h l fs v]

theorem cap_map (h : β → α) (C : Int → Bool) : ∀ (l : List β), cap fr to cp C (l.map h) = cap (fun x => fr (h x)) (fun x => to (h x)) (fun x => cp (h x)) C l
  | [] => rfl
  | x :: l => by simp only [List.map_cons, cap, cap_map h C l]

theorem Bnd_map (h : β → α) : ∀ (l : List β) (fs : List Int), Bnd cp (l.map h) fs ↔ Bnd (fun x => cp (h x)) l fs
  | [], [] => Iff.rfl
  | _ :: _, [] => Iff.rfl
  | [], _ :: _ => Iff.rfl
  | x :: l, f :: fs => by simp only [List.map_cons, Bnd, Bnd_map h l fs]

theorem Closed_map (h : β → α) (C : Int → Bool) : ∀ (l : List β) (fs : List Int), Closed fr to cp C (l.map h) fs ↔ Closed (fun x => fr (h x)) (fun x => to (h x)) (fun x => cp (h x)) C l fs
  | [], _ => Iff.rfl
  | _ :: _, [] => Iff.rfl
  | x :: l, f :: fs => by simp only [List.map_cons, Closed, Closed_map h C l fs]

theorem Flow_map (h : β → α) {n s t : Int} {l : List β} {fs : List Int} (H : Flow fr to cp n (l.map h) s t fs) : Flow (fun x => fr (h x)) (fun x => to (h x)) (fun x => cp (h x)) n l s t fs :=
  ⟨(Bnd_map h l fs).1 H.bnd, fun v a b c d => by rw [← outs_map]; exact H.cons v a b c d⟩

theorem Opt_map (h : β → α) {n s t : Int} {l : List β} {fs : List Int} {C : Int → Bool} (H : Opt fr to cp n (l.map h) s t fs C) : Opt (fun x => fr (h x)) (fun x => to (h x)) (fun x => cp (h x)) n l s t fs C :=
  ⟨Flow_map h H.flow, H.hs, H.ht, (Closed_map h C l fs).1 H.closed, fun D hD hc => H.least D hD ((Closed_map h D l fs).2 hc)⟩

/-! scaling -/
theorem outs_scale (k : Int) : ∀ (l : List α) (fs : List Int) (v : Int), outs fr to l (fs.map (· * k)) v = outs fr to l fs v * k
  | [], _, _ => by simp [outs]
  | _ :: _, [], _ => by simp [outs]
  | x :: l, f :: fs, v => by
    simp only [List.map_cons, outs, outs_scale k l fs v, Int.add_mul, Int.sub_mul]
    congr 1
    congr 1 <;> split <;> simp

theorem cap_scale (k : Int) (C : Int → Bool) : ∀ (l : List α), cap fr to (fun x => cp x * k) C l = cap fr to cp C l * k
  | [] => by simp [cap]
  | x :: l => by
    simp only [cap, cap_scale k C l, Int.add_mul]
    congr 1
    split <;> simp

theorem Bnd_scale (k : Int) (hk : 0 ≤ k) : ∀ (l : List α) (fs : List Int), Bnd cp l fs → Bnd (fun x => cp x * k) l (fs.map (· * k))
  | [], [], _ => True.intro
  | _ :: _, [], h => h.elim
  | [], _ :: _, h => h.elim
  | _ :: l, _ :: fs, h => ⟨⟨Int.mul_nonneg h.1.1 hk, Int.mul_le_mul_of_nonneg_right h.1.2 hk⟩, Bnd_scale k hk l fs h.2⟩

theorem scale {n s t k : Int} (hk : 1 ≤ k) {l : List α} {fs gs : List Int} {C D : Int → Bool} (h : Opt fr to cp n l s t fs C) (g : Opt fr to (fun x => cp x * k) n l s t gs D)
    (hn : 0 ≤ n) (hE : Ends fr to cp n l) (hE' : Ends fr to (fun x => cp x * k) n l) (hs0 : 0 ≤ s) (hs1 : s < n) :
    outs fr to l gs s = outs fr to l fs s * k ∧ ∀ v, 0 ≤ v → v < n → C v = D v := by
  have a := h.value hn hE hs0 hs1
  have b := g.value hn hE' hs0 hs1
  have hf : Flow fr to (fun x => cp x * k) n l s t (fs.map (· * k)) :=
    ⟨Bnd_scale k (by omega) l fs h.flow.bnd, fun v p q r u => by rw [outs_scale, h.flow.cons v p q r u]; simp⟩
  have c := weak hn hE' hf hs0 hs1 D g.hs g.ht
  rw [outs_scale, ← b] at c
  have d := weak hn hE' g.flow hs0 hs1 C h.hs h.ht
  rw [cap_scale, ← a] at d
  have e : outs fr to l gs s = outs fr to l fs s * k := by omega
  have f : cap fr to cp D l = cap fr to cp C l := by
    rw [e, cap_scale, a] at b
    exact (Int.eq_of_mul_eq_mul_right (by omega) b).symm
  refine ⟨e, fun v h0 h1 => ?_⟩
  have p := h.sub hn hE hs0 hs1 D g.hs g.ht f v h0 h1
  have q := g.sub hn hE' hs0 hs1 C h.hs h.ht (by rw [cap_scale, cap_scale, f]) v h0 h1
  cases hc : C v <;> cases hd : D v <;> simp_all

/-! reversing -/
theorem outs_rev : ∀ (l : List α) (fs : List Int) (v : Int), outs to fr l fs v = - outs fr to l fs v
  | [], _, _ => by simp [outs]
  | _ :: _, [], _ => by simp [outs]
  | x :: l, f :: fs, v => by simp only [outs, outs_rev l fs v]; omega

theorem Flow.rev {n s t : Int} {l : List α} {fs : List Int} (h : Flow fr to cp n l s t fs) : Flow to fr cp n l t s fs :=
  ⟨h.bnd, fun v p q r u => by rw [outs_rev, h.cons v p q u r]; rfl⟩

theorem Ends.rev {n : Int} {l : List α} (h : Ends fr to cp n l) : Ends to fr cp n l :=
  fun x hx => ⟨(h x hx).2.1, (h x hx).1, fun e => (h x hx).2.2.1 e.symm, (h x hx).2.2.2⟩

theorem reverse {n s t : Int} {l : List α} {fs gs : List Int} {C D : Int → Bool} (h : Opt fr to cp n l s t fs C) (g : Opt to fr cp n l t s gs D)
    (hn : 0 ≤ n) (hE : Ends fr to cp n l) (hs0 : 0 ≤ s) (hs1 : s < n) (ht0 : 0 ≤ t) (ht1 : t < n) (hne : s ≠ t) :
    outs to fr l gs t = outs fr to l fs s := by
  have a := h.value hn hE hs0 hs1
  have b := g.value hn hE.rev ht0 ht1
  have c := weak hn hE.rev h.flow.rev ht0 ht1 D g.hs g.ht
  have d := weak hn hE g.flow.rev hs0 hs1 C h.hs h.ht
  have e := value_end hn hE h.flow hs0 hs1 ht0 ht1 hne
  have f := value_end hn hE.rev g.flow ht0 ht1 hs0 hs1 (fun x => hne x.symm)
  rw [outs_rev] at c
  rw [outs_rev (fr := fr) (to := to)] at f
  omega

/-! a further edge -/
theorem outs_more (y : α) : ∀ (l : List α) (fs : List Int) (v : Int), fs.length = l.length → outs fr to (l ++ [y]) (fs ++ [0]) v = outs fr to l fs v
  | [], [], v, _ => by simp [outs]
  | [], _ :: _, v, h => by simp at h
  | _ :: _, [], v, h => by simp at h
  | x :: l, f :: fs, v, h => by simp only [List.cons_append, outs, outs_more y l fs v (by simpa using h)]

theorem Bnd_more (y : α) (hy : 0 ≤ cp y) : ∀ (l : List α) (fs : List Int), Bnd cp l fs → Bnd cp (l ++ [y]) (fs ++ [0])
  | [], [], _ => ⟨⟨Int.le_refl _, hy⟩, True.intro⟩
  | _ :: _, [], h => h.elim
  | [], _ :: _, h => h.elim
  | _ :: l, _ :: fs, h => ⟨h.1, Bnd_more y hy l fs h.2⟩

theorem cap_more (y : α) (hy : 0 ≤ cp y) (C : Int → Bool) : ∀ (l : List α), cap fr to cp C (l ++ [y]) ≤ cap fr to cp C l + cp y
  | [] => by simp only [List.nil_append, cap]; split <;> omega
  | x :: l => by
    have := cap_more y hy C l
    simp only [List.cons_append, cap]; omega

theorem more {n s t : Int} {l : List α} {y : α} {fs gs : List Int} {C D : Int → Bool} (h : Opt fr to cp n l s t fs C) (g : Opt fr to cp n (l ++ [y]) s t gs D)
    (hn : 0 ≤ n) (hE : Ends fr to cp n (l ++ [y])) (hs0 : 0 ≤ s) (hs1 : s < n) :
    outs fr to l fs s ≤ outs fr to (l ++ [y]) gs s ∧ outs fr to (l ++ [y]) gs s ≤ outs fr to l fs s + cp y := by
  have hl : Ends fr to cp n l := fun x hx => hE x (by simp [hx])
  have hy : 0 ≤ cp y := (hE y (by simp)).2.2.2.1
  have a := h.value hn hl hs0 hs1
  have b := g.value hn hE hs0 hs1
  have hf : Flow fr to cp n (l ++ [y]) s t (fs ++ [0]) :=
    ⟨Bnd_more y hy l fs h.flow.bnd, fun v p q r u => by rw [outs_more y l fs v h.flow.bnd.length]; exact h.flow.cons v p q r u⟩
  have c := weak hn hE hf hs0 hs1 D g.hs g.ht
  rw [outs_more y l fs s h.flow.bnd.length] at c
  have d := weak hn hE g.flow hs0 hs1 C h.hs h.ht
  have e := cap_more (fr := fr) (to := to) y hy C l
  omega
end
end FlowM
