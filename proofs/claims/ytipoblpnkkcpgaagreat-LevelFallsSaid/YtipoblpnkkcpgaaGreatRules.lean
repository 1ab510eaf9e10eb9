/-
  The rules of the proof system: code, exits, regions in order, regions that draw their order, calls.
-/
import Derived.Test.YtipoblpnkkcpgaaGreatBase
import Derived.Deep.LoopGhost
set_option linter.unusedVariables false
set_option linter.unusedSimpArgs false
namespace Go.Proofs.YtipoblpnkkcpgaaGreat.B
open Go Go.RowKit

section
variable {P : Program} {n : Nat} {w0 : World} {F0 : Nat → Prop}

def CW (P : Program) (n : Nat) (w0 : World) (F0 : Nat → Prop) (c : Code) (Q : Exit → Act → World → Prop) (L : Env) (H : List Ass) : Prop :=
  ∀ a w, Fr n a L → St w0 F0 w H → c.wp P Q a w
def PW (n : Nat) (w0 : World) (F0 : Nat → Prop) (Q : Exit → Act → World → Prop) (e : Exit) (L : Env) (H : List Ass) : Prop :=
  ∀ a w, Fr n a L → St w0 F0 w H → Q e a w
def RW (P : Program) (n : Nat) (w0 : World) (F0 : Nat → Prop) (ops : Array Oper) (Q : Exit → Act → World → Prop) (L : Env) (H : List Ass) (rest : List Oper) : Prop :=
  ∀ a w, Fr n a L → St w0 F0 w H → wpList P ops Q rest a w
/-- The operation yields v and does nothing else. -/
def Yv (P : Program) (n : Nat) (w0 : World) (F0 : Nat → Prop) (o : Oper) (L : Env) (H : List Ass) (v : Value) : Prop :=
  ∀ a w, Fr n a L → St w0 F0 w H → (execOp a.eval o).run P w = .ok (.value v) w
/-- The operation, carried out, leaves a value and pieces of memory that R tells. -/
def Ow (P : Program) (n : Nat) (w0 : World) (F0 : Nat → Prop) (o : Oper) (L : Env) (H : List Ass) (R : Value → List Ass → Prop) : Prop :=
  ∀ a w, Fr n a L → St w0 F0 w H → ∀ (K : Act → World → Prop) (Q : Exit → Act → World → Prop),
    (∀ v H' w', R v H' → St w0 F0 w' H' → K (a.put o.dst v) w') → o.wp P a w K Q

variable {Q : Exit → Act → World → Prop} {L : Env} {H : List Ass} {ops : Array Oper}

/-! ### Code -/
theorem CW.seq {x y : Code} (h : CW P n w0 F0 x (Exit.then (y.wp P Q) Q) L H) : CW P n w0 F0 (.seq x y) Q L H := fun a w hf hs => wp_seq (h a w hf hs)
theorem CW.skip (h : PW n w0 F0 Q .normal L H) : CW P n w0 F0 .skip Q L H := fun a w hf hs => wp_skip (h a w hf hs)
theorem CW.ret (h : PW n w0 F0 Q .ret L H) : CW P n w0 F0 .ret Q L H := fun a w hf hs => wp_ret (h a w hf hs)
theorem CW.exit {id : Nat} (h : PW n w0 F0 Q (.exit id) L H) : CW P n w0 F0 (.exit id) Q L H := fun a w hf hs => wp_exit (h a w hf hs)
theorem CW.block {id : Nat} {c : Code} (h : CW P n w0 F0 c (Exit.inBlock id Q) L H) : CW P n w0 F0 (.block id c) Q L H := fun a w hf hs => wp_block (h a w hf hs)
theorem CW.region {id : Nat} {l : List Oper} (h : RW P n w0 F0 l.toArray Q L H l) : CW P n w0 F0 (.region id l.toArray false) Q L H := fun a w hf hs => wp_region_lit (h a w hf hs)
theorem CW.cond {c : Operand} {b : Bool} {x y : Code} (hc : L.ev c = some (.bool b)) (ht : b = true → CW P n w0 F0 x Q L H) (he : b = false → CW P n w0 F0 y Q L H) : CW P n w0 F0 (.cond c x y) Q L H :=
  fun a w hf hs => wp_cond_split (hf.ev hc) (fun h => ht h a w hf hs) (fun h => he h a w hf hs)
theorem CW.condD {c : Operand} {p : Prop} [Decidable p] {x y : Code} (hc : L.ev c = some (.bool (decide p))) (ht : p → CW P n w0 F0 x Q L H) (he : ¬ p → CW P n w0 F0 y Q L H) : CW P n w0 F0 (.cond c x y) Q L H :=
  CW.cond hc (fun h => ht (of_decide_eq_true h)) (fun h => he (of_decide_eq_false h))
theorem CW.condT {c : Operand} {x y : Code} (hc : L.ev c = some (.bool true)) (ht : CW P n w0 F0 x Q L H) : CW P n w0 F0 (.cond c x y) Q L H :=
  CW.cond hc (fun _ => ht) (fun h => by cases h)
theorem CW.condF {c : Operand} {x y : Code} (hc : L.ev c = some (.bool false)) (he : CW P n w0 F0 y Q L H) : CW P n w0 F0 (.cond c x y) Q L H :=
  CW.cond hc (fun h => by cases h) (fun _ => he)
theorem CW.sub {c : Code} (L' : Env) (hL : Env.Sub L' L) (h : CW P n w0 F0 c Q L' H) : CW P n w0 F0 c Q L H := fun a w hf hs => h a w (hf.sub hL) hs
theorem CW.mem {c : Code} (H' : List Ass) (hH : ∀ w, St w0 F0 w H → St w0 F0 w H') (h : CW P n w0 F0 c Q L H') : CW P n w0 F0 c Q L H := fun a w hf hs => h a w hf (hH w hs)
/-- What the memory says is laid beside it. -/
theorem CW.facts {c : Code} (p : Prop) (hp : ∀ w, St w0 F0 w H → p) (h : p → CW P n w0 F0 c Q L H) : CW P n w0 F0 c Q L H := fun a w hf hs => h (hp w hs) a w hf hs
theorem CW.label {l : Nat} (h : PW n w0 F0 Q .normal L H) : CW P n w0 F0 (.label l) Q L H := fun a w hf hs => wp_label (h a w hf hs)

/-! ### Exits -/
theorem PW.go {c : Code} {N : Exit → Act → World → Prop} (h : CW P n w0 F0 c Q L H) : PW n w0 F0 (Exit.then (c.wp P Q) N) .normal L H := h
theorem PW.then_exit {id : Nat} {N : Act → World → Prop} (h : PW n w0 F0 Q (.exit id) L H) : PW n w0 F0 (Exit.then N Q) (.exit id) L H := h
theorem PW.then_ret {N : Act → World → Prop} (h : PW n w0 F0 Q .ret L H) : PW n w0 F0 (Exit.then N Q) .ret L H := h
theorem PW.block {id : Nat} (h : PW n w0 F0 Q .normal L H) : PW n w0 F0 (Exit.inBlock id Q) .normal L H := h
theorem PW.block_ret {id : Nat} (h : PW n w0 F0 Q .ret L H) : PW n w0 F0 (Exit.inBlock id Q) .ret L H := h
theorem PW.block_exit {id : Nat} (h : PW n w0 F0 Q .normal L H) : PW n w0 F0 (Exit.inBlock id Q) (.exit id) L H := fun a w hf hs => by
  simp only [Exit.inBlock, if_true]; exact h a w hf hs
theorem PW.block_out {id j : Nat} (hj : Nat.beq j id = false) (h : PW n w0 F0 Q (.exit j) L H) : PW n w0 F0 (Exit.inBlock id Q) (.exit j) L H := fun a w hf hs => by
  have : j ≠ id := fun e => by subst e; simp at hj
  simp only [Exit.inBlock, if_neg this]; exact h a w hf hs
theorem PW.sub {e : Exit} (L' : Env) (hL : Env.Sub L' L) (h : PW n w0 F0 Q e L' H) : PW n w0 F0 Q e L H := fun a w hf hs => h a w (hf.sub hL) hs
theorem PW.mem {e : Exit} (H' : List Ass) (hH : ∀ w, St w0 F0 w H → St w0 F0 w H') (h : PW n w0 F0 Q e L H') : PW n w0 F0 Q e L H := fun a w hf hs => h a w hf (hH w hs)
theorem PW.facts {e : Exit} (p : Prop) (hp : ∀ w, St w0 F0 w H → p) (h : p → PW n w0 F0 Q e L H) : PW n w0 F0 Q e L H := fun a w hf hs => h (hp w hs) a w hf hs

/-! ### Loops -/
def Inv (n : Nat) (w0 : World) (F0 : Nat → Prop) {σ : Type} (φ : σ → Prop) (I : σ → Env) (J : σ → List Ass) (μ : σ → Nat) (m : Nat) : Act → World → Prop :=
  fun a w => ∃ s, φ s ∧ Fr n a (I s) ∧ St w0 F0 w (J s) ∧ μ s < m
theorem CW.loop {c : Code} {σ : Type} (φ : σ → Prop) (I : σ → Env) (J : σ → List Ass) (μ : σ → Nat) (s₀ : σ) (h₀ : φ s₀) (hL : Env.Sub (I s₀) L) (hH : ∀ w, St w0 F0 w H → St w0 F0 w (J s₀))
    (round : ∀ s, φ s → CW P n w0 F0 c (Exit.then (Inv n w0 F0 φ I J μ (μ s)) Q) (I s) (J s)) : CW P n w0 F0 (.loop c) Q L H := by
  intro a w hf hs
  refine wp_loop_ghost (fun m a w => ∃ s, μ s = m ∧ φ s ∧ Fr n a (I s) ∧ St w0 F0 w (J s)) (μ s₀) ⟨s₀, rfl, h₀, hf.sub hL, hH w hs⟩ ?_
  rintro m a w ⟨s, rfl, hφ, hf, hs⟩
  refine wp_mono (round s hφ a w hf hs) ?_
  intro e a' w' h
  cases e with
  | normal => obtain ⟨u, uφ, uf, us, um⟩ := h; exact ⟨μ u, um, u, rfl, uφ, uf, us⟩
  | exit id => exact h
  | goto l => exact h
  | ret => exact h
  | panic ch => exact h
  | outgrown => exact h
theorem PW.next {σ : Type} {φ : σ → Prop} {I : σ → Env} {J : σ → List Ass} {μ : σ → Nat} {m : Nat} (s : σ) (hφ : φ s) (hL : Env.Sub (I s) L) (hH : ∀ w, St w0 F0 w H → St w0 F0 w (J s)) (hm : μ s < m) :
    PW n w0 F0 (Exit.then (Inv n w0 F0 φ I J μ m) Q) .normal L H := fun _ w hf hs => ⟨s, hφ, hf.sub hL, hH w hs, hm⟩

/-! ### A cut: what is known between two pieces of code -/
def Mid (n : Nat) (w0 : World) (F0 : Nat → Prop) {σ : Type} (φ : σ → Prop) (I : σ → Env) (J : σ → List Ass) : Act → World → Prop := fun a w => ∃ s, φ s ∧ Fr n a (I s) ∧ St w0 F0 w (J s)
theorem CW.cut {x y : Code} {σ : Type} (φ : σ → Prop) (I : σ → Env) (J : σ → List Ass) (h1 : CW P n w0 F0 x (Exit.then (Mid n w0 F0 φ I J) Q) L H) (h2 : ∀ s, φ s → CW P n w0 F0 y Q (I s) (J s)) : CW P n w0 F0 (.seq x y) Q L H := by
  intro a w hf hs
  refine wp_seq (wp_mono (h1 a w hf hs) ?_)
  intro e a' w' h
  cases e with
  | normal => obtain ⟨s, hφ, hf', hs'⟩ := h; exact h2 s hφ a' w' hf' hs'
  | exit id => exact h
  | goto l => exact h
  | ret => exact h
  | panic ch => exact h
  | outgrown => exact h
theorem PW.mid {σ : Type} {φ : σ → Prop} {I : σ → Env} {J : σ → List Ass} (s : σ) (hφ : φ s) (hL : Env.Sub (I s) L) (hH : ∀ w, St w0 F0 w H → St w0 F0 w (J s)) : PW n w0 F0 (Exit.then (Mid n w0 F0 φ I J) Q) .normal L H :=
  fun _ w hf hs => ⟨s, hφ, hf.sub hL, hH w hs⟩

/-! ### Regions in order -/
theorem RW.nil (h : PW n w0 F0 Q .normal L H) : RW P n w0 F0 ops Q L H [] := fun a w hf hs => wpList_nil (h a w hf hs)

/-- The operation is to be carried out: it bears no guard; or its guard says yes. -/
def Gk (ops : Array Oper) (L : Env) (o : Oper) : Prop :=
  o.guard = none ∨ ∃ j want t, o.guard = some (j, want) ∧ (ops[j]?).bind (·.dst) = some t ∧ L.look t = some (.bool want)
def Gn (ops : Array Oper) (L : Env) (o : Oper) : Prop :=
  ∃ j want t v, o.guard = some (j, want) ∧ (ops[j]?).bind (·.dst) = some t ∧ L.look t = some v ∧ v ≠ .bool want
theorem look_some {a : Act} {t : Nat} {b : Bool} (hf : Fr n a L) (h : L.look t = some (.bool b)) : a.tmps[t]? = some (.bool b) := by
  have := hf.look t _ h
  rw [Array.getD_eq_getD_getElem?] at this
  cases hx : a.tmps[t]? with
  | none => rw [hx] at this; simp [undef] at this
  | some v => rw [hx] at this; simpa using this
theorem Gk.wanted {o : Oper} {a : Act} (h : Gk ops L o) (hf : Fr n a L) : Region.wanted o (yielded ops a.tmps) = true := by
  rcases h with h | ⟨j, want, t, hg, ht, hl⟩
  · simp [Region.wanted, h]
  · simp [Region.wanted, hg, yielded, ht, look_some hf hl]
theorem Gn.wanted {o : Oper} {a : Act} (h : Gn ops L o) (hf : Fr n a L) : Region.wanted o (yielded ops a.tmps) = false := by
  obtain ⟨j, want, t, v, hg, ht, hl, hb⟩ := h
  have h1 := hf.look t _ hl
  rw [Array.getD_eq_getD_getElem?] at h1
  simp only [Region.wanted, hg, yielded, ht, Option.bind_some]
  cases hx : a.tmps[t]? with
  | none => simp
  | some u =>
    rw [hx] at h1
    simp only [Option.getD_some] at h1
    subst h1
    cases u <;> simp
    rename_i b
    intro e
    exact hb (by rw [e])

theorem Yv.ow {o : Oper} {v : Value} (h : Yv P n w0 F0 o L H v) : Ow P n w0 F0 o L H (fun u H' => u = v ∧ H' = H) := by
  intro a w hf hs K Q hK
  unfold Oper.wp
  rw [h a w hf hs]
  exact hK _ _ _ ⟨rfl, rfl⟩ hs

theorem RW.o {o : Oper} {rest : List Oper} (R : Value → List Ass → Prop) (hg : Gk ops L o) (hd : okDst n o.dst = true) (hx : Ow P n w0 F0 o L H R)
    (h : ∀ v H', R v H' → RW P n w0 F0 ops Q (L.to o.dst v) H' rest) : RW P n w0 F0 ops Q L H (o :: rest) := by
  intro a w hf hs
  unfold wpList
  rw [if_pos (hg.wanted hf)]
  exact .inl (hx a w hf hs _ _ fun v H' w' hR hs' => h v H' hR _ _ (hf.to hd v) hs')
theorem RW.y {o : Oper} {rest : List Oper} {v : Value} (hg : Gk ops L o) (hd : okDst n o.dst = true) (hx : Yv P n w0 F0 o L H v)
    (h : RW P n w0 F0 ops Q (L.to o.dst v) H rest) : RW P n w0 F0 ops Q L H (o :: rest) :=
  RW.o _ hg hd hx.ow (fun u H' ⟨hu, hH⟩ => by subst hu; subst hH; exact h)
theorem RW.no {o : Oper} {rest : List Oper} (hg : Gn ops L o) (hd : okDst n o.dst = true)
    (h : RW P n w0 F0 ops Q (L.to o.dst undef) H rest) : RW P n w0 F0 ops Q L H (o :: rest) := by
  intro a w hf hs
  unfold wpList
  rw [if_neg (by rw [hg.wanted hf]; simp)]
  exact h _ _ (hf.to hd undef) hs
theorem RW.sub {rest : List Oper} (L' : Env) (hL : Env.Sub L' L) (h : RW P n w0 F0 ops Q L' H rest) : RW P n w0 F0 ops Q L H rest := fun a w hf hs => h a w (hf.sub hL) hs
theorem RW.mem {rest : List Oper} (H' : List Ass) (hH : ∀ w, St w0 F0 w H → St w0 F0 w H') (h : RW P n w0 F0 ops Q L H' rest) : RW P n w0 F0 ops Q L H rest := fun a w hf hs => h a w hf (hH w hs)
theorem RW.facts {rest : List Oper} (p : Prop) (hp : ∀ w, St w0 F0 w H → p) (h : p → RW P n w0 F0 ops Q L H rest) : RW P n w0 F0 ops Q L H rest := fun a w hf hs => h (hp w hs) a w hf hs
/-- A slot's bool is decided. -/
theorem RW.splitB {rest : List Oper} (t : Nat) {b : Bool} (ht : L.look t = some (.bool b)) (h1 : b = true → RW P n w0 F0 ops Q ((t, .bool true) :: L) H rest) (h2 : b = false → RW P n w0 F0 ops Q ((t, .bool false) :: L) H rest) :
    RW P n w0 F0 ops Q L H rest := by
  intro a w hf hs
  have key : ∀ c, b = c → Fr n a ((t, .bool c) :: L) := fun c hc => ⟨hf.size, hf.defers, fun k v hk => by
    rw [Env.look_cons] at hk
    by_cases e : t = k
    · subst e; simp at hk; subst hk; subst hc; exact hf.look _ _ ht
    · rw [if_neg e] at hk; exact hf.look _ _ hk⟩
  cases hb : b with
  | true => exact h1 hb a w (key true hb) hs
  | false => exact h2 hb a w (key false hb) hs
theorem RW.splitD {rest : List Oper} (t : Nat) {p : Prop} [Decidable p] (ht : L.look t = some (.bool (decide p))) (h1 : p → RW P n w0 F0 ops Q ((t, .bool true) :: L) H rest) (h2 : ¬ p → RW P n w0 F0 ops Q ((t, .bool false) :: L) H rest) :
    RW P n w0 F0 ops Q L H rest := RW.splitB t ht (fun h => h1 (of_decide_eq_true h)) (fun h => h2 (of_decide_eq_false h))

theorem Fr.isB {a : Act} {t : Nat} {b c : Bool} (hf : Fr n a L) (ht : L.look t = some (.bool b)) (hc : b = c) : Fr n a ((t, .bool c) :: L) := ⟨hf.size, hf.defers, fun k v hk => by
    rw [Env.look_cons] at hk
    by_cases e : t = k
    · subst e; simp at hk; subst hk; subst hc; exact hf.look _ _ ht
    · rw [if_neg e] at hk; exact hf.look _ _ hk⟩
theorem RW.isT {rest : List Oper} (t : Nat) {p : Prop} [Decidable p] (ht : L.look t = some (.bool (decide p))) (hp : p) (h : RW P n w0 F0 ops Q ((t, .bool true) :: L) H rest) : RW P n w0 F0 ops Q L H rest :=
  fun a w hf hs => h a w (hf.isB ht (decide_eq_true hp)) hs
theorem RW.isF {rest : List Oper} (t : Nat) {p : Prop} [Decidable p] (ht : L.look t = some (.bool (decide p))) (hp : ¬ p) (h : RW P n w0 F0 ops Q ((t, .bool false) :: L) H rest) : RW P n w0 F0 ops Q L H rest :=
  fun a w hf hs => h a w (hf.isB ht (decide_eq_false hp)) hs
theorem RW.isB {rest : List Oper} (t : Nat) {b c : Bool} (ht : L.look t = some (.bool b)) (hp : b = c) (h : RW P n w0 F0 ops Q ((t, .bool c) :: L) H rest) : RW P n w0 F0 ops Q L H rest :=
  fun a w hf hs => h a w (hf.isB ht hp) hs

/-! ### Regions that draw their order -/
def HW (P : Program) (n : Nat) (w0 : World) (F0 : Nat → Prop) (ops : Array Oper) (Q : Exit → Act → World → Prop) (H₀ : List Ass) (fuel : Nat) (listed : Array Bool) (L : Env) (H : List Ass) : Prop :=
  ∀ a w, Fr n a L → St w0 F0 w H → wpAnyH P .any ops Q (fun w => St w0 F0 w H₀) fuel listed a w

theorem CW.draw {id : Nat} (hm : P.follows .mixedOrders = true) (H₀ : List Ass) (h : HW P n w0 F0 ops Q H₀ ops.size (Array.replicate ops.size false) L H) : CW P n w0 F0 (.region id ops true) Q L H :=
  fun a w hf hs => wp_region_held (S := fun w => St w0 F0 w H₀) hm (h a _ hf hs.drew)

theorem CW.draw0 {id : Nat} (hm : P.follows .mixedOrders = true) (h : HW P n w0 F0 ops Q H ops.size (Array.replicate ops.size false) L H) : CW P n w0 F0 (.region id ops true) Q L H := CW.draw hm H h
variable {H₀ : List Ass} {fuel : Nat} {listed : Array Bool}
theorem CW.drawE {id : Nat} (hm : P.follows .mixedOrders = true) (hS : ∀ w, St w0 F0 w H → St w0 F0 w H₀) (h : HW P n w0 F0 ops Q H₀ ops.size (Array.replicate ops.size false) L H) : CW P n w0 F0 (.region id ops true) Q L H := CW.draw hm H₀ h
theorem HW.isT (t : Nat) {p : Prop} [Decidable p] (ht : L.look t = some (.bool (decide p))) (hp : p) (h : HW P n w0 F0 ops Q H₀ fuel listed ((t, .bool true) :: L) H) : HW P n w0 F0 ops Q H₀ fuel listed L H :=
  fun a w hf hs => h a w (hf.isB ht (decide_eq_true hp)) hs
theorem HW.isF (t : Nat) {p : Prop} [Decidable p] (ht : L.look t = some (.bool (decide p))) (hp : ¬ p) (h : HW P n w0 F0 ops Q H₀ fuel listed ((t, .bool false) :: L) H) : HW P n w0 F0 ops Q H₀ fuel listed L H :=
  fun a w hf hs => h a w (hf.isB ht (decide_eq_false hp)) hs
theorem HW.isB (t : Nat) {b c : Bool} (ht : L.look t = some (.bool b)) (hp : b = c) (h : HW P n w0 F0 ops Q H₀ fuel listed ((t, .bool c) :: L) H) : HW P n w0 F0 ops Q H₀ fuel listed L H :=
  fun a w hf hs => h a w (hf.isB ht hp) hs
/-- What only reads may be taken first. -/
theorem HW.take {o : Oper} {v : Value} (i : Nat) (hi : ops[i]? = some o) (hsel : Region.noSelect ops = true) (hfree : Region.free .any ops listed i = true) (hr : (Region.ready .any ops listed).contains i = true)
    (hQ : ∀ c a w, Q (.panic c) (a.put o.dst v) w → Q (.panic c) a w) (hg : Gk ops L o) (hd : okDst n o.dst = true) (hS : ∀ w, St w0 F0 w H → St w0 F0 w H₀) (hx : Yv P n w0 F0 o L H₀ v)
    (h : HW P n w0 F0 ops Q H₀ fuel (listed.setIfInBounds i true) (L.to o.dst v) H) : HW P n w0 F0 ops Q H₀ (fuel + 1) listed L H := by
  intro a w hf hs
  exact wpAnyH_take hi hsel hfree hr hQ (.inl ⟨hg.wanted hf, fun w' hw' => hx a w' hf hw'⟩) (hS w hs) (h _ _ (hf.to hd v) hs)
theorem HW.skip {o : Oper} (i : Nat) (hi : ops[i]? = some o) (hsel : Region.noSelect ops = true) (hfree : Region.free .any ops listed i = true) (hr : (Region.ready .any ops listed).contains i = true)
    (hQ : ∀ c a w, Q (.panic c) (a.put o.dst undef) w → Q (.panic c) a w) (hg : Gn ops L o) (hd : okDst n o.dst = true) (hS : ∀ w, St w0 F0 w H → St w0 F0 w H₀)
    (h : HW P n w0 F0 ops Q H₀ fuel (listed.setIfInBounds i true) (L.to o.dst undef) H) : HW P n w0 F0 ops Q H₀ (fuel + 1) listed L H := by
  intro a w hf hs
  exact wpAnyH_take hi hsel hfree hr hQ (.inr ⟨hg.wanted hf, rfl⟩) (hS w hs) (h _ _ (hf.to hd undef) hs)
theorem HW.opp {o : Oper} (i : Nat) (hi : ops[i]? = some o) (R : Value → List Ass → Prop) (hg : Gk ops L o) (hd : okDst n o.dst = true) (hx : Ow P n w0 F0 o L H R) (hS : ∀ v H', R v H' → ∀ w, St w0 F0 w H' → St w0 F0 w H₀)
    (h : ∀ v H', R v H' → HW P n w0 F0 ops Q H₀ fuel (listed.setIfInBounds i true) (L.to o.dst v) H') {a : Act} {w : World} (hf : Fr n a L) (hs : St w0 F0 w H) :
    wpOp P ops Q i (fun a' w' => St w0 F0 w' H₀ ∧ wpAnyH P .any ops Q (fun w => St w0 F0 w H₀) fuel (listed.setIfInBounds i true) a' w') a w := by
  unfold wpOp
  simp only [hi, hg.wanted hf, if_true]
  exact .inl (hx a w hf hs _ _ fun v H' w' hR hs' => ⟨hS v H' hR w' hs', h v H' hR _ _ (hf.to hd v) hs'⟩)
/-- The only one that may come up. -/
theorem HW.run {o : Oper} (i : Nat) (hi : ops[i]? = some o) (hr : Region.ready .any ops listed = [i]) (R : Value → List Ass → Prop) (hg : Gk ops L o) (hd : okDst n o.dst = true) (hx : Ow P n w0 F0 o L H R)
    (hS : ∀ v H', R v H' → ∀ w, St w0 F0 w H' → St w0 F0 w H₀) (h : ∀ v H', R v H' → HW P n w0 F0 ops Q H₀ fuel (listed.setIfInBounds i true) (L.to o.dst v) H') : HW P n w0 F0 ops Q H₀ (fuel + 1) listed L H := by
  intro a w hf hs
  refine wpAnyH_all hr (by simp) (fun j hj => ?_)
  simp only [List.mem_singleton] at hj
  subst hj
  exact HW.opp j hi R hg hd hx hS h hf hs
/-- One of two comes up. -/
theorem HW.run2 (i j : Nat) (hr : Region.ready .any ops listed = [i, j])
    (h1 : ∀ a w, Fr n a L → St w0 F0 w H → wpOp P ops Q i (fun a' w' => St w0 F0 w' H₀ ∧ wpAnyH P .any ops Q (fun w => St w0 F0 w H₀) fuel (listed.setIfInBounds i true) a' w') a w)
    (h2 : ∀ a w, Fr n a L → St w0 F0 w H → wpOp P ops Q j (fun a' w' => St w0 F0 w' H₀ ∧ wpAnyH P .any ops Q (fun w => St w0 F0 w H₀) fuel (listed.setIfInBounds j true) a' w') a w) : HW P n w0 F0 ops Q H₀ (fuel + 1) listed L H := by
  intro a w hf hs
  refine wpAnyH_all hr (by simp) (fun k hk => ?_)
  simp only [List.mem_cons, List.not_mem_nil, or_false] at hk
  rcases hk with rfl | rfl
  · exact h1 a w hf hs
  · exact h2 a w hf hs
/-- One of three comes up. -/
theorem HW.run3 (i j m : Nat) (hr : Region.ready .any ops listed = [i, j, m])
    (h1 : ∀ a w, Fr n a L → St w0 F0 w H → wpOp P ops Q i (fun a' w' => St w0 F0 w' H₀ ∧ wpAnyH P .any ops Q (fun w => St w0 F0 w H₀) fuel (listed.setIfInBounds i true) a' w') a w)
    (h2 : ∀ a w, Fr n a L → St w0 F0 w H → wpOp P ops Q j (fun a' w' => St w0 F0 w' H₀ ∧ wpAnyH P .any ops Q (fun w => St w0 F0 w H₀) fuel (listed.setIfInBounds j true) a' w') a w)
    (h3 : ∀ a w, Fr n a L → St w0 F0 w H → wpOp P ops Q m (fun a' w' => St w0 F0 w' H₀ ∧ wpAnyH P .any ops Q (fun w => St w0 F0 w H₀) fuel (listed.setIfInBounds m true) a' w') a w) : HW P n w0 F0 ops Q H₀ (fuel + 1) listed L H := by
  intro a w hf hs
  refine wpAnyH_all hr (by simp) (fun k hk => ?_)
  simp only [List.mem_cons, List.not_mem_nil, or_false] at hk
  rcases hk with rfl | rfl | rfl
  · exact h1 a w hf hs
  · exact h2 a w hf hs
  · exact h3 a w hf hs
theorem HW.done (hr : Region.ready .any ops listed = []) (h : PW n w0 F0 Q .normal L H) : HW P n w0 F0 ops Q H₀ fuel listed L H := fun a w hf hs => wpAnyH_done hr (h a w hf hs) fuel
theorem HW.sub (L' : Env) (hL : Env.Sub L' L) (h : HW P n w0 F0 ops Q H₀ fuel listed L' H) : HW P n w0 F0 ops Q H₀ fuel listed L H := fun a w hf hs => h a w (hf.sub hL) hs
theorem HW.facts (p : Prop) (hp : ∀ w, St w0 F0 w H → p) (h : p → HW P n w0 F0 ops Q H₀ fuel listed L H) : HW P n w0 F0 ops Q H₀ fuel listed L H := fun a w hf hs => h (hp w hs) a w hf hs
theorem HW.mem (H' : List Ass) (hH : ∀ w, St w0 F0 w H → St w0 F0 w H') (h : HW P n w0 F0 ops Q H₀ fuel listed L H') : HW P n w0 F0 ops Q H₀ fuel listed L H := fun a w hf hs => h a w hf (hH w hs)
theorem HW.splitB (t : Nat) {b : Bool} (ht : L.look t = some (.bool b)) (h1 : b = true → HW P n w0 F0 ops Q H₀ fuel listed ((t, .bool true) :: L) H) (h2 : b = false → HW P n w0 F0 ops Q H₀ fuel listed ((t, .bool false) :: L) H) :
    HW P n w0 F0 ops Q H₀ fuel listed L H := by
  intro a w hf hs
  have key : ∀ c, b = c → Fr n a ((t, .bool c) :: L) := fun c hc => ⟨hf.size, hf.defers, fun k v hk => by
    rw [Env.look_cons] at hk
    by_cases e : t = k
    · subst e; simp at hk; subst hk; subst hc; exact hf.look _ _ ht
    · rw [if_neg e] at hk; exact hf.look _ _ hk⟩
  cases hb : b with
  | true => exact h1 hb a w (key true hb) hs
  | false => exact h2 hb a w (key false hb) hs
theorem HW.splitD (t : Nat) {p : Prop} [Decidable p] (ht : L.look t = some (.bool (decide p))) (h1 : p → HW P n w0 F0 ops Q H₀ fuel listed ((t, .bool true) :: L) H) (h2 : ¬ p → HW P n w0 F0 ops Q H₀ fuel listed ((t, .bool false) :: L) H) :
    HW P n w0 F0 ops Q H₀ fuel listed L H := HW.splitB t ht (fun h => h1 (of_decide_eq_true h)) (fun h => h2 (of_decide_eq_false h))

/-! ### Calls -/
abbrev Enters (P : Program) (f : FuncId) : Prop := ∀ args w, (callFunc f args).run P w = .ok (.enter f args) w
theorem enters {f : FuncId} {fn : Func} {c : Code} (hf : P.funcs[f]? = some fn) (hname : (fn.name == "runtime.NumGoroutine") = false) (hb : fn.body = some c) : Enters P f := by
  intro args w
  have h1 : fn.name ≠ "runtime.NumGoroutine" := by simpa using hname
  simp [callFunc, hf, h1, hb, mark]

section
variable {dst : Option Tmp} {ty : TypeId} {pos : String} {aft : Array Edge} {g : Option (Nat × Bool)}
theorem Ow.call {f : FuncId} {args : List Operand} {vals : List Value} {tys : Array TypeId} {R : Value → List Ass → Prop} (he : Enters P f) (hv : L.evs args = some vals)
    (hc : ∀ w, St w0 F0 w H → Calls P f vals.toArray w (fun e w' => ∃ v H', e = .returned v ∧ R v H' ∧ St w0 F0 w' H')) :
    Ow P n w0 F0 ⟨dst, .call ⟨.value (.func f), args.toArray, tys⟩, ty, pos, aft, g⟩ L H R := by
  intro a w hf hs K Q hK
  have h1 := hf.evs hv
  unfold Oper.wp execOp
  simp only [resolve, Act.eval, Deferred.ofValue, invoke, Sem.run_bind, Sem.run_pure, Result.andThen_ok, List.map_toArray]
  rw [show (args.map a.eval) = vals from h1]
  simp only [Array.append_empty, Array.empty_append, he]
  exact (hc w hs).mono fun e w' ⟨v, H', hee, hR, hs'⟩ => by subst hee; exact hK v H' w' hR hs'
theorem Ow.callv {f : FuncId} {x : Operand} {cap : Array Value} {args : List Operand} {vals : List Value} {tys : Array TypeId} {R : Value → List Ass → Prop} (he : Enters P f) (hx : L.ev x = some (.func (.func f) #[] cap)) (hv : L.evs args = some vals)
    (hc : ∀ w, St w0 F0 w H → Calls P f (vals.toArray ++ cap) w (fun e w' => ∃ v H', e = .returned v ∧ R v H' ∧ St w0 F0 w' H')) :
    Ow P n w0 F0 ⟨dst, .call ⟨.value x, args.toArray, tys⟩, ty, pos, aft, g⟩ L H R := by
  intro a w hf hs K Q hK
  have h1 := hf.evs hv
  have h2 := hf.ev hx
  unfold Oper.wp execOp
  simp only [resolve, h2, Deferred.ofValue, invoke, Sem.run_bind, Sem.run_pure, Result.andThen_ok, List.map_toArray]
  rw [show (args.map a.eval) = vals from h1]
  simp only [Array.append_empty, Array.empty_append, he]
  exact (hc w hs).mono fun e w' ⟨v, H', hee, hR, hs'⟩ => by subst hee; exact hK v H' w' hR hs'

/-! Three forms of a callee's contract. -/
/-- It computes: what it yields is known, nothing of what was there turns. -/
theorem C.val {f : FuncId} {args : Array Value} {v : Value} (h : ∀ w, St w0 F0 w H → Calls P f args w (fun e w' => e = .returned v ∧ Gr w w')) :
    ∀ w, St w0 F0 w H → Calls P f args w (fun e w' => ∃ u H', e = .returned u ∧ (u = v ∧ H' = H) ∧ St w0 F0 w' H') :=
  fun w hs => (h w hs).mono fun _ _ ⟨he, hb⟩ => ⟨v, H, he, ⟨rfl, rfl⟩, hs.keep hb⟩
/-- It computes: what it yields is told. -/
theorem C.ex {f : FuncId} {args : Array Value} {ι : Type} {val : ι → Value} {φ : ι → Prop}
    (h : ∀ w, St w0 F0 w H → Calls P f args w (fun e w' => ∃ x, φ x ∧ e = .returned (val x) ∧ Gr w w')) :
    ∀ w, St w0 F0 w H → Calls P f args w (fun e w' => ∃ u H', e = .returned u ∧ (∃ x, φ x ∧ u = val x ∧ H' = H) ∧ St w0 F0 w' H') :=
  fun w hs => (h w hs).mono fun _ _ ⟨x, hφ, he, hb⟩ => ⟨val x, H, he, ⟨x, hφ, rfl, rfl⟩, hs.keep hb⟩
/-- It makes: what it yields comes with new memory. -/
theorem C.new {f : FuncId} {args : Array Value} {ι : Type} {val : ι → Value} {Ψ : ι → Ass} {φ : ι → Prop}
    (h : ∀ w, St w0 F0 w H → Calls P f args w (fun e w' => ∃ x, φ x ∧ e = .returned (val x) ∧ Gr w w' ∧ ∃ F, (Ψ x).holds w' F ∧ ∀ k, F k → w.heap.size ≤ k ∧ k < w'.heap.size)) :
    ∀ w, St w0 F0 w H → Calls P f args w (fun e w' => ∃ u H', e = .returned u ∧ (∃ x, φ x ∧ u = val x ∧ H' = Ψ x :: H) ∧ St w0 F0 w' H') :=
  fun w hs => (h w hs).mono fun _ _ ⟨x, hφ, he, hb, F, hF, hFF⟩ => ⟨val x, Ψ x :: H, he, ⟨x, hφ, rfl, rfl⟩, hs.new hb hF hFF⟩
/-- It writes: one piece of memory is another behind it. -/
theorem C.mut {f : FuncId} {args : Array Value} {ι : Type} {val : ι → Value} {Φ : Ass} {Ψ : ι → Ass} {φ : ι → Prop} (i : Nat) (hi : H[i]? = some Φ)
    (h : ∀ w F, Φ.holds w F → (∀ k, F k → k < w.heap.size) → Calls P f args w (fun e w' => ∃ x, φ x ∧ e = .returned (val x) ∧ Mod F w w' ∧ ∃ F', (Ψ x).holds w' F' ∧ ∀ k, F' k → F k ∨ (w.heap.size ≤ k ∧ k < w'.heap.size))) :
    ∀ w, St w0 F0 w H → Calls P f args w (fun e w' => ∃ u H', e = .returned u ∧ (∃ x, φ x ∧ u = val x ∧ H' = H.set i (Ψ x)) ∧ St w0 F0 w' H') := by
  intro w hs
  obtain ⟨F, h1, h2, h3⟩ := hs.sep.upd i Φ hi
  refine (h w F h2 (fun k hk => (h1 k hk).2.2)).mono fun e w' ⟨x, hφ, he, hm, F', hΨ, hF'⟩ => ⟨val x, H.set i (Ψ x), he, ⟨x, hφ, rfl, rfl⟩, ?_⟩
  exact ⟨hs.mod.trans hm (fun k hk => (h1 k hk).2.1), h3 w' (Ψ x) F' hm.size hs.mod.size hm.block hΨ hF' (fun k hk => hk.elim)⟩
end

/-! ### A function's beginning and end -/
theorem CW.enter {f : FuncId} {fn : Func} {c : Code} {args : List Value} {w : World} {R : Ending → World → Prop} (n : Nat) (H : List Ass) (hf : P.funcs[f]? = some fn) (hb : fn.body = some c) (hn : fn.ntmps = n) (hs : args.length ≤ n) (hst : St w F0 w H)
    {L : Env} (hL : (List.range args.length).zip args = L) (h : CW P n w F0 c (bodyPost P fn R) L H) : Calls P f args.toArray w R := by
  subst hL
  refine calls_of_wp hf hb (h _ w ⟨?_, rfl, ?_⟩ hst)
  · simp [hn]; omega
  · intro k v hk
    have aux : ∀ (l : List Value) (j : Nat), Env.look ((List.range' j l.length).zip l) k = some v → ∃ i, i < l.length ∧ k = j + i ∧ l[i]? = some v := by
      intro l
      induction l with
      | nil => intro j h; simp [Env.look] at h
      | cons x l ih =>
        intro j h
        rw [List.length_cons, List.range'_succ, List.zip_cons_cons, Env.look_cons] at h
        by_cases e : j = k
        · subst e; simp at h; exact ⟨0, by simp, by simp, by simp [h]⟩
        · rw [if_neg e] at h
          obtain ⟨i, h1, h2, h3⟩ := ih _ h
          exact ⟨i + 1, by simp; omega, by omega, by simpa using h3⟩
    rw [List.range_eq_range'] at hk
    obtain ⟨i, h1, h2, h3⟩ := aux args 0 hk
    have hki : k = i := by omega
    subst hki
    simp only [Array.getD_eq_getD_getElem?, Array.getElem?_append, List.size_toArray, h1, if_true, List.getElem?_toArray, h3, Option.getD_some]
theorem PW.ret0 {fn : Func} {R : Ending → World → Prop} (hr : fn.results = #[]) (h : ∀ w, St w0 F0 w H → R (.returned (.tuple #[])) w) : PW n w0 F0 (bodyPost P fn R) .ret L H :=
  fun a w hf hs => ⟨hf.defers, _, results_none hr a.tmps P w, h w hs⟩
theorem PW.end0 {fn : Func} {R : Ending → World → Prop} (hr : fn.results = #[]) (h : ∀ w, St w0 F0 w H → R (.returned (.tuple #[])) w) : PW n w0 F0 (bodyPost P fn R) .normal L H :=
  fun a w hf hs => ⟨hf.defers, _, results_none hr a.tmps P w, h w hs⟩
theorem PW.ret1 {fn : Func} {R : Ending → World → Prop} {t : Nat} {v : Value} (hr : fn.results = #[.tmp t]) (hv : L.look t = some v) (h : ∀ w, St w0 F0 w H → R (.returned v) w) : PW n w0 F0 (bodyPost P fn R) .ret L H :=
  fun a w hf hs => ⟨hf.defers, v, by rw [results_tmp hr a.tmps P w, hf.look t v hv], h w hs⟩
theorem PW.ret2 {fn : Func} {R : Ending → World → Prop} {t u : Nat} {v x : Value} (hr : fn.results = #[.tmp t, .tmp u]) (hv : L.look t = some v) (hx : L.look u = some x) (h : ∀ w, St w0 F0 w H → R (.returned (.tuple #[v, x])) w) : PW n w0 F0 (bodyPost P fn R) .ret L H :=
  fun a w hf hs => ⟨hf.defers, .tuple #[v, x], by rw [results_tmp2 hr a.tmps P w, hf.look t v hv, hf.look u x hx], h w hs⟩
theorem PW.ret3 {fn : Func} {R : Ending → World → Prop} {t u s : Nat} {v x y : Value} (hr : fn.results = #[.tmp t, .tmp u, .tmp s]) (hv : L.look t = some v) (hx : L.look u = some x) (hy : L.look s = some y) (h : ∀ w, St w0 F0 w H → R (.returned (.tuple #[v, x, y])) w) : PW n w0 F0 (bodyPost P fn R) .ret L H :=
  fun a w hf hs => ⟨hf.defers, .tuple #[v, x, y], by rw [results_tmp3 hr a.tmps P w, hf.look t v hv, hf.look u x hx, hf.look s y hy], h w hs⟩
theorem PW.retC {fn : Func} {R : Ending → World → Prop} {t : Nat} {e : TypeId} {ad : Addr} {vs : List Value} (hr : fn.results = #[.cell t e]) (hv : L.look t = some (.pointer (some ad))) (hagg : ∀ w, (isAgg e).run P w = .ok true w) (hz : ∀ w, (sizeOf e).run P w = .ok vs.length w)
    (hc : ∀ w, St w0 F0 w H → ∀ j v, vs[j]? = some v → w.cell? (ad.add j) = some v) (h : ∀ w, St w0 F0 w H → R (.returned (.agg vs.toArray)) w) : PW n w0 F0 (bodyPost P fn R) .ret L H := by
  refine fun a w hf hs => ⟨hf.defers, .agg vs.toArray, ?_, h w hs⟩
  have h1 := hf.look t _ hv
  rw [Array.getD_eq_getD_getElem?] at h1
  simp [results, hr, h1, asAddr, loadVar, hagg, hz, run_loadCells_list w ad vs (hc w hs)]
end
end Go.Proofs.YtipoblpnkkcpgaaGreat.B
