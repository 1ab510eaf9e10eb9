/-
  A small proof system over the kit's walk: frames told by the slots that are live (Env, Fr), memory told by disjoint pieces (Ass, Sep, St), and rules for code, regions and operations over both. Nothing here speaks of one program.
-/
import Derived.WalkKit
import Derived.KernelRfl
import Derived.RowKit
import Derived.OrdersHeld
import Derived.WalkLawsBesides
import Derived.WalkSpells
import Derived.Deep.OwnRows
set_option linter.unusedVariables false
set_option linter.unusedSimpArgs false
namespace Go.Proofs.YtipoblpnkkcpgaaGreat.B
open Go Go.RowKit

/-! ### Frames -/
abbrev Env := List (Nat × Value)
def Env.look : Env → Nat → Option Value
  | [], _ => none
  | (j, v) :: r, k => bif Nat.beq j k then some v else Env.look r k
def Env.ev (L : Env) : Operand → Option Value
  | .tmp t => L.look t
  | .const v => some v
  | .global g => some (.pointer (some ⟨g, 0, none⟩))
  | .func f => some (.func (.func f) #[] #[])
def Env.evs (L : Env) : List Operand → Option (List Value)
  | [] => some []
  | x :: r => match L.ev x, Env.evs L r with
    | some v, some vs => some (v :: vs)
    | _, _ => none

structure Fr (n : Nat) (a : Act) (L : Env) : Prop where
  size : a.tmps.size = n
  defers : a.defers = []
  look : ∀ k v, L.look k = some v → a.tmps.getD k undef = v

theorem Fr.ev {n : Nat} {a : Act} {L : Env} (h : Fr n a L) {x : Operand} {v : Value} (hx : L.ev x = some v) : a.eval x = v := by
  cases x with
  | tmp t => exact h.look t v hx
  | const u => simpa [Env.ev, Act.eval] using hx
  | global g => simpa [Env.ev, Act.eval] using hx
  | func f => simpa [Env.ev, Act.eval] using hx

theorem Fr.evs {n : Nat} {a : Act} {L : Env} (h : Fr n a L) : ∀ {xs : List Operand} {vs : List Value}, L.evs xs = some vs → xs.map a.eval = vs
  | [], vs, hx => by simpa [Env.evs] using hx
  | x :: r, vs, hx => by
    unfold Env.evs at hx
    cases h1 : L.ev x with
    | none => simp [h1] at hx
    | some v =>
      cases h2 : L.evs r with
      | none => simp [h1, h2] at hx
      | some us =>
        simp only [h1, h2, Option.some.injEq] at hx
        subst hx
        simp [h.ev h1, h.evs h2]

theorem Env.look_cons (d : Nat) (v : Value) (L : Env) (k : Nat) : Env.look ((d, v) :: L) k = if d = k then some v else L.look k := by
  simp only [Env.look]
  by_cases h : d = k
  · subst h; simp
  · have : Nat.beq d k = false := by cases hb : Nat.beq d k; rfl; exact absurd (Nat.eq_of_beq_eq_true hb) h
    simp [this, h]

theorem Fr.put {n : Nat} {a : Act} {L : Env} (h : Fr n a L) (d : Nat) (hd : d < n) (v : Value) : Fr n (a.put (some d) v) ((d, v) :: L) := by
  refine ⟨by simp [Act.put, h.size], by simp [Act.put, h.defers], fun k u hk => ?_⟩
  rw [Env.look_cons] at hk
  have hs : d < a.tmps.size := by rw [h.size]; exact hd
  by_cases e : d = k
  · subst e
    simp at hk
    subst hk
    simp [Act.put, Array.getD_eq_getD_getElem?, Array.getElem?_setIfInBounds, hs]
  · rw [if_neg e] at hk
    have := h.look k u hk
    simp only [Act.put, Array.getD_eq_getD_getElem?, Array.getElem?_setIfInBounds, if_neg e] at this ⊢
    exact this

theorem Fr.put_none {n : Nat} {a : Act} {L : Env} (h : Fr n a L) (v : Value) : Fr n (a.put none v) L := h

/-- What an operation's target does to the frame. -/
def Env.to (L : Env) (d : Option Nat) (v : Value) : Env := match d with | some k => (k, v) :: L | none => L
def okDst (n : Nat) : Option Nat → Bool | some k => Nat.blt k n | none => true
theorem Fr.to {n : Nat} {a : Act} {L : Env} (h : Fr n a L) {d : Option Nat} (hd : okDst n d = true) (v : Value) : Fr n (a.put d v) (L.to d v) := by
  cases d with
  | none => exact h
  | some k => exact h.put k (by simpa [okDst, Nat.blt_eq] using hd) v

def Env.Sub : Env → Env → Prop
  | [], _ => True
  | (k, v) :: r, L => L.look k = some v ∧ Env.Sub r L
theorem Env.Sub.look : ∀ {L' L : Env}, Env.Sub L' L → ∀ k v, L'.look k = some v → L.look k = some v
  | [], _, _, k, v, h => by simp [Env.look] at h
  | (j, u) :: r, L, hs, k, v, h => by
    rw [Env.look_cons] at h
    by_cases e : j = k
    · subst e; simp at h; subst h; exact hs.1
    · rw [if_neg e] at h; exact Env.Sub.look hs.2 k v h
theorem Fr.sub {n : Nat} {a : Act} {L L' : Env} (h : Fr n a L) (hs : Env.Sub L' L) : Fr n a L' := ⟨h.size, h.defers, fun k v hk => h.look k v (hs.look k v hk)⟩

/-! ### Memory -/
structure Ass where
  holds : World → (Nat → Prop) → Prop
  loc : ∀ {w w' : World} {F : Nat → Prop}, holds w F → (∀ k, F k → w'.heap[k]? = w.heap[k]?) → holds w' F

def none0 : Nat → Prop := fun _ => False

/-- w' is w, grown: what was there is as it was. -/
structure Gr (w w' : World) : Prop where
  os : w'.os = w.os
  tape : w'.tape = w.tape
  output : w'.output = w.output
  size : w.heap.size ≤ w'.heap.size
  block : ∀ k, k < w.heap.size → w'.heap[k]? = w.heap[k]?
  drawn : w.drawn ≤ w'.drawn
theorem Gr.refl (w : World) : Gr w w := ⟨rfl, rfl, rfl, Nat.le_refl _, fun _ _ => rfl, Nat.le_refl _⟩
theorem Gr.below {w w' : World} (h : Gr w w') : Below w.heap.size w w' := ⟨h.os, h.tape, h.output, h.size, h.block⟩
theorem Gr.trans {a b c : World} (h : Gr a b) (k : Gr b c) : Gr a c :=
  ⟨k.os.trans h.os, k.tape.trans h.tape, k.output.trans h.output, Nat.le_trans h.size k.size, fun i hi => (k.block i (Nat.lt_of_lt_of_le hi h.size)).trans (h.block i hi), Nat.le_trans h.drawn k.drawn⟩
theorem Gr.cell {w w' : World} (h : Gr w w') {a : Addr} {v : Value} (hc : w.cell? a = some v) : w'.cell? a = some v := by
  have hb : a.block < w.heap.size := by
    unfold World.cell? at hc
    split at hc
    · rename_i hq; exact (Array.getElem?_eq_some_iff.1 hq).1
    · cases hc
  unfold World.cell? at hc ⊢
  rw [h.block _ hb]; exact hc

/-- w0 is as it was but for the blocks of F and new ones. -/
structure Mod (F : Nat → Prop) (w0 w : World) : Prop where
  os : w.os = w0.os
  tape : w.tape = w0.tape
  output : w.output = w0.output
  size : w0.heap.size ≤ w.heap.size
  block : ∀ k, k < w0.heap.size → ¬ F k → w.heap[k]? = w0.heap[k]?
  drawn : w0.drawn ≤ w.drawn

theorem Mod.refl (F : Nat → Prop) (w : World) : Mod F w w := ⟨rfl, rfl, rfl, Nat.le_refl _, fun _ _ _ => rfl, Nat.le_refl _⟩
theorem Mod.below {w0 w : World} (h : Mod none0 w0 w) : Gr w0 w := ⟨h.os, h.tape, h.output, h.size, fun k hk => h.block k hk (fun e => e), h.drawn⟩
theorem Mod.of_below {w0 w : World} (h : Gr w0 w) (F : Nat → Prop) : Mod F w0 w := ⟨h.os, h.tape, h.output, h.size, fun k hk _ => h.block k hk, h.drawn⟩
theorem Mod.mono {F F' : Nat → Prop} {w0 w : World} (h : Mod F w0 w) (hF : ∀ k, F k → F' k) : Mod F' w0 w := ⟨h.os, h.tape, h.output, h.size, fun k hk hn => h.block k hk (fun hf => hn (hF k hf)), h.drawn⟩
theorem Mod.trans {F G : Nat → Prop} {a b c : World} (h : Mod F a b) (k : Mod G b c) (hG : ∀ i, G i → F i ∨ a.heap.size ≤ i) : Mod F a c :=
  ⟨k.os.trans h.os, k.tape.trans h.tape, k.output.trans h.output, Nat.le_trans h.size k.size, fun i hi hn =>
    (k.block i (Nat.lt_of_lt_of_le hi h.size) (fun hg => (hG i hg).elim hn (fun hle => absurd hi (Nat.not_lt.2 hle)))).trans (h.block i hi hn), Nat.le_trans h.drawn k.drawn⟩

/-- No run takes draws back. -/
theorem drawn_setCell (w : World) (a : Addr) (v : Value) : (w.setCell a v).drawn = w.drawn := rfl
theorem ask_drawn {α : Type} : ∀ (x : Ask α) (w : World), w.drawn ≤ (w.ask x).2.drawn
  | .done a, w => Nat.le_refl _
  | .ask what range k, w => by
    unfold World.ask
    simp only
    split
    · exact ask_drawn (k 0) w
    · exact Nat.le_trans (Nat.le_succ w.drawn) (ask_drawn (k _) { w with drawn := w.drawn + 1 })
theorem sys_drawn (w : World) (c : Sys) : w.drawn ≤ (w.sys c).2.drawn := by
  have h := ask_drawn (Kernel.perform c w.os) w
  unfold World.sys
  split
  · exact Nat.le_refl _
  · rename_i hq; rw [hq] at h; exact h

theorem freeze_drawn (w : World) (a : Addr) (n : Nat) : (w.freeze a n).drawn = w.drawn := by
  unfold World.freeze; split <;> rfl
theorem view_drawn {p : Program} {w w' : World} {at_ k : Addr} {u : TypeId} {v : Value} {b : Bool} {l : List Addr} (h : w.viewStore p at_ u k v b = .ok (w', l)) : w'.drawn = w.drawn := by
  unfold World.viewStore at h
  simp only [bind, Except.bind, pure, Except.pure, throw, throwThe, MonadExceptOf.throw] at h
  repeat' (split at h)
  all_goals first | (cases h; done) | (cases h; rfl) | skip
theorem far_drawn {p : Program} {w w' : World} {a : Addr} {v : Value} {b : Bool} {l : List Addr} (h : w.farStore p a v b = .ok (w', l)) : w'.drawn = w.drawn := by
  unfold World.farStore at h
  split at h
  · split at h
    · rename_i hq; cases h; exact view_drawn hq
    · cases h
  · cases h
theorem run_drawn {α : Type} {p : Program} : ∀ (m : Sem α) (w : World) {a : α} {w' : World}, m.run p w = .ok a w' → w.drawn ≤ w'.drawn
  | .pure a, w, _, _, h => by cases h; exact Nat.le_refl _
  | .load m a k, w, _, _, h => by
    unfold Sem.run at h
    split at h
    · exact run_drawn _ _ h
    · split at h
      · exact run_drawn _ _ h
      · cases h
  | .store m a v k, w, _, _, h => by
    cases v <;> unfold Sem.run at h <;> (try (cases h; done)) <;>
    · split at h
      · split at h
        · cases h
        · exact run_drawn k (w.setCell a _) h
      · split at h
        · rename_i hq
          have h1 := far_drawn hq
          have h2 := run_drawn k _ h
          omega
        · cases h
  | .new o k, w, _, _, h => run_drawn (k w.heap.size) { w with heap := w.heap.push o } h
  | .shape r k, w, _, _, h => run_drawn (k (w.shape? r)) w h
  | .freeze a n k, w, _, _, h => by
    have := run_drawn k (w.freeze a n) h
    rw [freeze_drawn] at this
    exact this
  | .frozen a k, w, _, _, h => run_drawn (k (w.frozen? a)) w h
  | .getObj r k, w, _, _, h => by
    unfold Sem.run at h
    split at h
    · cases h
    · exact run_drawn _ _ h
    · cases h
  | .setObj r o k, w, _, _, h => by
    unfold Sem.run at h
    split at h
    · cases h
    · exact run_drawn k { w with heap := w.heap.setIfInBounds r o } h
    · cases h
  | .choose q k, w, _, _, h => by
    unfold Sem.run at h
    split at h
    · exact run_drawn _ _ h
    · exact Nat.le_trans (Nat.le_succ _) (run_drawn (k _) { w with drawn := w.drawn + 1 } h)
  | .sys c k, w, _, _, h => Nat.le_trans (sys_drawn w c) (run_drawn (k (w.sys c).1) (w.sys c).2 h)
  | .program k, w, _, _, h => run_drawn (k p) w h
  | .mark m k, w, _, _, h => run_drawn k w h
  | .halt h', w, _, _, h => by cases h

def Sep (w0 : World) (F0 : Nat → Prop) (w : World) : List Ass → (Nat → Prop) → Prop
  | [], _ => True
  | Φ :: H, U => ∃ F : Nat → Prop, (∀ k, F k → ¬ U k ∧ (F0 k ∨ w0.heap.size ≤ k) ∧ k < w.heap.size) ∧ Φ.holds w F ∧ Sep w0 F0 w H (fun k => U k ∨ F k)

structure St (w0 : World) (F0 : Nat → Prop) (w : World) (H : List Ass) : Prop where
  mod : Mod F0 w0 w
  sep : Sep w0 F0 w H none0

variable {w0 : World} {F0 : Nat → Prop}

theorem Sep.mono {w : World} : ∀ {H : List Ass} {U U' : Nat → Prop}, Sep w0 F0 w H U → (∀ k, U' k → U k) → Sep w0 F0 w H U'
  | [], _, _, _, _ => trivial
  | _ :: _, _, _, ⟨F, h1, h2, h3⟩, hu => ⟨F, fun k hk => ⟨fun hk' => (h1 k hk).1 (hu k hk'), (h1 k hk).2⟩, h2, h3.mono (fun k hk => hk.imp (hu k) id)⟩

/-- What is written lies outside all pieces; or in blocks that no piece has: all of them live on. -/
theorem Sep.frame {w w' : World} (hs : w.heap.size ≤ w'.heap.size) : ∀ {H : List Ass} {U : Nat → Prop}, Sep w0 F0 w H U → (∀ k, k < w.heap.size → ¬ U k → w'.heap[k]? = w.heap[k]?) → Sep w0 F0 w' H U
  | [], _, _, _ => trivial
  | Φ :: H, U, ⟨F, h1, h2, h3⟩, hb =>
    ⟨F, fun k hk => ⟨(h1 k hk).1, (h1 k hk).2.1, Nat.lt_of_lt_of_le (h1 k hk).2.2 hs⟩, Φ.loc h2 (fun k hk => hb k (h1 k hk).2.2 (h1 k hk).1),
      Sep.frame hs h3 (fun k hk hn => hb k hk (fun hu => hn (.inl hu)))⟩

/-- One piece, told by its number, is changed: by whatever leaves all blocks but its own as they were. -/
theorem Sep.upd {w : World} : ∀ {H : List Ass} {U : Nat → Prop} (i : Nat) (Φ : Ass), Sep w0 F0 w H U → H[i]? = some Φ →
    ∃ F : Nat → Prop, (∀ k, F k → ¬ U k ∧ (F0 k ∨ w0.heap.size ≤ k) ∧ k < w.heap.size) ∧ Φ.holds w F ∧
      ∀ (w' : World) (Ψ : Ass) (F' : Nat → Prop), w.heap.size ≤ w'.heap.size → w0.heap.size ≤ w.heap.size → (∀ k, k < w.heap.size → ¬ F k → w'.heap[k]? = w.heap[k]?) → Ψ.holds w' F' →
        (∀ k, F' k → F k ∨ (w.heap.size ≤ k ∧ k < w'.heap.size)) → (∀ k, U k → k < w.heap.size) → Sep w0 F0 w' (H.set i Ψ) U
  | [], _, i, Φ, _, hi => by simp at hi
  | Θ :: H, U, 0, Φ, ⟨F, h1, h2, h3⟩, hi => by
    simp at hi
    subst hi
    refine ⟨F, h1, h2, fun w' Ψ F' hs hs0 hb hΨ hF' hU => ⟨F', fun k hk => ?_, hΨ, ?_⟩⟩
    · rcases hF' k hk with h | h
      · exact ⟨(h1 k h).1, (h1 k h).2.1, Nat.lt_of_lt_of_le (h1 k h).2.2 hs⟩
      · exact ⟨fun hu => absurd (hU k hu) (Nat.not_lt.2 h.1), .inr (Nat.le_trans hs0 h.1), h.2⟩
    · have h3' := Sep.frame hs h3 (fun k hk hn => hb k hk (fun hf => hn (.inr hf)))
      -- the blocks of F' that are new are no blocks of the others
      have aux : ∀ {H : List Ass} {U V : Nat → Prop}, Sep w0 F0 w H U → (∀ k, k < w.heap.size → V k → U k) → (∀ k, k < w.heap.size → ¬ U k → w'.heap[k]? = w.heap[k]?) → Sep w0 F0 w' H V := by
        intro H
        induction H with
        | nil => intro _ _ _ _ _; trivial
        | cons Φ H ih =>
          intro U V ⟨G, g1, g2, g3⟩ hVU hb'
          exact ⟨G, fun k hk => ⟨fun hv => (g1 k hk).1 (hVU k (g1 k hk).2.2 hv), (g1 k hk).2.1, Nat.lt_of_lt_of_le (g1 k hk).2.2 hs⟩, Φ.loc g2 (fun k hk => hb' k (g1 k hk).2.2 (g1 k hk).1),
            ih g3 (fun k hk hv => hv.imp (hVU k hk) id) (fun k hk hn => hb' k hk (fun hu => hn (.inl hu)))⟩
      refine aux h3 (fun k hk hv => ?_) (fun k hk hn => hb k hk (fun hf => hn (.inr hf)))
      rcases hv with hv | hv
      · exact .inl hv
      · rcases hF' k hv with h | h
        · exact .inr h
        · exact absurd hk (Nat.not_lt.2 h.1)
  | Θ :: H, U, i + 1, Φ, ⟨F, h1, h2, h3⟩, hi => by
    obtain ⟨G, g1, g2, g3⟩ := Sep.upd i Φ h3 (by simpa using hi)
    refine ⟨G, fun k hk => ⟨fun hu => (g1 k hk).1 (.inl hu), (g1 k hk).2⟩, g2, fun w' Ψ F' hs hs0 hb hΨ hF' hU => ?_⟩
    refine ⟨F, fun k hk => ⟨(h1 k hk).1, (h1 k hk).2.1, Nat.lt_of_lt_of_le (h1 k hk).2.2 hs⟩, Θ.loc h2 (fun k hk => hb k (h1 k hk).2.2 (fun hg => (g1 k hg).1 (.inr hk))), ?_⟩
    exact g3 w' Ψ F' hs hs0 hb hΨ hF' (fun k hk => hk.elim (hU k) (fun h => (h1 k h).2.2))

theorem St.get {w : World} {H : List Ass} (h : St w0 F0 w H) (i : Nat) {Φ : Ass} (hi : H[i]? = some Φ) : ∃ F : Nat → Prop, Φ.holds w F ∧ ∀ k, F k → (F0 k ∨ w0.heap.size ≤ k) ∧ k < w.heap.size := by
  obtain ⟨F, h1, h2, _⟩ := h.sep.upd i Φ hi
  exact ⟨F, h2, fun k hk => (h1 k hk).2⟩

theorem St.set {w w' : World} {H : List Ass} (h : St w0 F0 w H) (i : Nat) {Φ Ψ : Ass} (hi : H[i]? = some Φ)
    (hx : ∀ F, Φ.holds w F → Mod F w w' ∧ ∃ F', Ψ.holds w' F' ∧ ∀ k, F' k → F k ∨ (w.heap.size ≤ k ∧ k < w'.heap.size)) : St w0 F0 w' (H.set i Ψ) := by
  obtain ⟨F, h1, h2, h3⟩ := h.sep.upd i Φ hi
  obtain ⟨hm, F', hΨ, hF'⟩ := hx F h2
  exact ⟨h.mod.trans hm (fun k hk => (h1 k hk).2.1), h3 w' Ψ F' hm.size h.mod.size hm.block hΨ hF' (fun k hk => hk.elim)⟩

/-- New memory beside all that is there. -/
theorem St.new {w w' : World} {H : List Ass} (h : St w0 F0 w H) {Ψ : Ass} (hb : Gr w w') {F' : Nat → Prop} (hΨ : Ψ.holds w' F') (hF : ∀ k, F' k → w.heap.size ≤ k ∧ k < w'.heap.size) : St w0 F0 w' (Ψ :: H) := by
  refine ⟨h.mod.trans (Mod.of_below hb none0) (fun k hk => hk.elim), F', fun k hk => ⟨fun hu => hu, .inr (Nat.le_trans h.mod.size (hF k hk).1), (hF k hk).2⟩, hΨ, ?_⟩
  have aux : ∀ {H : List Ass} {U V : Nat → Prop}, Sep w0 F0 w H U → (∀ k, k < w.heap.size → V k → U k) → Sep w0 F0 w' H V := by
    intro H
    induction H with
    | nil => intro _ _ _ _; trivial
    | cons Φ H ih =>
      intro U V ⟨G, g1, g2, g3⟩ hVU
      exact ⟨G, fun k hk => ⟨fun hv => (g1 k hk).1 (hVU k (g1 k hk).2.2 hv), (g1 k hk).2.1, Nat.lt_of_lt_of_le (g1 k hk).2.2 hb.size⟩, Φ.loc g2 (fun k hk => hb.block k (g1 k hk).2.2),
        ih g3 (fun k hk hv => hv.imp (hVU k hk) id)⟩
  refine aux h.sep (fun k hk hv => ?_)
  rcases hv with hv | hv
  · exact hv
  · exact absurd hk (Nat.not_lt.2 (hF k hv).1)

theorem St.keep {w w' : World} {H : List Ass} (h : St w0 F0 w H) (hb : Gr w w') : St w0 F0 w' H :=
  ⟨h.mod.trans (Mod.of_below hb none0) (fun k hk => hk.elim), Sep.frame hb.size h.sep (fun k hk _ => hb.block k hk)⟩

theorem St.drew {w : World} {H : List Ass} (h : St w0 F0 w H) : St w0 F0 { w with drawn := w.drawn + 1 } H :=
  h.keep ⟨rfl, rfl, rfl, Nat.le_refl _, fun _ _ => rfl, Nat.le_succ _⟩

theorem Sep.erase {w : World} : ∀ {H : List Ass} {U : Nat → Prop} (i : Nat), Sep w0 F0 w H U → Sep w0 F0 w (H.eraseIdx i) U
  | [], _, _, _ => by simp [List.eraseIdx]; trivial
  | _ :: _, _, 0, ⟨_, _, _, h3⟩ => h3.mono (fun _ hk => .inl hk)
  | _ :: _, _, i + 1, ⟨F, h1, h2, h3⟩ => ⟨F, h1, h2, h3.erase i⟩
theorem St.erase {w : World} {H : List Ass} (h : St w0 F0 w H) (i : Nat) : St w0 F0 w (H.eraseIdx i) := ⟨h.mod, h.sep.erase i⟩
theorem St.nil {w : World} {H : List Ass} (h : St w0 F0 w H) : St w0 F0 w [] := ⟨h.mod, trivial⟩

theorem St.conv {w : World} {H : List Ass} (h : St w0 F0 w H) (i : Nat) {Φ Ψ : Ass} (hi : H[i]? = some Φ) (hx : ∀ F, Φ.holds w F → Ψ.holds w F) : St w0 F0 w (H.set i Ψ) :=
  h.set i hi (fun F hF => ⟨Mod.refl _ _, F, hx F hF, fun _ hk => .inl hk⟩)

/-- Two pieces as one. -/
def Ass.star (Φ Ψ : Ass) : Ass where
  holds w F := ∃ A B : Nat → Prop, Φ.holds w A ∧ Ψ.holds w B ∧ (∀ k, A k → ¬ B k) ∧ ∀ k, F k ↔ A k ∨ B k
  loc := fun ⟨A, B, h1, h2, h3, h4⟩ hb => ⟨A, B, Φ.loc h1 (fun k hk => hb k ((h4 k).2 (.inl hk))), Ψ.loc h2 (fun k hk => hb k ((h4 k).2 (.inr hk))), h3, h4⟩

/-- The first two pieces as one. -/
theorem St.join {w : World} {Φ Ψ : Ass} {H : List Ass} (h : St w0 F0 w (Φ :: Ψ :: H)) : St w0 F0 w (Ass.star Φ Ψ :: H) := by
  obtain ⟨hm, A, a1, a2, C, c1, c2, c3⟩ := h
  refine ⟨hm, fun k => A k ∨ C k, fun k hk => ?_, ⟨A, C, a2, c2, fun k hA hC => (c1 k hC).1 (.inr hA), fun _ => Iff.rfl⟩, c3.mono (fun k hk => ?_)⟩
  · rcases hk with hk | hk
    · exact a1 k hk
    · exact ⟨fun hu => hu, (c1 k hk).2⟩
  · rcases hk with hk | hk
    · exact hk.elim
    · exact hk.elim (fun h => .inl (.inr h)) .inr

theorem St.split {w : World} {Φ Ψ : Ass} {H : List Ass} (h : St w0 F0 w (Ass.star Φ Ψ :: H)) : St w0 F0 w (Φ :: Ψ :: H) := by
  obtain ⟨hm, F, f1, ⟨A, C, a2, c2, hd, hF⟩, f3⟩ := h
  refine ⟨hm, A, fun k hk => f1 k ((hF k).2 (.inl hk)), a2, C, fun k hk => ⟨fun hu => hu.elim (fun h => h) (fun hA => hd k hA hk), (f1 k ((hF k).2 (.inr hk))).2⟩, c2, f3.mono (fun k hk => ?_)⟩
  rcases hk with (hk | hk) | hk
  · exact hk.elim
  · exact .inr ((hF k).2 (.inl hk))
  · exact .inr ((hF k).2 (.inr hk))

theorem Sep.swap {w : World} {Φ Ψ : Ass} {H : List Ass} {U : Nat → Prop} (h : Sep w0 F0 w (Φ :: Ψ :: H) U) : Sep w0 F0 w (Ψ :: Φ :: H) U := by
  obtain ⟨A, a1, a2, C, c1, c2, c3⟩ := h
  refine ⟨C, fun k hk => ⟨fun hu => (c1 k hk).1 (.inl hu), (c1 k hk).2⟩, c2, A, fun k hk => ⟨fun hu => hu.elim (fun h => (a1 k hk).1 h) (fun hC => (c1 k hC).1 (.inr hk)), (a1 k hk).2⟩, a2, c3.mono (fun k hk => ?_)⟩
  rcases hk with (hk | hk) | hk
  · exact .inl (.inl hk)
  · exact .inr hk
  · exact .inl (.inr hk)
/-- The piece of a number comes to the head. -/
theorem Sep.front {w : World} : ∀ {H : List Ass} {U : Nat → Prop} (i : Nat) {Φ : Ass}, Sep w0 F0 w H U → H[i]? = some Φ → Sep w0 F0 w (Φ :: H.eraseIdx i) U
  | [], _, i, _, _, hi => by simp at hi
  | Θ :: H, _, 0, Φ, h, hi => by simp at hi; subst hi; exact h
  | Θ :: H, _, i + 1, Φ, ⟨F, h1, h2, h3⟩, hi => Sep.swap (Φ := Θ) (Ψ := Φ) ⟨F, h1, h2, h3.front i (by simpa using hi)⟩
theorem St.front {w : World} {H : List Ass} (h : St w0 F0 w H) (i : Nat) {Φ : Ass} (hi : H[i]? = some Φ) : St w0 F0 w (Φ :: H.eraseIdx i) := ⟨h.mod, h.sep.front i hi⟩

/-- At the beginning. -/
theorem St.start (w : World) (F0 : Nat → Prop) : St w F0 w [] := ⟨Mod.refl _ _, trivial⟩
theorem St.start1 (w : World) {F0 : Nat → Prop} {Φ : Ass} (h : Φ.holds w F0) (hF : ∀ k, F0 k → k < w.heap.size) : St w F0 w [Φ] :=
  ⟨Mod.refl _ _, F0, fun k hk => ⟨fun hu => hu, .inl hk, hF k hk⟩, h, trivial⟩

/-- A row of cells. -/
def blk (b : Nat) (cs : List Value) (t : TypeId) : Ass where
  holds w F := w.heap[b]? = some (.cells cs.toArray t (0, 0)) ∧ ∀ k, F k ↔ k = b
  loc := fun ⟨h1, h2⟩ hb => ⟨(hb b ((h2 b).2 rfl)).trans h1, h2⟩

/-- A fact that speaks of no memory. -/
def pureA (p : Prop) : Ass where
  holds _ F := p ∧ ∀ k, ¬ F k
  loc := fun h _ => h

end Go.Proofs.YtipoblpnkkcpgaaGreat.B
