/-
  Rows of rows: a piece of memory for each inner row; star moved about; readings that come out of owned pieces.
-/
import Derived.Test.YtipoblpnkkcpgaaGreatPart
import Derived.Lib.MinMax
set_option linter.unusedVariables false
set_option linter.unusedSimpArgs false
namespace Go.Proofs.YtipoblpnkkcpgaaGreat.B
open Go Go.RowKit

def rowsA (e : TypeId) : List Value → List (List Value) → Ass
  | [], [] => pureA True
  | v :: vs, x :: xs => Ass.star (row v e 1 x.length x) (rowsA e vs xs)
  | _, _ => pureA False

theorem rowsA_len {e : TypeId} {w : World} : ∀ {vs : List Value} {xs : List (List Value)} {F : Nat → Prop}, (rowsA e vs xs).holds w F → vs.length = xs.length
  | [], [], _, _ => rfl
  | v :: vs, x :: xs, F, ⟨A, B, _, h2, _⟩ => by simp [rowsA_len h2]
  | [], x :: xs, F, h => by exact absurd h.1 id
  | v :: vs, [], F, h => by exact absurd h.1 id
theorem Ass.star_left {Φ Ψ Θ : Ass} {w : World} {F : Nat → Prop} (h : (Ass.star Φ (Ass.star Ψ Θ)).holds w F) : (Ass.star Ψ (Ass.star Φ Θ)).holds w F := by
  obtain ⟨A, B, a, ⟨C, D, c, d, hcd, hB⟩, hab, hF⟩ := h
  refine ⟨C, fun k => A k ∨ D k, c, ⟨A, D, a, d, fun k hA hD => hab k hA ((hB k).2 (.inr hD)), fun _ => Iff.rfl⟩, fun k hC hq => ?_, fun k => ?_⟩
  · rcases hq with hA | hD
    · exact hab k hA ((hB k).2 (.inl hC))
    · exact hcd k hC hD
  · rw [hF, hB]
    constructor
    · rintro (h | h | h)
      · exact .inr (.inl h)
      · exact .inl h
      · exact .inr (.inr h)
    · rintro (h | h | h)
      · exact .inr (.inl h)
      · exact .inl h
      · exact .inr (.inr h)
theorem Ass.star_mono {Φ Ψ Ψ' : Ass} {w : World} {F : Nat → Prop} (h : (Ass.star Φ Ψ).holds w F) (hx : ∀ G, Ψ.holds w G → Ψ'.holds w G) : (Ass.star Φ Ψ').holds w F := by
  obtain ⟨A, B, a, b, hab, hF⟩ := h
  exact ⟨A, B, a, hx B b, hab, hF⟩
theorem rowsA_get {e : TypeId} {w : World} : ∀ {vs : List Value} {xs : List (List Value)} {F : Nat → Prop} (p : Nat) {v : Value} {x : List Value}, (rowsA e vs xs).holds w F → vs[p]? = some v → xs[p]? = some x →
    (Ass.star (row v e 1 x.length x) (rowsA e (vs.eraseIdx p) (xs.eraseIdx p))).holds w F
  | [], [], _, p, _, _, _, hv, _ => by simp at hv
  | v :: vs, x :: xs, F, 0, v', x', h, hv, hx => by simp at hv hx; subst hv; subst hx; exact h
  | v :: vs, x :: xs, F, p + 1, v', x', h, hv, hx => by
    have h2 := Ass.star_mono h (fun G hG => rowsA_get p hG (by simpa using hv) (by simpa using hx))
    exact Ass.star_left h2
  | [], x :: xs, F, p, _, _, h, _, _ => by exact absurd h.1 id
  | v :: vs, [], F, p, _, _, h, _, _ => by exact absurd h.1 id
theorem rowsA_put {e : TypeId} {w : World} : ∀ {vs : List Value} {xs : List (List Value)} {F : Nat → Prop} (p : Nat) {v : Value} {x : List Value}, p < vs.length → p < xs.length →
    (Ass.star (row v e 1 x.length x) (rowsA e (vs.eraseIdx p) (xs.eraseIdx p))).holds w F → (rowsA e (vs.set p v) (xs.set p x)).holds w F
  | [], xs, _, p, _, _, h, _, _ => by simp at h
  | v :: vs, [], _, p, _, _, _, h, _ => by simp at h
  | v :: vs, x :: xs, F, 0, v', x', _, _, h => h
  | v :: vs, x :: xs, F, p + 1, v', x', hp, hq, h => by
    have h2 := Ass.star_left h
    exact Ass.star_mono h2 (fun G hG => rowsA_put p (by simpa using hp) (by simpa using hq) hG)
theorem rowsA_nil {e : TypeId} {w : World} : ∀ (n : Nat), (rowsA e (List.replicate n (.slice none 0 0)) (List.replicate n [])).holds w none0
  | 0 => ⟨trivial, fun _ h => h⟩
  | n + 1 => ⟨none0, none0, ⟨World.ownsRow_nil w 0 e 1, fun k => ⟨fun h => h.elim, fun h => by simp [Value.ownBlock] at h⟩⟩, rowsA_nil n, fun _ h => h.elim, fun _ => ⟨fun h => h.elim, fun h => h.elim id id⟩⟩

section
variable {w0 : World} {F0 : Nat → Prop} {H : List Ass}
theorem St.rows_nil {w : World} (hs : St w0 F0 w H) (e : TypeId) (n : Nat) : St w0 F0 w (rowsA e (List.replicate n (.slice none 0 0)) (List.replicate n []) :: H) :=
  hs.new (F' := none0) (Gr.refl _) (rowsA_nil n) (fun k hk => hk.elim)
theorem St.rows_len {w : World} (hs : St w0 F0 w H) (i : Nat) {e : TypeId} {vs : List Value} {xs : List (List Value)} (hi : H[i]? = some (rowsA e vs xs)) : vs.length = xs.length := by
  obtain ⟨F, hF, _⟩ := hs.get i hi
  exact rowsA_len hF
/-- The inner row p by itself, ahead of all. -/
theorem St.focus {w : World} (hs : St w0 F0 w H) (i : Nat) {e : TypeId} {vs : List Value} {xs : List (List Value)} (hi : H[i]? = some (rowsA e vs xs)) (p : Nat) {v : Value} {x : List Value} (hv : vs[p]? = some v) (hx : xs[p]? = some x) :
    St w0 F0 w (row v e 1 x.length x :: rowsA e (vs.eraseIdx p) (xs.eraseIdx p) :: H.eraseIdx i) := by
  have h1 := hs.front i hi
  exact (h1.conv 0 rfl (fun F h => rowsA_get p h hv hx)).split
theorem St.unfocus {w : World} {e : TypeId} {vs : List Value} {xs : List (List Value)} {v : Value} {m : Nat} {x : List Value} {p : Nat} (hs : St w0 F0 w (row v e 1 m x :: rowsA e (vs.eraseIdx p) (xs.eraseIdx p) :: H)) (hp : p < vs.length) (hq : p < xs.length) (hm : m = x.length) :
    St w0 F0 w (rowsA e (vs.set p v) (xs.set p x) :: H) := by
  subst hm
  exact hs.join.conv 0 rfl (fun F h => rowsA_put p hp hq h)
/-- A fact that hangs on a piece's blocks alone. -/
def nowA (p : World → Prop) : Ass where
  holds w F := ∀ w', (∀ k, F k → w'.heap[k]? = w.heap[k]?) → p w'
  loc := fun h hb w' hw => h w' (fun k hk => (hw k hk).trans (hb k hk))
theorem St.now {w : World} {p : World → Prop} (hs : St w0 F0 w H) (i : Nat) (hi : H[i]? = some (nowA p)) : p w := by
  obtain ⟨F, hF, _⟩ := hs.get i hi
  exact hF w (fun _ _ => rfl)
theorem nowA_join {p q : World → Prop} {w : World} {F : Nat → Prop} (h : (Ass.star (nowA p) (nowA q)).holds w F) : (nowA (fun w => p w ∧ q w)).holds w F := by
  obtain ⟨A, B, h1, h2, _, hF⟩ := h
  exact fun w' hw => ⟨h1 w' (fun k hk => hw k ((hF k).2 (.inl hk))), h2 w' (fun k hk => hw k ((hF k).2 (.inr hk)))⟩
theorem St.nowJoin {w : World} {p q : World → Prop} (hs : St w0 F0 w (nowA p :: nowA q :: H)) : St w0 F0 w (nowA (fun w => p w ∧ q w) :: H) := hs.join.conv 0 rfl (fun F h => nowA_join h)
theorem St.nowWeak {w : World} (hs : St w0 F0 w H) (i : Nat) {p q : World → Prop} (hi : H[i]? = some (nowA p)) (hx : ∀ w, p w → q w) : St w0 F0 w (H.set i (nowA q)) := hs.conv i hi (fun F h w' hw => hx w' (h w' hw))
theorem now_of {w : World} {p : World → Prop} (h : ∃ F, (nowA p).holds w F) : p w := h.elim fun _ h => h w (fun _ _ => rfl)
def Hold (w : World) (H : List Ass) : Prop := ∀ (i : Nat) (Φ : Ass), H[i]? = some Φ → ∃ F : Nat → Prop, Φ.holds w F
/-- What a call hands out, as a fact that hangs on new blocks alone. -/
theorem St.outNow {w w1 : World} (hs : St w none0 w1 H) (p : World → Prop) (hp : ∀ w', Hold w' H → p w') : ∃ F : Nat → Prop, (nowA p).holds w1 F ∧ ∀ k, F k → w.heap.size ≤ k ∧ k < w1.heap.size := by
  refine ⟨fun k => w.heap.size ≤ k ∧ k < w1.heap.size, fun w' hw => hp w' (fun i Φ hi => ?_), fun k hk => hk⟩
  obtain ⟨F, h1, h2⟩ := hs.get i hi
  exact ⟨F, Φ.loc h1 (fun k hk => hw k ⟨((h2 k hk).1).elim (fun h => h.elim) id, (h2 k hk).2⟩)⟩
theorem Sep.hold {w : World} : ∀ {H : List Ass} {U : Nat → Prop}, Sep w0 F0 w H U → Hold w H
  | [], _, _, i, Φ, hi => by simp at hi
  | Θ :: H, _, ⟨F, _, h2, h3⟩, 0, Φ, hi => by simp at hi; subst hi; exact ⟨F, h2⟩
  | Θ :: H, _, ⟨F, _, h2, h3⟩, i + 1, Φ, hi => h3.hold i Φ (by simpa using hi)
theorem St.hold {w : World} (hs : St w0 F0 w H) : Hold w H := hs.sep.hold
/-- It writes a piece; the state it is called in is told. -/
theorem C.mutH {P : Program} {f : FuncId} {args : Array Value} {ι : Type} {val : ι → Value} {Φ : Ass} {Ψ : ι → Ass} {φ : ι → Prop} (i : Nat) (hi : H[i]? = some Φ)
    (h : ∀ w F, St w0 F0 w H → Φ.holds w F → (∀ k, F k → (F0 k ∨ w0.heap.size ≤ k) ∧ k < w.heap.size) → Calls P f args w (fun e w' => ∃ x, φ x ∧ e = .returned (val x) ∧ Mod F w w' ∧ ∃ F', (Ψ x).holds w' F' ∧ ∀ k, F' k → F k ∨ (w.heap.size ≤ k ∧ k < w'.heap.size))) :
    ∀ w, St w0 F0 w H → Calls P f args w (fun e w' => ∃ u H', e = .returned u ∧ (∃ x, φ x ∧ u = val x ∧ H' = H.set i (Ψ x)) ∧ St w0 F0 w' H') := by
  intro w hs
  obtain ⟨F, h1, h2, h3⟩ := hs.sep.upd i Φ hi
  refine (h w F hs h2 (fun k hk => ⟨(h1 k hk).2.1, (h1 k hk).2.2⟩)).mono fun e w' ⟨x, hφ, he, hm, F', hΨ, hF'⟩ => ⟨val x, H.set i (Ψ x), he, ⟨x, hφ, rfl, rfl⟩, ?_⟩
  exact ⟨hs.mod.trans hm (fun k hk => (h1 k hk).2.1), h3 w' (Ψ x) F' hm.size hs.mod.size hm.block hΨ hF' (fun k hk => hk.elim)⟩
theorem Gr.modOut {w w' W : World} {F : Nat → Prop} (h : Gr w w') (hm : Mod F w' W) (hF : ∀ k, F k → w.heap.size ≤ k) : Gr w W :=
  ⟨hm.os.trans h.os, hm.tape.trans h.tape, hm.output.trans h.output, Nat.le_trans h.size hm.size, fun k hk => (hm.block k (Nat.lt_of_lt_of_le hk h.size) (fun hf => absurd hk (Nat.not_lt.2 (hF k hf)))).trans (h.block k hk), Nat.le_trans h.drawn hm.drawn⟩
/-- It writes the first piece; what the others say stays so, whatever turns of the first. -/
theorem C.mut0 {P : Program} {f : FuncId} {args : Array Value} {ι : Type} {val : ι → Value} {Φ : Ass} {Ψ : ι → Ass} {φ : ι → Prop} 
    (h : ∀ w F, Φ.holds w F → (∀ k, F k → k < w.heap.size) → (∀ W, Mod F w W → Hold W H) → Calls P f args w (fun e w' => ∃ x, φ x ∧ e = .returned (val x) ∧ Mod F w w' ∧ ∃ F', (Ψ x).holds w' F' ∧ ∀ k, F' k → F k ∨ (w.heap.size ≤ k ∧ k < w'.heap.size))) :
    ∀ w, St w0 F0 w (Φ :: H) → Calls P f args w (fun e w' => ∃ u H', e = .returned u ∧ (∃ x, φ x ∧ u = val x ∧ H' = Ψ x :: H) ∧ St w0 F0 w' H') := by
  intro w hs
  obtain ⟨hm0, F, f1, f2, f3⟩ := hs
  have hs' : St w0 F0 w (Φ :: H) := ⟨hm0, F, f1, f2, f3⟩
  refine (h w F f2 (fun k hk => (f1 k hk).2.2) (fun W hW => ?_)).mono fun e w' ⟨x, hφ, he, hm, F', hΨ, hF'⟩ => ⟨val x, Ψ x :: H, he, ⟨x, hφ, rfl, rfl⟩, ?_⟩
  · exact (Sep.frame hW.size f3 (fun k hk hn => hW.block k hk (fun hf => hn (.inr hf)))).hold
  · refine ⟨hm0.trans hm (fun k hk => (f1 k hk).2.1), F', fun k hk => ?_, hΨ, ?_⟩
    · rcases hF' k hk with h | h
      · exact ⟨(f1 k h).1, (f1 k h).2.1, Nat.lt_of_lt_of_le (f1 k h).2.2 hm.size⟩
      · exact ⟨fun hu => hu, .inr (Nat.le_trans hm0.size h.1), h.2⟩
    · have h3' := Sep.frame hm.size f3 (fun k hk hn => hm.block k hk (fun hf => hn (.inr hf)))
      have aux : ∀ {H : List Ass} {U V : Nat → Prop}, Sep w0 F0 w H U → (∀ k, k < w.heap.size → V k → U k) → (∀ k, k < w.heap.size → ¬ U k → w'.heap[k]? = w.heap[k]?) → Sep w0 F0 w' H V := by
        intro H
        induction H with
        | nil => intro _ _ _ _ _; trivial
        | cons Φ H ih =>
          intro U V ⟨G, g1, g2, g3⟩ hVU hb'
          exact ⟨G, fun k hk => ⟨fun hv => (g1 k hk).1 (hVU k (g1 k hk).2.2 hv), (g1 k hk).2.1, Nat.lt_of_lt_of_le (g1 k hk).2.2 hm.size⟩, Φ.loc g2 (fun k hk => hb' k (g1 k hk).2.2 (g1 k hk).1),
            ih g3 (fun k hk hv => hv.imp (hVU k hk) id) (fun k hk hn => hb' k hk (fun hu => hn (.inl hu)))⟩
      refine aux f3 (fun k hk hv => ?_) (fun k hk hn => hm.block k hk (fun hf => hn (.inr hf)))
      rcases hv with hv | hv
      · exact hv.elim
      · rcases hF' k hv with h | h
        · exact .inr h
        · exact absurd hk (Nat.not_lt.2 h.1)
end
section
variable {P : Program} {n : Nat} {w0 : World} {F0 : Nat → Prop} {L : Env} {H : List Ass} {Q : Exit → Act → World → Prop}
variable {dst : Option Tmp} {ty : TypeId} {pos : String} {aft : Array Edge} {g : Option (Nat × Bool)}
theorem _root_.Go.Proofs.YtipoblpnkkcpgaaGreat.blk_at {w : World} {b : Nat} {cs : List Value} {t : TypeId} (h : ∃ F, (blk b cs t).holds w F) : w.heap[b]? = some (.cells cs.toArray t (0, 0)) := h.elim fun _ h => h.1
theorem St.blk_eq {w : World} {H : List Ass} (hs : St w0 F0 w H) (i : Nat) {b : Nat} {cs cs' : List Value} {t : TypeId} (hi : H[i]? = some (blk b cs t)) (h : cs = cs') : St w0 F0 w (H.set i (blk b cs' t)) := by
  subst h; exact hs.conv i hi (fun F hF => hF)
/-- What stays, whatever turns of the call's own pieces. -/
theorem CF.keep {ad : Addr} {v : Value} (h : ∀ W, Mod F0 w0 W → W.cell? ad = some v) : CF w0 F0 H ad v := fun w hs => h w hs.mod
theorem CFs.keep {ad : Addr} {vs : List Value} (h : ∀ W, Mod F0 w0 W → ∀ j v, vs[j]? = some v → W.cell? (ad.add j) = some v) : CFs w0 F0 H ad vs := fun w hs => h w hs.mod
theorem CF.keepB {b o : Nat} {cs : List Value} {t : TypeId} {v : Value} (h : ∀ W, Mod F0 w0 W → W.heap[b]? = some (.cells cs.toArray t (0, 0))) (hv : cs[o]? = some v) : CF w0 F0 H ⟨b, o, none⟩ v := fun w hs => by
  rw [cell_row (h w hs.mod), hv]
theorem CFs.part {b o : Nat} {cs pre vs post : List Value} {t : TypeId} (i : Nat) (hi : H[i]? = some (B.blk b cs t)) (hcs : cs = pre ++ vs ++ post) (ho : o = pre.length) : CFs w0 F0 H ⟨b, o, none⟩ vs := by
  refine CFs.blk i hi (fun j v hj => ?_)
  have hjl := (List.getElem?_eq_some_iff.1 hj).1
  rw [hcs, ho, List.append_assoc, List.getElem?_append_right (by omega), Nat.add_sub_cancel_left, List.getElem?_append_left hjl]; exact hj
theorem St.outMut {w w1 : World} {F : Nat → Prop} {H : List Ass} (hs : St w F w1 H) (i : Nat) {Φ : Ass} (hi : H[i]? = some Φ) : ∃ F' : Nat → Prop, Φ.holds w1 F' ∧ ∀ k, F' k → F k ∨ (w.heap.size ≤ k ∧ k < w1.heap.size) := by
  obtain ⟨F', h1, h2⟩ := hs.get i hi
  exact ⟨F', h1, fun k hk => ((h2 k hk).1).imp id (fun a => ⟨a, (h2 k hk).2⟩)⟩
/-- copy over a whole row of the call's own. -/
theorem Ow.copyAll {t t' e e' : TypeId} {x y : Operand} {z : Value} {by_ b cap m c : Nat} {A : Option Addr} {xs ys : List Value} (i : Nat) (hu : P.underlying t = some (.slice e)) (hinfo : (P.info? e).map (fun i => (i.zero, i.size, i.bytes)) = some (some z, 1, by_))
    (hx : L.ev x = some (.slice (some ⟨b, 0, none⟩) m cap)) (hy : L.ev y = some (.slice A m c)) (hi : H[i]? = some (row (.slice (some ⟨b, 0, none⟩) m cap) e' 1 m xs)) (hr : ∀ w, St w0 F0 w H → Rd w A 1 m ys) (h1 : ∀ v ∈ ys, v.oneCell' = true) :
    Ow P n w0 F0 ⟨dst, .call ⟨.builtin .copy, #[x, y], #[t, t']⟩, ty, pos, aft, g⟩ L H (fun u H' => u = goInt m ∧ H' = H.set i (row (.slice (some ⟨b, 0, none⟩) m cap) e' 1 m ys)) := by
  intro a w hf hst K Q hK
  have hsz : (P.info? e).map (·.size) = some 1 := by
    obtain ⟨q, hq, hz⟩ := Option.map_eq_some_iff.1 hinfo
    simp only [Prod.mk.injEq] at hz
    rw [hq]; simp [hz.2.1]
  obtain ⟨hl, hm, hrd⟩ := hr w hst
  obtain ⟨F, hrow, _⟩ := hst.get i hi
  have hxl := hrow.1.1
  rcases Nat.eq_zero_or_pos m with h0 | h0
  · subst h0
    have hrun := run_copy_none (P := P) w t t' ty e (some ⟨b, 0, none⟩) A 0 cap 0 c hu hsz (by simp)
    unfold Oper.wp execOp
    simp [hf.ev hx, hf.ev hy, resolve, invoke, builtin, hrun]
    refine hK _ _ _ ⟨rfl, rfl⟩ (hst.conv i hi (fun F h => ?_))
    have e1 : xs = [] := List.eq_nil_of_length_eq_zero (by simpa using hxl)
    have e2 : ys = [] := List.eq_nil_of_length_eq_zero (by simpa using hl)
    rw [e2]; rw [e1] at h; exact h
  · obtain ⟨bb, oo, rfl, _, hc⟩ := hrd h0
    have step : ∀ F, (row (.slice (some ⟨b, 0, none⟩) m cap) e' 1 m xs).holds w F → ∃ w', (Builtin.copy_ #[t, t'] ty #[.slice (some ⟨b, 0, none⟩) m cap, .slice (some ⟨bb, oo, none⟩) m c]).run P w = .ok (goInt m) w' ∧ Mod (fun k => k = b) w w' ∧ (row (.slice (some ⟨b, 0, none⟩) m cap) e' 1 m ys).holds w' F := by
      intro F hF
      obtain ⟨⟨hl', hor⟩, hF'⟩ := hF
      rcases hor with ⟨hq, _⟩ | ⟨g', cp, cur, hv, hg, hh, hn, hmx, hcs, ht⟩
      · cases hq
      · cases hv
        have hrun := run_copy_row P w t t' ty e b 0 m cap ⟨bb, oo, none⟩ m c cur e' ys hu hsz hh (by simp; omega) (fun j v hj => by rw [add_plain']; exact hc j v hj) (by simp; omega) h1
        rw [show (ys.length : Nat) = m by omega] at hrun
        refine ⟨_, hrun, mod_setRow _ _ _, ⟨by omega, .inr ⟨_, _, _, rfl, hg, setRow_heap _ _ _ _ _ _ hh, hn, hmx, ?_, ?_⟩⟩, hF'⟩
        · simp only [List.take_zero, List.nil_append, List.size_toArray, List.length_append, List.length_drop, Array.length_toList]; omega
        · simp only [List.take_zero, List.nil_append]; rw [List.take_append_of_le_length (by omega), List.take_of_length_le (by omega)]
    obtain ⟨w', hrun, _, _⟩ := step F hrow
    unfold Oper.wp execOp
    simp [hf.ev hx, hf.ev hy, resolve, invoke, builtin, hrun]
    refine hK _ _ _ ⟨rfl, rfl⟩ (hst.set i hi (fun F h => ?_))
    obtain ⟨w'', hrun', hmm, hr'⟩ := step F h
    rw [hrun] at hrun'
    cases hrun'
    exact ⟨hmm.mono (fun k hk => (h.2 k).2 (by rw [hk]; rfl)), F, hr', fun k hk => .inl hk⟩
theorem Yv.max {x y : Operand} {ts : Array TypeId} {a b : Int} (hx : L.ev x = some (.int .i64 a)) (hy : L.ev y = some (.int .i64 b)) : Yv P n w0 F0 ⟨dst, .call ⟨.builtin .max, #[x, y], ts⟩, ty, pos, aft, g⟩ L H (.int .i64 (max a b)) := by
  intro c w hf hs
  simp [execOp, resolve, invoke, builtin, hf.ev hx, hf.ev hy, Go.Lib.run_max_ints]
theorem Yv.min {x y : Operand} {ts : Array TypeId} {a b : Int} (hx : L.ev x = some (.int .i64 a)) (hy : L.ev y = some (.int .i64 b)) : Yv P n w0 F0 ⟨dst, .call ⟨.builtin .min, #[x, y], ts⟩, ty, pos, aft, g⟩ L H (.int .i64 (min a b)) := by
  intro c w hf hs
  simp [execOp, resolve, invoke, builtin, hf.ev hx, hf.ev hy, Go.Lib.run_min_ints]
theorem fieldsOf_eq {t : TypeId} {fs : Array Field} (hu : P.underlying t = some (.struct fs)) : P.fieldsOf t = fs := by unfold Program.fieldsOf; rw [hu]
theorem Yv.structNe {t u : TypeId} {x y : Operand} {xs ys : List Value} {b : Bool} (hm : P.eqGuardType P.depth t = false) (hq : ∀ w, (Op.equalIn 10000 t (.agg xs.toArray) (.agg ys.toArray)).run P w = .ok b w)
    (hx : L.ev x = some (.agg xs.toArray)) (hy : L.ev y = some (.agg ys.toArray)) : Yv P n w0 F0 ⟨dst, .binOp .neq t x y u, ty, pos, aft, g⟩ L H (.bool (!b)) := by
  intro c w hf hs
  simp only [execOp, hf.ev hx, hf.ev hy, Sem.run_bind, run_eqGuard_agg w _ _ _ _ _ _ hm, Result.andThen_ok, run_neq_struct, hq, Sem.run_pure]
theorem Yv.structEq {t u : TypeId} {x y : Operand} {xs ys : List Value} {b : Bool} (hm : P.eqGuardType P.depth t = false) (hq : ∀ w, (Op.equalIn 10000 t (.agg xs.toArray) (.agg ys.toArray)).run P w = .ok b w)
    (hx : L.ev x = some (.agg xs.toArray)) (hy : L.ev y = some (.agg ys.toArray)) : Yv P n w0 F0 ⟨dst, .binOp .eql t x y u, ty, pos, aft, g⟩ L H (.bool b) := by
  intro c w hf hs
  simp only [execOp, hf.ev hx, hf.ev hy, Sem.run_bind, run_eqGuard_agg w _ _ _ _ _ _ hm, Result.andThen_ok, run_eql_struct, hq, Sem.run_pure]
theorem Yv.shrU {t u : TypeId} {x y : Operand} {k : IntKind} {a b : Int} (hx : L.ev x = some (.int .u64 a)) (hy : L.ev y = some (.int k b)) (h0 : 0 ≤ b) (h1 : b ≤ 64) : Yv P n w0 F0 ⟨dst, .binOp .shr t x y u, ty, pos, aft, g⟩ L H (.int .u64 (a / 2 ^ b.toNat)) := by
  intro c w hf hs
  simp [execOp, hf.ev hx, hf.ev hy, binOp_shr, eqGuard, shift_shr_u64 _ _ _ h0 h1]
theorem Yv.shrU1 {t u : TypeId} {x y : Operand} {k : IntKind} {a : Int} (hx : L.ev x = some (.int .u64 a)) (hy : L.ev y = some (.int k 1)) : Yv P n w0 F0 ⟨dst, .binOp .shr t x y u, ty, pos, aft, g⟩ L H (.int .u64 (a / 2)) := by
  have := Yv.shrU (P := P) (n := n) (w0 := w0) (F0 := F0) (H := H) (dst := dst) (ty := ty) (pos := pos) (aft := aft) (g := g) (t := t) (u := u) hx hy (by omega) (by omega)
  exact this
theorem Yv.shrI {t u : TypeId} {x y : Operand} {k : IntKind} {a b : Int} (hx : L.ev x = some (.int .i64 a)) (hy : L.ev y = some (.int k b)) (h0 : 0 ≤ b) (h1 : b ≤ 64) : Yv P n w0 F0 ⟨dst, .binOp .shr t x y u, ty, pos, aft, g⟩ L H (.int .i64 (a / 2 ^ b.toNat)) := by
  intro c w hf hs
  simp [execOp, hf.ev hx, hf.ev hy, binOp_shr, eqGuard, shift_shr_i64 _ _ _ h0 h1]
theorem Yv.convU {s d : TypeId} {x : Operand} {ds : TypeDesc} {k : IntKind} {a : Int} (hs : P.underlying s = some ds) (hd : P.underlying d = some (.int .u64)) (hx : L.ev x = some (.int k a)) (h : 0 ≤ a ∧ a ≤ 18446744073709551615) :
    Yv P n w0 F0 ⟨dst, .convert s d x, ty, pos, aft, g⟩ L H (.int .u64 a) := by
  have := Yv.conv (n := n) (w0 := w0) (F0 := F0) (H := H) (dst := dst) (ty := ty) (pos := pos) (aft := aft) (g := g) hs hd hx
  rwa [show IntKind.u64.wrap a = a by simp [IntKind.wrap, IntKind.bits, IntKind.signed]; omega] at this
theorem PW.retTC {fn : Func} {R : Ending → World → Prop} {t u : Nat} {e : TypeId} {ad : Addr} {vs : List Value} {v : Value} (hr : fn.results = #[.tmp u, .cell t e]) (hv : L.look t = some (.pointer (some ad))) (hu : L.look u = some v) (hagg : ∀ w, (isAgg e).run P w = .ok true w) (hz : ∀ w, (sizeOf e).run P w = .ok vs.length w)
    (hc : ∀ w, St w0 F0 w H → ∀ j v, vs[j]? = some v → w.cell? (ad.add j) = some v) (h : ∀ w, St w0 F0 w H → R (.returned (.tuple #[v, .agg vs.toArray])) w) : PW n w0 F0 (bodyPost P fn R) .ret L H := by
  refine fun a w hf hs => ⟨hf.defers, .tuple #[v, .agg vs.toArray], ?_, h w hs⟩
  have h1 := hf.look t _ hv
  have h2 := hf.look u _ hu
  rw [Array.getD_eq_getD_getElem?] at h1 h2
  simp [results, hr, h1, h2, asAddr, loadVar, hagg, hz, run_loadCells_list w ad vs (hc w hs)]
theorem PW.retCT {fn : Func} {R : Ending → World → Prop} {t u : Nat} {e : TypeId} {ad : Addr} {vs : List Value} {v : Value} (hr : fn.results = #[.cell t e, .tmp u]) (hv : L.look t = some (.pointer (some ad))) (hu : L.look u = some v) (hagg : ∀ w, (isAgg e).run P w = .ok true w) (hz : ∀ w, (sizeOf e).run P w = .ok vs.length w)
    (hc : ∀ w, St w0 F0 w H → ∀ j v, vs[j]? = some v → w.cell? (ad.add j) = some v) (h : ∀ w, St w0 F0 w H → R (.returned (.tuple #[.agg vs.toArray, v])) w) : PW n w0 F0 (bodyPost P fn R) .ret L H := by
  refine fun a w hf hs => ⟨hf.defers, .tuple #[.agg vs.toArray, v], ?_, h w hs⟩
  have h1 := hf.look t _ hv
  have h2 := hf.look u _ hu
  rw [Array.getD_eq_getD_getElem?] at h1 h2
  simp [results, hr, h1, h2, asAddr, loadVar, hagg, hz, run_loadCells_list w ad vs (hc w hs)]
end
end Go.Proofs.YtipoblpnkkcpgaaGreat.B
