/-
  Plain laws of ways: distances are one thing; the lowest arc that leads nearer; a way's room.
-/
import Derived.Test.YtipoblpnkkcpgaaGreatLevP
set_option linter.unusedVariables false
set_option linter.unusedSimpArgs false
namespace Go.Proofs.YtipoblpnkkcpgaaGreat
open Go Go.RowKit Go.Proofs.YtipoblpnkkcpgaaGreat.B

theorem dist_le {n : Nat} {nb : Int → List Int} {s : Int} {a b : List Int} (ha : Dist n nb s a) (hb : Dist n nb s b) : ∀ (k : Nat) (u : Int), oAt a u = k → 0 ≤ oAt b u ∧ oAt b u ≤ k
  | 0, u, h => by
    have := ha.zero u h
    subst this
    rw [hb.src]; omega
  | k + 1, u, h => by
    obtain ⟨y, hy, hm⟩ := ha.prd u (by omega)
    have ih := dist_le ha hb k y (by omega)
    have := hb.clo y ih.1 u hm
    omega
theorem dist_at {n : Nat} {nb : Int → List Int} {s : Int} {a b : List Int} (ha : Dist n nb s a) (hb : Dist n nb s b) (u : Int) : oAt a u = oAt b u := by
  have l1 := ha.lo u
  have l2 := hb.lo u
  by_cases h1 : 0 ≤ oAt a u
  · have h := dist_le ha hb (oAt a u).toNat u (by omega)
    have h' := dist_le hb ha (oAt b u).toNat u (by omega)
    omega
  · by_cases h2 : 0 ≤ oAt b u
    · have h' := dist_le hb ha (oAt b u).toNat u (by omega)
      omega
    · omega
theorem dist_unique {n : Nat} {nb : Int → List Int} {s : Int} {a b : List Int} (ha : Dist n nb s a) (hb : Dist n nb s b) : a = b := by
  apply List.ext_getElem?
  intro j
  have h := dist_at ha hb (j : Int)
  have la := ha.len
  have lb := hb.len
  by_cases hj : j < n
  · obtain ⟨x, hx⟩ : ∃ x, a[j]? = some x := ⟨_, List.getElem?_eq_getElem (by omega)⟩
    obtain ⟨y, hy⟩ : ∃ x, b[j]? = some x := ⟨_, List.getElem?_eq_getElem (by omega)⟩
    have e1 := oAt_of (u := (j : Int)) (by omega) hx
    have e2 := oAt_of (u := (j : Int)) (by omega) hy
    rw [hx, hy]; congr 1; omega
  · rw [List.getElem?_eq_none (by omega), List.getElem?_eq_none (by omega)]
def chkDist (n : Nat) (nb : Int → List Int) (s : Int) (out : List Int) : Bool :=
  decide (out.length = n) && (decide (oAt out s = 0) && (List.range n).all fun (u : Nat) => decide (-1 ≤ oAt out u ∧ oAt out u ≤ n) && (decide (oAt out u = 0 → (u : Int) = s) && (((decide (oAt out u < 0)) || (nb u).all fun y => decide (0 ≤ oAt out y ∧ oAt out y ≤ oAt out u + 1)) && ((decide (oAt out u ≤ 0)) || (List.range n).any fun (y : Nat) => decide (oAt out y = oAt out u - 1) && decide ((u : Int) ∈ nb y)))))
theorem chk_dist {n : Nat} {nb : Int → List Int} {s : Int} {out : List Int} (h : chkDist n nb s out = true) : Dist n nb s out := by
  unfold chkDist at h
  simp only [Bool.and_eq_true, decide_eq_true_eq, List.all_eq_true, List.mem_range, Bool.or_eq_true, List.any_eq_true] at h
  obtain ⟨hl, hs, hall⟩ := h
  have hin : ∀ u : Int, oAt out u ≠ -1 → ∃ k : Nat, k < n ∧ u = k := by
    intro u hu
    refine ⟨u.toNat, ?_, ?_⟩ <;> refine Classical.byContradiction fun hc => hu (oAt_out (by omega))
  refine ⟨hl, fun u => ?_, hs, fun u hu => ?_, fun u hu y hy => ?_, fun u hu => ?_⟩
  · by_cases h1 : oAt out u = -1
    · omega
    · obtain ⟨k, hk, rfl⟩ := hin u h1; exact (hall k hk).1
  · obtain ⟨k, hk, rfl⟩ := hin u (by omega); exact (hall k hk).2.1 hu
  · obtain ⟨k, hk, rfl⟩ := hin u (by omega)
    rcases (hall k hk).2.2.1 with h1 | h1
    · omega
    · exact h1 y hy
  · obtain ⟨k, hk, rfl⟩ := hin u (by omega)
    rcases (hall k hk).2.2.2 with h1 | ⟨y, _, h1, h2⟩
    · omega
    · exact ⟨(y : Int), h1, h2⟩

/-! ### The lowest arc that leads nearer -/
def candB (l : List Edg) (f out : List Int) (v i : Int) : Prop := 0 < atI (leftL l f) i ∧ oAt out (headOf l i) = oAt out v - 1
instance (l : List Edg) (f out : List Int) (v i : Int) : Decidable (candB l f out v i) := by unfold candB; exact inferInstance
def bstep (l : List Edg) (f out : List Int) (v best i : Int) : Int := if candB l f out v i ∧ (best < 0 ∨ i < best) then i else best
def bestA (n : Nat) (l : List Edg) (f out : List Int) (v : Int) : Int := (outOf n l v).foldl (bstep l f out v) (-1)
theorem best_fold (l : List Edg) (f out : List Int) (v : Int) : ∀ (xs : List Int) (b : Int), -1 ≤ b → (∀ i ∈ xs, 0 ≤ i) →
    (xs.foldl (bstep l f out v) b = b ∨ (xs.foldl (bstep l f out v) b ∈ xs ∧ candB l f out v (xs.foldl (bstep l f out v) b))) ∧ (∀ i ∈ xs, candB l f out v i → 0 ≤ xs.foldl (bstep l f out v) b ∧ xs.foldl (bstep l f out v) b ≤ i) ∧ (0 ≤ b → 0 ≤ xs.foldl (bstep l f out v) b ∧ xs.foldl (bstep l f out v) b ≤ b)
  | [], b, hb, _ => ⟨.inl rfl, by simp, fun h => ⟨h, Int.le_refl _⟩⟩
  | x :: xs, b, hb, hx => by
    have h0 := hx x (by simp)
    rw [List.foldl_cons]
    by_cases hc : candB l f out v x ∧ (b < 0 ∨ x < b)
    · have e : bstep l f out v b x = x := by unfold bstep; rw [if_pos hc]
      rw [e]
      obtain ⟨a1, a2, a3⟩ := best_fold l f out v xs x (by omega) (fun i hi => hx i (by simp [hi]))
      have a3' := a3 h0
      refine ⟨.inr ?_, fun i hi hci => ?_, fun hb0 => ⟨a3'.1, by omega⟩⟩
      · rcases a1 with a | ⟨a, a'⟩
        · rw [a]; exact ⟨by simp, hc.1⟩
        · exact ⟨by simp [a], a'⟩
      · rcases List.mem_cons.1 hi with e2 | hi
        · subst e2; exact a3'
        · exact a2 i hi hci
    · have e : bstep l f out v b x = b := by unfold bstep; rw [if_neg hc]
      rw [e]
      obtain ⟨a1, a2, a3⟩ := best_fold l f out v xs b hb (fun i hi => hx i (by simp [hi]))
      refine ⟨?_, fun i hi hci => ?_, a3⟩
      · rcases a1 with a | ⟨a, a'⟩
        · exact .inl a
        · exact .inr ⟨by simp [a], a'⟩
      · rcases List.mem_cons.1 hi with e2 | hi
        · subst e2
          have hb0 : 0 ≤ b ∧ b ≤ i := by
            by_cases hbn : b < 0
            · exact absurd ⟨hci, .inl hbn⟩ hc
            · by_cases hib : i < b
              · exact absurd ⟨hci, .inr hib⟩ hc
              · omega
          have := a3 hb0.1
          omega
        · exact a2 i hi hci
/-- Where something leads on, the best arc is one of those, and the lowest. -/
theorem best_ok {n : Nat} {l : List Edg} {f out : List Int} {t v : Int} (hok : ArcsOk n l) (hd : Dist n (nbT n l f) t out) (hv : 0 < oAt out v) :
    0 ≤ bestA n l f out v ∧ bestA n l f out v < 2 * (l.length : Int) ∧ tailOf l (bestA n l f out v) = v ∧ candB l f out v (bestA n l f out v) ∧ ∀ i, 0 ≤ i → i < 2 * (l.length : Int) → tailOf l i = v → candB l f out v i → bestA n l f out v ≤ i := by
  have hv0 : 0 ≤ v := by
    refine Classical.byContradiction fun h => ?_
    rw [oAt_out (by omega)] at hv; omega
  obtain ⟨y, hy, hm⟩ := hd.prd v hv
  obtain ⟨i, hi, ht, hh, hl⟩ := nbT_arc hok hm
  have hio : (i : Int) ∈ outOf n l v := (mem_outOf hok hv0 _).2 ⟨by omega, by omega, ht⟩
  obtain ⟨a1, a2, _⟩ := best_fold l f out v (outOf n l v) (-1) (by omega) (fun j hj => (outOf_mem hok hj).1)
  have hci : candB l f out v (i : Int) := ⟨hl, by rw [hh]; exact hy⟩
  have h1 := a2 (i : Int) hio hci
  unfold bestA
  rcases a1 with a | ⟨a, a'⟩
  · omega
  · obtain ⟨b0, b1, b2, _⟩ := outOf_mem hok a
    exact ⟨b0, b1, b2, a', fun j hj0 hj1 hjt hjc => (a2 j ((mem_outOf hok hv0 j).2 ⟨hj0, hj1, hjt⟩) hjc).2⟩
def wayF (n : Nat) (l : List Edg) (f out : List Int) : Nat → Int → List Int
  | 0, _ => []
  | k + 1, v => bestA n l f out v :: wayF n l f out k (headOf l (bestA n l f out v))
def wayOf (n : Nat) (l : List Edg) (f out : List Int) (s : Int) : List Int := if oAt out s < 1 then [] else wayF n l f out (oAt out s).toNat s
theorem wayF_length (n : Nat) (l : List Edg) (f out : List Int) : ∀ (k : Nat) (v : Int), (wayF n l f out k v).length = k
  | 0, _ => rfl
  | k + 1, v => by simp [wayF, wayF_length n l f out k]
theorem wayOf_length {n : Nat} {l : List Edg} {f out : List Int} {s : Int} (h : -1 ≤ oAt out s) : ((wayOf n l f out s).length : Int) = max 0 (oAt out s) := by
  unfold wayOf
  rw [Int.max_def]
  split
  · split <;> simp <;> omega
  · rw [wayF_length]; split <;> omega
theorem wayF_arcs {n : Nat} {l : List Edg} {f out : List Int} {t : Int} (hok : ArcsOk n l) (hd : Dist n (nbT n l f) t out) : ∀ (k : Nat) (v : Int), oAt out v = k → ∀ i ∈ wayF n l f out k v, (0 ≤ i ∧ i < 2 * (l.length : Int)) ∧ 0 < atI (leftL l f) i
  | 0, v, _, i, hi => by simp [wayF] at hi
  | k + 1, v, h, i, hi => by
    obtain ⟨b0, b1, _, b3, _⟩ := best_ok hok hd (v := v) (by omega)
    unfold wayF at hi
    rcases List.mem_cons.1 hi with e | hi
    · subst e; exact ⟨⟨b0, b1⟩, b3.1⟩
    · exact wayF_arcs hok hd k _ (by have := b3.2; omega) i hi
theorem wayOf_arcs {n : Nat} {l : List Edg} {f out : List Int} {t s : Int} (hok : ArcsOk n l) (hd : Dist n (nbT n l f) t out) : ∀ i ∈ wayOf n l f out s, (0 ≤ i ∧ i < 2 * (l.length : Int)) ∧ 0 < atI (leftL l f) i := by
  intro i hi
  unfold wayOf at hi
  split at hi
  · simp at hi
  · exact wayF_arcs hok hd _ s (by omega) i hi
/-! ### Room -/
def roomP : List Int → Int
  | [] => 0
  | x :: r => r.foldl (fun a y => if y < a then y else a) x
theorem roomP_snoc (xs : List Int) (y : Int) : roomP (xs ++ [y]) = if xs = [] then y else if y < roomP xs then y else roomP xs := by
  cases xs with
  | nil => rfl
  | cons x r =>
    rw [if_neg (by simp)]
    show (r ++ [y]).foldl _ x = _
    rw [List.foldl_append]; rfl
theorem roomP_pos {xs : List Int} (h0 : xs ≠ []) (h : ∀ x ∈ xs, 0 < x) : 0 < roomP xs := by
  cases xs with
  | nil => exact absurd rfl h0
  | cons x r =>
    have key : ∀ (r : List Int) (a : Int), 0 < a → (∀ x ∈ r, 0 < x) → 0 < r.foldl (fun a y => if y < a then y else a) a := by
      intro r
      induction r with
      | nil => intro a ha _; exact ha
      | cons y r ih =>
        intro a ha hr
        rw [List.foldl_cons]
        refine ih _ ?_ (fun z hz => hr z (by simp [hz]))
        have := hr y (by simp)
        split <;> omega
    exact key r x (h x (by simp)) (fun z hz => h z (by simp [hz]))
end Go.Proofs.YtipoblpnkkcpgaaGreat
