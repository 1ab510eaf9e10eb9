/-
  Plain laws of what is left of arcs: flows, what is left, what stays at vertices.
-/
import Derived.Test.YtipoblpnkkcpgaaGreatCsrP
set_option linter.unusedVariables false
set_option linter.unusedSimpArgs false
namespace Go.Proofs.YtipoblpnkkcpgaaGreat
open Go Go.RowKit Go.Proofs.YtipoblpnkkcpgaaGreat.B

def atI (l : List Int) (i : Int) : Int := if 0 ≤ i then l.getD i.toNat 0 else 0
theorem atI_nat (l : List Int) (k : Nat) : atI l (k : Int) = l.getD k 0 := by unfold atI; rw [if_pos (by omega)]; simp
theorem atI_of {l : List Int} {i x : Int} (h0 : 0 ≤ i) (h : l[i.toNat]? = some x) : atI l i = x := by unfold atI; rw [if_pos h0, getD_of h]
theorem atI_out {l : List Int} {i : Int} (h : i < 0 ∨ (l.length : Int) ≤ i) : atI l i = 0 := by
  unfold atI
  by_cases h0 : 0 ≤ i
  · rw [if_pos h0, List.getD_eq_getElem?_getD, List.getElem?_eq_none (by omega)]; rfl
  · rw [if_neg h0]
theorem getD_set_self {l : List Int} {k : Nat} {x : Int} (h : k < l.length) : (l.set k x).getD k 0 = x := getD_of (by rw [List.getElem?_set_self h])
theorem getD_set_ne {l : List Int} {k j : Nat} {x : Int} (h : k ≠ j) : (l.set k x).getD j 0 = l.getD j 0 := by rw [List.getD_eq_getElem?_getD, List.getElem?_set_ne h, ← List.getD_eq_getElem?_getD]

/-- A table filled up to a place. -/
def fillTo (n : Nat) (g : Nat → Int) (k : Nat) : List Int := (List.range n).map fun j => if j < k then g j else 0
theorem fillTo_length (n : Nat) (g : Nat → Int) (k : Nat) : (fillTo n g k).length = n := by simp [fillTo]
theorem fillTo_zero (n : Nat) (g : Nat → Int) : fillTo n g 0 = List.replicate n 0 := by
  apply List.ext_getElem?
  intro j
  unfold fillTo
  rw [map_range_get, List.getElem?_replicate]; simp
theorem fillTo_all (n : Nat) (g : Nat → Int) : fillTo n g n = (List.range n).map g := by
  unfold fillTo
  apply List.map_congr_left
  intro x hx
  rw [if_pos (List.mem_range.1 hx)]
theorem fillTo_succ (n : Nat) (g : Nat → Int) (k : Nat) : (fillTo n g k).set k (g k) = fillTo n g (k + 1) := by
  unfold fillTo
  refine map_range_set _ _ _ _ _ (fun j hj hne => ?_) (fun hk => by rw [if_pos (by omega)])
  by_cases h : j < k
  · rw [if_pos h, if_pos (by omega)]
  · rw [if_neg h, if_neg (by omega)]
theorem map_getD (f : List Int) {m : Nat} (h : f.length = m) : (List.range m).map (fun e => f.getD e 0) = f := by
  subst h
  apply List.ext_getElem?
  intro j
  rw [map_range_get]
  by_cases hj : j < f.length
  · rw [if_pos hj, List.getD_eq_getElem?_getD, List.getElem?_eq_getElem hj]; rfl
  · rw [if_neg hj, List.getElem?_eq_none (by omega)]
/-- What is left of each arc, for a flow of each edge. -/
def leftL (l : List Edg) (f : List Int) : List Int := (List.range (2 * l.length)).map fun (i : Nat) => capOf l (i : Int) + (if i % 2 = 0 then - f.getD (i / 2) 0 else f.getD (i / 2) 0)
def exc : List Edg → List Int → Int → Int
  | e :: l, y :: f, v => (if e.v = v then y else 0) - (if e.u = v then y else 0) + exc l f v
  | _, _, _ => 0
def overL (n : Nat) (l : List Edg) (f : List Int) : List Int := (List.range n).map fun (v : Nat) => exc l f (v : Int)
def pushF (f : List Int) (i : Nat) (x : Int) : List Int := f.set (i / 2) (f.getD (i / 2) 0 + if i % 2 = 0 then x else -x)
structure FlowOk (l : List Edg) (f : List Int) : Prop where
  len : f.length = l.length
  bd : ∀ (k : Nat) (e : Edg) (y : Int), l[k]? = some e → f[k]? = some y → -e.w ≤ y ∧ y ≤ e.w
theorem leftL_length (l : List Edg) (f : List Int) : (leftL l f).length = 2 * l.length := by simp [leftL]
theorem overL_length (n : Nat) (l : List Edg) (f : List Int) : (overL n l f).length = n := by simp [overL]
theorem leftL_get {l : List Edg} {f : List Int} {i : Nat} (h : i < 2 * l.length) : (leftL l f)[i]? = some (capOf l (i : Int) + (if i % 2 = 0 then - f.getD (i / 2) 0 else f.getD (i / 2) 0)) := by
  unfold leftL; rw [map_range_get, if_pos h]
theorem overL_get {n : Nat} {l : List Edg} {f : List Int} {v : Nat} (h : v < n) : (overL n l f)[v]? = some (exc l f (v : Int)) := by unfold overL; rw [map_range_get, if_pos h]
theorem FlowOk.zero (n : Nat) {l : List Edg} (h : ∀ e ∈ l, 0 ≤ e.w) : FlowOk l (List.replicate l.length 0) := by
  refine ⟨by simp, fun k e y he hy => ?_⟩
  have hk := (List.getElem?_eq_some_iff.1 he).1
  rw [List.getElem?_replicate, if_pos hk] at hy
  cases hy
  have := h e (List.mem_of_getElem? he)
  omega
theorem exc_zero : ∀ (l : List Edg) (m : Nat) (v : Int), exc l (List.replicate m 0) v = 0
  | [], m, v => by cases m <;> simp [exc, List.replicate_succ]
  | e :: l, 0, v => by simp [exc]
  | e :: l, m + 1, v => by rw [List.replicate_succ, exc, exc_zero l m v]; split <;> split <;> rfl
theorem overL_zero (n m : Nat) (l : List Edg) : overL n l (List.replicate m 0) = List.replicate n 0 := by
  apply List.ext_getElem?
  intro j
  unfold overL
  rw [map_range_get, List.getElem?_replicate]
  split
  · rw [exc_zero]
  · rfl
theorem leftL_zero (l : List Edg) (m : Nat) : leftL l (List.replicate m 0) = (List.range (2 * l.length)).map fun (i : Nat) => capOf l (i : Int) := by
  unfold leftL
  apply List.map_congr_left
  intro i hi
  have : (List.replicate m (0 : Int)).getD (i / 2) 0 = 0 := by
    rw [List.getD_eq_getElem?_getD, List.getElem?_replicate]; split <;> rfl
  rw [this]; split <;> omega
/-- What a change of one edge's flow does at a vertex. -/
theorem exc_set : ∀ (l : List Edg) (f : List Int) (k : Nat) (e : Edg) (y d : Int) (v : Int), l[k]? = some e → f[k]? = some y → exc l (f.set k (y + d)) v = exc l f v + ((if e.v = v then d else 0) - (if e.u = v then d else 0))
  | [], _, k, _, _, _, _, h, _ => by simp at h
  | _ :: _, [], k, _, _, _, _, _, h => by simp at h
  | x :: l, z :: f, 0, e, y, d, v, he, hy => by
    simp at he hy; subst he; subst hy
    simp only [List.set_cons_zero, exc]
    by_cases h1 : x.v = v <;> by_cases h2 : x.u = v <;> simp [h1, h2] <;> omega
  | x :: l, z :: f, k + 1, e, y, d, v, he, hy => by
    have ih := exc_set l f k e y d v (by simpa using he) (by simpa using hy)
    simp only [List.set_cons_succ, exc]
    rw [ih]; omega
/-- What stays at a vertex is no more than all weighs. -/
theorem exc_bd : ∀ (l : List Edg) (f : List Int) (v : Int), (∀ e ∈ l, e.u ≠ e.v) → FlowOk l f → - totalW l ≤ exc l f v ∧ exc l f v ≤ totalW l
  | [], f, v, _, _ => by simp [exc, totalW]
  | e :: l, [], v, _, h => by have := h.len; simp at this
  | e :: l, y :: f, v, hne, h => by
    have ih := exc_bd l f v (fun x hx => hne x (by simp [hx])) ⟨by simpa using h.len, fun k x z hx hz => h.bd (k + 1) x z (by simpa using hx) (by simpa using hz)⟩
    have h0 := h.bd 0 e y rfl rfl
    have hn := hne e (by simp)
    rw [totalW_cons, exc]
    by_cases h1 : e.v = v
    · rw [if_pos h1, if_neg (by omega)]; omega
    · rw [if_neg h1]; split <;> omega
theorem backN (i : Nat) : backOf (i : Int) = ((if i % 2 = 0 then i + 1 else i - 1 : Nat) : Int) := by
  unfold backOf
  rw [if_neg (by omega)]
  by_cases h : i % 2 = 0
  · rw [if_pos h, if_pos (by omega)]; omega
  · rw [if_neg h, if_neg (by omega)]; omega
def bk (i : Nat) : Nat := if i % 2 = 0 then i + 1 else i - 1
theorem backOf_nat (i : Nat) : backOf (i : Int) = (bk i : Nat) := backN i
theorem bk_lt {i m : Nat} (h : i < 2 * m) : bk i < 2 * m := by unfold bk; split <;> omega
theorem bk_half (i : Nat) : bk i / 2 = i / 2 := by unfold bk; split <;> omega
theorem bk_ne (i : Nat) : bk i ≠ i := by unfold bk; split <;> omega
theorem arc_edge {l : List Edg} {i : Nat} (h : i < 2 * l.length) : ∃ e, l[i / 2]? = some e ∧ capOf l (i : Int) = e.w ∧ (i % 2 = 0 → tailOf l (i : Int) = e.u ∧ headOf l (i : Int) = e.v) ∧ (i % 2 = 1 → tailOf l (i : Int) = e.v ∧ headOf l (i : Int) = e.u) := by
  obtain ⟨e, he⟩ : ∃ e, l[i / 2]? = some e := ⟨_, List.getElem?_eq_getElem (by omega)⟩
  refine ⟨e, he, capOf_half he (by omega), fun h0 => ⟨tailOf_even he (by omega), headOf_even he (by omega)⟩, fun h1 => ⟨tailOf_odd he (by omega), headOf_odd he (by omega)⟩⟩
/-- A push along an arc: what is left of it, and of the one back. -/
theorem leftL_push {l : List Edg} {f : List Int} {i : Nat} {x a b : Int} (hf : f.length = l.length) (h : i < 2 * l.length) (ha : (leftL l f)[i]? = some a) (hb : (leftL l f)[bk i]? = some b) :
    ((leftL l f).set i (a - x)).set (bk i) (b + x) = leftL l (pushF f i x) := by
  have hk : i / 2 < f.length := by omega
  rw [leftL_get h] at ha
  rw [leftL_get (bk_lt h)] at hb
  cases ha; cases hb
  have hp : (pushF f i x).getD (i / 2) 0 = f.getD (i / 2) 0 + if i % 2 = 0 then x else -x := by unfold pushF; rw [getD_set_self hk]
  unfold leftL
  rw [map_range_set _ (fun (j : Nat) => if j = i then (capOf l (i : Int) + (if i % 2 = 0 then - f.getD (i / 2) 0 else f.getD (i / 2) 0) - x) else capOf l (j : Int) + (if j % 2 = 0 then - f.getD (j / 2) 0 else f.getD (j / 2) 0)) _ i _ (fun j hj hne => by rw [if_neg hne]) (fun _ => by rw [if_pos rfl])]
  refine map_range_set _ _ _ _ _ (fun j hj hne => ?_) (fun _ => ?_)
  · by_cases hji : j = i
    · subst hji; rw [if_pos rfl, hp]; split <;> omega
    · have hjk : i / 2 ≠ j / 2 := by
        intro e
        unfold bk at hne
        split at hne <;> omega
      rw [if_neg hji]
      have : (pushF f i x).getD (j / 2) 0 = f.getD (j / 2) 0 := by unfold pushF; rw [getD_set_ne hjk]
      rw [this]
  · rw [bk_half, hp]
    have hm : (bk i % 2 = 0) ↔ ¬ (i % 2 = 0) := by unfold bk; split <;> omega
    by_cases h0 : i % 2 = 0
    · rw [if_neg (fun e => (hm.1 e) h0), if_pos h0]; omega
    · rw [if_pos (hm.2 h0), if_neg h0]; omega
theorem overL_push {n : Nat} {l : List Edg} {f : List Int} {i : Nat} {x a b : Int} {t h' : Nat} (hok : ArcsOk n l) (hf : f.length = l.length) (h : i < 2 * l.length) (ht : tailOf l (i : Int) = t) (hh : headOf l (i : Int) = h') (ha : (overL n l f)[t]? = some a) (hb : (overL n l f)[h']? = some b) :
    ((overL n l f).set t (a - x)).set h' (b + x) = overL n l (pushF f i x) := by
  obtain ⟨e, he, _, h0, h1⟩ := arc_edge h
  have hr := hok.rng e (List.mem_of_getElem? he)
  obtain ⟨y, hy⟩ : ∃ y, f[i / 2]? = some y := ⟨_, List.getElem?_eq_getElem (by omega)⟩
  have htn : t < n := by have := (List.getElem?_eq_some_iff.1 ha).1; rw [overL_length] at this; exact this
  have hhn : h' < n := by have := (List.getElem?_eq_some_iff.1 hb).1; rw [overL_length] at this; exact this
  rw [overL_get htn] at ha
  rw [overL_get hhn] at hb
  cases ha; cases hb
  have hne : t ≠ h' := by
    intro e'
    rcases Nat.mod_two_eq_zero_or_one i with hm | hm
    · have := h0 hm; omega
    · have := h1 hm; omega
  have key : ∀ v : Int, exc l (pushF f i x) v = exc l f v + ((if (h' : Int) = v then x else 0) - (if (t : Int) = v then x else 0)) := by
    intro v
    unfold pushF
    rw [getD_of hy, exc_set l f (i / 2) e y _ v he hy]
    rcases Nat.mod_two_eq_zero_or_one i with hm | hm
    · obtain ⟨a1, a2⟩ := h0 hm
      rw [if_pos hm, show (h' : Int) = e.v by omega, show (t : Int) = e.u by omega]
    · obtain ⟨a1, a2⟩ := h1 hm
      rw [if_neg (show ¬ i % 2 = 0 by omega), show (h' : Int) = e.u by omega, show (t : Int) = e.v by omega]
      by_cases c1 : e.v = v <;> by_cases c2 : e.u = v
      · exfalso; omega
      all_goals (simp [c1, c2]; try omega)
  unfold overL
  rw [map_range_set _ (fun (j : Nat) => if j = t then exc l f (t : Int) - x else exc l f (j : Int)) _ t _ (fun j hj hn => by rw [if_neg hn]) (fun _ => by rw [if_pos rfl])]
  refine map_range_set _ _ _ _ _ (fun j hj hn => ?_) (fun _ => ?_)
  · rw [key]
    by_cases hjt : j = t
    · subst hjt; rw [if_pos rfl, if_neg (by omega), if_pos rfl]; omega
    · rw [if_neg hjt, if_neg (by omega), if_neg (by omega)]; omega
  · rw [key, if_pos rfl, if_neg (by omega)]; omega
theorem FlowOk.push {l : List Edg} {f : List Int} {i : Nat} {x a : Int} (hF : FlowOk l f) (h : i < 2 * l.length) (ha : (leftL l f)[i]? = some a) (hx : 0 ≤ x) (hxa : x ≤ a) : FlowOk l (pushF f i x) := by
  refine ⟨by simp [pushF, hF.len], fun k e y he hy => ?_⟩
  have hk := (List.getElem?_eq_some_iff.1 he).1
  unfold pushF at hy
  rw [List.getElem?_set] at hy
  by_cases hik : i / 2 = k
  · subst hik
    rw [if_pos rfl, if_pos (by rw [hF.len]; exact hk)] at hy
    obtain ⟨z, hz⟩ : ∃ y, f[i / 2]? = some y := ⟨_, List.getElem?_eq_getElem (by rw [hF.len]; exact hk)⟩
    have hb := hF.bd _ e z he hz
    rw [leftL_get h, getD_of hz, capOf_half he (by omega)] at ha
    rw [getD_of hz] at hy
    cases ha; cases hy
    by_cases h0 : i % 2 = 0
    · rw [if_pos h0] at hxa; rw [if_pos h0]; omega
    · rw [if_neg h0] at hxa; rw [if_neg h0]; omega
  · rw [if_neg hik] at hy
    exact hF.bd k e y he hy
theorem left_bd {l : List Edg} {f : List Int} (hF : FlowOk l f) {i : Nat} {a : Int} (h : i < 2 * l.length) (ha : (leftL l f)[i]? = some a) : ∃ e, l[i / 2]? = some e ∧ 0 ≤ a ∧ a ≤ 2 * e.w := by
  obtain ⟨e, he, hc, _, _⟩ := arc_edge h
  obtain ⟨z, hz⟩ : ∃ y, f[i / 2]? = some y := ⟨_, List.getElem?_eq_getElem (by rw [hF.len]; omega)⟩
  have hb := hF.bd _ e z he hz
  rw [leftL_get h, getD_of hz, hc] at ha
  cases ha
  refine ⟨e, he, ?_⟩
  split <;> omega
theorem left_even {l : List Edg} {f : List Int} {k : Nat} {e : Edg} (he : l[k]? = some e) : (leftL l f)[2 * k]? = some (e.w - f.getD k 0) := by
  have hk := (List.getElem?_eq_some_iff.1 he).1
  rw [leftL_get (by omega), capOf_half he (.inl (by omega)), if_pos (by omega), show 2 * k / 2 = k by omega]
  congr 1
theorem left_odd {l : List Edg} {f : List Int} {k : Nat} {e : Edg} (he : l[k]? = some e) : (leftL l f)[2 * k + 1]? = some (e.w + f.getD k 0) := by
  have hk := (List.getElem?_eq_some_iff.1 he).1
  rw [leftL_get (by omega), capOf_half he (.inr (by omega)), if_neg (by omega), show (2 * k + 1) / 2 = k by omega]
/-- All excess is together 0. -/
def sumTo (g : Nat → Int) : Nat → Int
  | 0 => 0
  | n + 1 => sumTo g n + g n
theorem sumTo_add (g h : Nat → Int) : ∀ n, sumTo (fun v => g v + h v) n = sumTo g n + sumTo h n
  | 0 => rfl
  | n + 1 => by simp only [sumTo, sumTo_add g h n]; omega
theorem sumTo_zero : ∀ n, sumTo (fun _ => 0) n = 0
  | 0 => rfl
  | n + 1 => by simp only [sumTo, sumTo_zero n]; omega
theorem sumTo_one (y : Int) (u : Int) : ∀ n : Nat, sumTo (fun (v : Nat) => if u = (v : Int) then y else 0) n = if 0 ≤ u ∧ u < n then y else 0
  | 0 => by simp only [sumTo]; rw [if_neg (by omega)]
  | n + 1 => by
    simp only [sumTo, sumTo_one y u n]
    by_cases h : u = (n : Int)
    · rw [if_neg (by omega), if_pos h, if_pos (by omega)]; omega
    · rw [if_neg h]
      by_cases h2 : 0 ≤ u ∧ u < (n : Int)
      · rw [if_pos h2, if_pos (by omega)]; omega
      · rw [if_neg h2, if_neg (by omega)]; rfl
theorem sumTo_congr {g h : Nat → Int} : ∀ n, (∀ v, v < n → g v = h v) → sumTo g n = sumTo h n
  | 0, _ => rfl
  | n + 1, hx => by simp only [sumTo]; rw [sumTo_congr n (fun v hv => hx v (by omega)), hx n (by omega)]
theorem exc_sum (n : Nat) : ∀ (l : List Edg) (f : List Int), (∀ e ∈ l, (0 ≤ e.u ∧ e.u < n) ∧ 0 ≤ e.v ∧ e.v < n) → sumTo (fun (v : Nat) => exc l f (v : Int)) n = 0
  | [], f, _ => by
    have : (fun (v : Nat) => exc [] f (v : Int)) = fun _ => 0 := by funext v; cases f <;> rfl
    rw [this, sumTo_zero]
  | e :: l, [], _ => by
    have : (fun (v : Nat) => exc (e :: l) [] (v : Int)) = fun _ => 0 := by funext v; rfl
    rw [this, sumTo_zero]
  | e :: l, y :: f, h => by
    have ih := exc_sum n l f (fun x hx => h x (by simp [hx]))
    have hr := h e (by simp)
    have e1 : (fun (v : Nat) => exc (e :: l) (y :: f) (v : Int)) = fun (v : Nat) => ((if e.v = (v : Int) then y else 0) + (if e.u = (v : Int) then -y else 0)) + exc l f (v : Int) := by
      funext v
      simp only [exc]
      by_cases c : e.u = (v : Int) <;> simp [c] <;> omega
    rw [e1, sumTo_add, sumTo_add, ih, sumTo_one, sumTo_one, if_pos (by omega), if_pos (by omega)]
    omega
end Go.Proofs.YtipoblpnkkcpgaaGreat
