/-
  Plain laws of levels: a search by rounds tells how far each vertex is.
-/
import Derived.Test.YtipoblpnkkcpgaaGreatRchP
set_option linter.unusedVariables false
set_option linter.unusedSimpArgs false
namespace Go.Proofs.YtipoblpnkkcpgaaGreat
open Go Go.RowKit Go.Proofs.YtipoblpnkkcpgaaGreat.B

def oAt (out : List Int) (u : Int) : Int := if 0 ≤ u then out.getD u.toNat (-1) else -1
theorem oAt_of {out : List Int} {u x : Int} (h0 : 0 ≤ u) (h : out[u.toNat]? = some x) : oAt out u = x := by unfold oAt; rw [if_pos h0, getD_of h]
theorem oAt_out {out : List Int} {u : Int} (h : u < 0 ∨ (out.length : Int) ≤ u) : oAt out u = -1 := by
  unfold oAt
  by_cases h0 : 0 ≤ u
  · rw [if_pos h0, List.getD_eq_getElem?_getD, List.getElem?_eq_none (by omega)]; rfl
  · rw [if_neg h0]
theorem oAt_set {out : List Int} {u d : Int} (h0 : 0 ≤ u) (h1 : u < out.length) (x : Int) : oAt (out.set u.toNat d) x = if x = u then d else oAt out x := by
  by_cases hx : x = u
  · subst hx; rw [if_pos rfl]; exact oAt_of h0 (by rw [List.getElem?_set_self (by omega)])
  · rw [if_neg hx]
    unfold oAt
    by_cases h : 0 ≤ x
    · rw [if_pos h, if_pos h, List.getD_eq_getElem?_getD, List.getElem?_set_ne (by omega), ← List.getD_eq_getElem?_getD]
    · rw [if_neg h, if_neg h]
def cntS (out : List Int) : Nat := out.countP (fun x => decide (0 ≤ x))
theorem cntS_le (out : List Int) : cntS out ≤ out.length := List.countP_le_length
theorem cntS_set : ∀ (out : List Int) (t : Nat) (x d : Int), out[t]? = some x → x < 0 → 0 ≤ d → cntS (out.set t d) = cntS out + 1
  | [], t, x, d, h, _, _ => by simp at h
  | c :: cs, 0, x, d, h, hx, hd => by simp at h; subst h; simp [cntS, List.countP_cons, hd]; omega
  | c :: cs, t + 1, x, d, h, hx, hd => by
    have ih := cntS_set cs t x d (by simpa using h) hx hd
    unfold cntS at *
    rw [List.set_cons_succ, List.countP_cons, List.countP_cons, ih]; omega
def seeS (d : Int) (p : List Int × List Int) (u : Int) : List Int × List Int := if oAt p.1 u < 0 then (p.1.set u.toNat d, p.2 ++ [u]) else p
/-- Within a round. -/
structure Lv (n : Nat) (nb : Int → List Int) (s : Int) (out : List Int) (d : Int) (now next xs : List Int) (c0 : Nat) : Prop where
  len : out.length = n
  d1 : 1 ≤ d
  lo : ∀ u, -1 ≤ oAt out u ∧ oAt out u ≤ d
  now : ∀ u, u ∈ now ↔ oAt out u = d - 1
  nxt : ∀ u, u ∈ next ↔ oAt out u = d
  src : oAt out s = 0
  zero : ∀ u, oAt out u = 0 → u = s
  old : ∀ u, 0 ≤ oAt out u → oAt out u < d - 1 → ∀ y ∈ nb u, 0 ≤ oAt out y ∧ oAt out y ≤ oAt out u + 1
  cur : ∀ u ∈ xs, ∀ y ∈ nb u, 0 ≤ oAt out y
  prd : ∀ u, 0 < oAt out u → ∃ y, oAt out y = oAt out u - 1 ∧ u ∈ nb y
  ct : cntS out = c0 + next.length
theorem Lv.see {n : Nat} {nb : Int → List Int} {s : Int} {out : List Int} {d : Int} {now next xs : List Int} {c0 : Nat} {v u : Int} (h : Lv n nb s out d now next xs c0) (hv : v ∈ now) (hu : u ∈ nb v) (h0 : 0 ≤ u) (h1 : u < n) :
    Lv n nb s (seeS d (out, next) u).1 d now (seeS d (out, next) u).2 xs c0 ∧ 0 ≤ oAt (seeS d (out, next) u).1 u ∧ ∀ y, 0 ≤ oAt out y → 0 ≤ oAt (seeS d (out, next) u).1 y := by
  unfold seeS
  simp only
  by_cases hneg : oAt out u < 0
  · rw [if_pos hneg]
    have hd := h.d1
    have hs : ∀ x, oAt (out.set u.toNat d) x = if x = u then d else oAt out x := oAt_set h0 (by rw [h.len]; exact h1)
    have hvd := (h.now v).1 hv
    obtain ⟨x, hx⟩ : ∃ x, out[u.toNat]? = some x := ⟨_, List.getElem?_eq_getElem (by rw [h.len]; omega)⟩
    have hxu := oAt_of h0 hx
    refine ⟨⟨by simp [h.len], hd, fun y => ?_, fun y => ?_, fun y => ?_, ?_, fun y hy => ?_, fun y hy hyd z hz => ?_, fun y hy z hz => ?_, fun y hy => ?_, ?_⟩, ?_, fun y hy => ?_⟩
    · rw [hs]; have := h.lo y; split <;> omega
    · rw [hs, h.now]
      by_cases e : y = u
      · subst e; rw [if_pos rfl]; omega
      · rw [if_neg e]
    · rw [hs, List.mem_append, List.mem_singleton, h.nxt]
      by_cases e : y = u
      · subst e; rw [if_pos rfl]; simp
      · rw [if_neg e]; simp [e]
    · rw [hs, if_neg (fun e => by rw [← e, h.src] at hneg; omega)]; exact h.src
    · rw [hs] at hy
      by_cases e : y = u
      · rw [if_pos e] at hy; omega
      · rw [if_neg e] at hy; exact h.zero y hy
    · rw [hs] at hy hyd
      by_cases e : y = u
      · rw [if_pos e] at hyd; omega
      · rw [if_neg e] at hy hyd
        have := h.old y hy hyd z hz
        rw [hs, hs, if_neg e, if_neg (fun e2 => by rw [e2] at this; omega)]; exact this
    · rw [hs]; have := h.cur y hy z hz; split <;> omega
    · rw [hs] at hy
      by_cases e : y = u
      · refine ⟨v, ?_, e ▸ hu⟩
        rw [hs, hs, if_pos e, if_neg (fun e2 => by rw [e2] at hvd; omega)]; exact hvd
      · rw [if_neg e] at hy
        obtain ⟨z, hz, hzm⟩ := h.prd y hy
        refine ⟨z, ?_, hzm⟩
        rw [hs, hs, if_neg e, if_neg (fun e2 => by rw [e2] at hz; omega)]; exact hz
    · rw [cntS_set _ _ x d hx (by omega) (by omega), h.ct, List.length_append]; simp; omega
    · rw [hs, if_pos rfl]; omega
    · rw [hs]; split <;> omega
  · rw [if_neg hneg]
    exact ⟨h, by show 0 ≤ oAt out u; omega, fun y hy => hy⟩
theorem Lv.fold {n : Nat} {nb : Int → List Int} {s : Int} {d : Int} {now xs : List Int} {c0 : Nat} {v : Int} (hv : v ∈ now) (hr : ∀ u ∈ nb v, 0 ≤ u ∧ u < n) : ∀ (ys : List Int) (out next : List Int), (∀ u ∈ ys, u ∈ nb v) → Lv n nb s out d now next xs c0 →
    Lv n nb s (ys.foldl (seeS d) (out, next)).1 d now (ys.foldl (seeS d) (out, next)).2 xs c0 ∧ (∀ u ∈ ys, 0 ≤ oAt (ys.foldl (seeS d) (out, next)).1 u) ∧ ∀ y, 0 ≤ oAt out y → 0 ≤ oAt (ys.foldl (seeS d) (out, next)).1 y
  | [], out, next, _, h => ⟨h, by simp, fun y hy => hy⟩
  | u :: ys, out, next, hm, h => by
    have hu := hm u (by simp)
    obtain ⟨h1, h2, h3⟩ := h.see hv hu (hr u hu).1 (hr u hu).2
    obtain ⟨a, b, c⟩ := Lv.fold hv hr ys _ _ (fun x hx => hm x (by simp [hx])) h1
    rw [List.foldl_cons]
    refine ⟨a, fun x hx => ?_, fun y hy => c y (h3 y hy)⟩
    rcases List.mem_cons.1 hx with e | hx
    · subst e; exact c _ h2
    · exact b x hx
theorem Lv.vertex {n : Nat} {nb : Int → List Int} {s : Int} {out : List Int} {d : Int} {now next xs : List Int} {c0 : Nat} {v : Int} (h : Lv n nb s out d now next xs c0) (hv : v ∈ now) (hr : ∀ u ∈ nb v, 0 ≤ u ∧ u < n) :
    Lv n nb s ((nb v).foldl (seeS d) (out, next)).1 d now ((nb v).foldl (seeS d) (out, next)).2 (xs ++ [v]) c0 := by
  obtain ⟨a, b, c⟩ := Lv.fold hv hr (nb v) out next (fun _ h => h) h
  refine ⟨a.len, a.d1, a.lo, a.now, a.nxt, a.src, a.zero, a.old, fun u hu y hy => ?_, a.prd, a.ct⟩
  rcases List.mem_append.1 hu with hu | hu
  · exact a.cur u hu y hy
  · simp at hu; subst hu; exact b y hy
theorem Lv.round {n : Nat} {nb : Int → List Int} {s : Int} {out : List Int} {d : Int} {now next : List Int} {c0 : Nat} (h : Lv n nb s out d now next now c0) : Lv n nb s out (d + 1) next [] [] (cntS out) := by
  have hd := h.d1
  refine ⟨h.len, by omega, fun u => by have := h.lo u; omega, fun u => by rw [h.nxt]; omega, fun u => ?_, h.src, h.zero, fun u h0 hlt y hy => ?_, by simp, h.prd, by simp⟩
  · have := h.lo u; simp; omega
  · by_cases e : oAt out u < d - 1
    · exact h.old u h0 e y hy
    · have := h.lo u
      have h1 := h.cur u ((h.now u).2 (by omega)) y hy
      have := h.lo y
      omega
/-- How far each vertex is. -/
structure Dist (n : Nat) (nb : Int → List Int) (s : Int) (out : List Int) : Prop where
  len : out.length = n
  lo : ∀ u, -1 ≤ oAt out u ∧ oAt out u ≤ n
  src : oAt out s = 0
  zero : ∀ u, oAt out u = 0 → u = s
  clo : ∀ u, 0 ≤ oAt out u → ∀ y ∈ nb u, 0 ≤ oAt out y ∧ oAt out y ≤ oAt out u + 1
  prd : ∀ u, 0 < oAt out u → ∃ y, oAt out y = oAt out u - 1 ∧ u ∈ nb y
theorem Lv.dist {n : Nat} {nb : Int → List Int} {s : Int} {out : List Int} {d : Int} (h : Lv n nb s out d [] [] [] (cntS out)) (hdn : d ≤ n + 1) : Dist n nb s out := by
  have key : ∀ u, 0 ≤ oAt out u → oAt out u < d - 1 := by
    intro u h0
    have h1 := h.lo u
    have h2 : ¬ oAt out u = d - 1 := fun e => by have := (h.now u).2 e; simp at this
    have h3 : ¬ oAt out u = d := fun e => by have := (h.nxt u).2 e; simp at this
    omega
  refine ⟨h.len, fun u => ?_, h.src, h.zero, fun u h0 y hy => h.old u h0 (key u h0) y hy, h.prd⟩
  have := h.lo u
  by_cases h0 : 0 ≤ oAt out u
  · have := key u h0; omega
  · omega
theorem lv_start {n : Nat} (nb : Int → List Int) {s : Int} (hs : 0 ≤ s ∧ s < n) : Lv n nb s ((List.replicate n (-1)).set s.toNat 0) 1 [s] [] [] 1 ∧ cntS ((List.replicate n (-1)).set s.toNat 0) = 1 := by
  have hrep : ∀ u, oAt (List.replicate n (-1 : Int)) u = -1 := by
    intro u
    unfold oAt
    split
    · rw [List.getD_eq_getElem?_getD, List.getElem?_replicate]; split <;> rfl
    · rfl
  have hset : ∀ x, oAt ((List.replicate n (-1 : Int)).set s.toNat 0) x = if x = s then 0 else -1 := by
    intro x
    rw [oAt_set hs.1 (by simp; omega), hrep]
  have hct : cntS ((List.replicate n (-1 : Int)).set s.toNat 0) = 1 := by
    rw [cntS_set _ _ (-1) 0 (by rw [List.getElem?_replicate, if_pos (by omega)]) (by omega) (by omega)]
    have : cntS (List.replicate n (-1 : Int)) = 0 := by unfold cntS; rw [List.countP_replicate]; rfl
    omega
  refine ⟨⟨by simp, by omega, fun u => ?_, fun u => ?_, fun u => ?_, ?_, fun u hu => ?_, fun u h0 h1 => ?_, by simp, fun u hu => ?_, by rw [hct]; rfl⟩, hct⟩
  · rw [hset]; split <;> omega
  · rw [hset, List.mem_singleton]
    by_cases e : u = s
    · rw [if_pos e]; simp [e]
    · rw [if_neg e]; simp [e]
  · rw [hset]; simp; split <;> omega
  · rw [hset, if_pos rfl]
  · rw [hset] at hu
    by_cases e : u = s
    · exact e
    · rw [if_neg e] at hu; omega
  · omega
  · rw [hset] at hu; split at hu <;> omega

def muL (n c k : Nat) : Nat := 2 * (n - c) + if k = 0 then 0 else 1
theorem muL_lt {n c k j : Nat} (hk : 0 < k) (hc : c + j ≤ n) : muL n (c + j) j < muL n c k := by unfold muL; split <;> split <;> omega
theorem fill_neg (n : Nat) : fillTo n (fun _ => -1) n = List.replicate n (-1) := by
  rw [fillTo_all]
  apply List.ext_getElem?
  intro j
  rw [map_range_get, List.getElem?_replicate]
/-! ### Neighbours -/
def nbT (n : Nat) (l : List Edg) (f : List Int) (v : Int) : List Int := ((outOf n l v).filter (fun i => decide (0 < atI (leftL l f) (backOf i)))).map (headOf l)
def nbF (n : Nat) (l : List Edg) (f : List Int) (v : Int) : List Int := ((outOf n l v).filter (fun i => decide (0 < atI (leftL l f) i))).map (headOf l)
theorem outOf_mem {n : Nat} {l : List Edg} (hok : ArcsOk n l) {v i : Int} (h : i ∈ outOf n l v) : 0 ≤ i ∧ i < 2 * (l.length : Int) ∧ tailOf l i = v ∧ 0 ≤ v := by
  by_cases hv : 0 ≤ v
  · obtain ⟨a, b, c⟩ := (mem_outOf hok hv i).1 h; exact ⟨a, b, c, hv⟩
  · rw [outOf_out hok (by omega)] at h; simp at h
theorem nbT_rng {n : Nat} {l : List Edg} (hok : ArcsOk n l) (f : List Int) (v : Int) : ∀ u ∈ nbT n l f v, 0 ≤ u ∧ u < n := by
  intro u hu
  obtain ⟨i, hi, rfl⟩ := List.mem_map.1 hu
  obtain ⟨a, b, _, _⟩ := outOf_mem hok (List.mem_filter.1 hi).1
  have := head_rng hok a b
  omega
theorem nbF_rng {n : Nat} {l : List Edg} (hok : ArcsOk n l) (f : List Int) (v : Int) : ∀ u ∈ nbF n l f v, 0 ≤ u ∧ u < n := by
  intro u hu
  obtain ⟨i, hi, rfl⟩ := List.mem_map.1 hu
  obtain ⟨a, b, _, _⟩ := outOf_mem hok (List.mem_filter.1 hi).1
  have := head_rng hok a b
  omega
theorem tail_back {l : List Edg} {i : Int} (h : 0 ≤ i) : tailOf l (backOf i) = headOf l i := by
  unfold tailOf
  congr 1
  obtain ⟨k, rfl⟩ : ∃ k : Nat, i = k := ⟨i.toNat, by omega⟩
  rw [backOf_nat, backOf_nat]
  unfold bk
  split <;> split <;> omega
/-- What an arc of which something is left says of how far its ends are. -/
theorem mem_nbT {n : Nat} {l : List Edg} {f : List Int} (hok : ArcsOk n l) {i : Nat} (hi : i < 2 * l.length) (hl : 0 < atI (leftL l f) (i : Int)) : tailOf l (i : Int) ∈ nbT n l f (headOf l (i : Int)) := by
  have hr := head_rng hok (i := (i : Int)) (by omega) (by omega)
  have hb := bk_lt hi
  unfold nbT
  refine List.mem_map.2 ⟨(bk i : Nat), List.mem_filter.2 ⟨(mem_outOf hok hr.1 _).2 ⟨by omega, by omega, ?_⟩, ?_⟩, ?_⟩
  · rw [← backOf_nat, tail_back (by omega)]
  · have : backOf ((bk i : Nat) : Int) = (i : Int) := by rw [backOf_nat]; unfold bk; split <;> split <;> omega
    rw [this, decide_eq_true_eq]; exact hl
  · rw [← backOf_nat]; rfl
theorem nbT_arc {n : Nat} {l : List Edg} {f : List Int} (hok : ArcsOk n l) {u v : Int} (h : u ∈ nbT n l f v) : ∃ i : Nat, i < 2 * l.length ∧ tailOf l (i : Int) = u ∧ headOf l (i : Int) = v ∧ 0 < atI (leftL l f) (i : Int) := by
  obtain ⟨j, hj, rfl⟩ := List.mem_map.1 h
  obtain ⟨h1, h2⟩ := List.mem_filter.1 hj
  obtain ⟨a, b, c, _⟩ := outOf_mem hok h1
  obtain ⟨k, rfl⟩ : ∃ k : Nat, j = k := ⟨j.toNat, by omega⟩
  rw [decide_eq_true_eq, backOf_nat] at h2
  refine ⟨bk k, bk_lt (by omega), ?_, ?_, h2⟩
  · rw [← backOf_nat, tail_back (by omega)]
  · rw [← backOf_nat]; exact c
end Go.Proofs.YtipoblpnkkcpgaaGreat
