/-
  Plain laws of reach: to where something may go; the program's way over lists, the document's rounds.
-/
import Derived.Test.YtipoblpnkkcpgaaGreatResP
import Derived.Test.YtipoblpnkkcpgaaGreatModel
set_option linter.unusedVariables false
set_option linter.unusedSimpArgs false
namespace Go.Proofs.YtipoblpnkkcpgaaGreat
open Go Go.RowKit Go.Proofs.YtipoblpnkkcpgaaGreat.B

inductive Rch (l : List Edg) (f : List Int) : Int → Int → Prop
  | refl (v : Int) : Rch l f v v
  | step {v : Int} (i : Nat) : Rch l f v (tailOf l (i : Int)) → i < 2 * l.length → 0 < atI (leftL l f) (i : Int) → Rch l f v (headOf l (i : Int))
noncomputable def rchL (n : Nat) (l : List Edg) (f : List Int) (v : Int) : List Int :=
  if 0 ≤ v ∧ v < n then ((List.range n).filter (fun (u : Nat) => @decide (Rch l f v (u : Int)) (Classical.propDecidable _))).map (fun (u : Nat) => (u : Int)) else []
def cnt (cs : List Bool) : Nat := cs.countP id
theorem cnt_le (cs : List Bool) : cnt cs ≤ cs.length := List.countP_le_length
theorem cnt_set : ∀ (cs : List Bool) (t : Nat), cs[t]? = some false → cnt (cs.set t true) = cnt cs + 1
  | [], t, h => by simp at h
  | c :: cs, 0, h => by simp at h; subst h; simp [cnt, List.countP_cons]
  | c :: cs, t + 1, h => by
    have ih := cnt_set cs t (by simpa using h)
    unfold cnt at *
    rw [List.set_cons_succ, List.countP_cons, List.countP_cons, ih]; omega
theorem getB {cs : List Bool} {t : Nat} (h : t < cs.length) : ∃ b, cs[t]? = some b ∧ cs.getD t false = b := ⟨_, List.getElem?_eq_getElem h, by rw [List.getD_eq_getElem?_getD, List.getElem?_eq_getElem h]; rfl⟩
theorem getD_setB {cs : List Bool} {t j : Nat} (ht : t < cs.length) : (cs.set t true).getD j false = if t = j then true else cs.getD j false := by
  rw [List.getD_eq_getElem?_getD, List.getElem?_set]
  by_cases h : t = j
  · subst h; rw [if_pos rfl, if_pos ht, if_pos rfl]; rfl
  · rw [if_neg h, if_neg h, List.getD_eq_getElem?_getD]
theorem set_sameB {cs : List Bool} {t : Nat} (h : cs.getD t false = true) : cs.set t true = cs := by
  apply List.ext_getElem?
  intro j
  rw [List.getElem?_set]
  by_cases e : t = j
  · subst e
    rw [if_pos rfl]
    rw [List.getD_eq_getElem?_getD] at h
    cases hq : cs[t]? with
    | none => rw [hq] at h; cases h
    | some b => rw [hq] at h; simp at h; subst h; rw [if_pos (List.getElem?_eq_some_iff.1 hq).1]
  · rw [if_neg e]
/-- What is met: of nothing but what is reached; and whole, once nothing leads out of it. -/
structure Met (n : Nat) (l : List Edg) (f : List Int) (v : Int) (cs : List Bool) : Prop where
  len : cs.length = n
  has : cs.getD v.toNat false = true
  snd : ∀ u : Nat, cs.getD u false = true → Rch l f v (u : Int)
def ClosedB (l : List Edg) (f : List Int) (cs : List Bool) : Prop := ∀ i : Nat, i < 2 * l.length → cs.getD (tailOf l (i : Int)).toNat false = true → 0 < atI (leftL l f) (i : Int) → cs.getD (headOf l (i : Int)).toNat false = true
theorem Met.iff {n : Nat} {l : List Edg} {f : List Int} {v : Int} {cs : List Bool} (h : Met n l f v cs) (hv : 0 ≤ v) (hok : ArcsOk n l) (hc : ClosedB l f cs) (u : Nat) : cs.getD u false = true ↔ Rch l f v (u : Int) := by
  refine ⟨h.snd u, fun hr => ?_⟩
  have key : ∀ x : Int, Rch l f v x → cs.getD x.toNat false = true := by
    intro x hx
    induction hx with
    | refl => exact h.has
    | step i _ hi hl ih => exact hc i hi ih hl
  simpa using key _ hr
theorem Met.list {n : Nat} {l : List Edg} {f : List Int} {v : Int} {cs : List Bool} (h : Met n l f v cs) (hv : 0 ≤ v ∧ v < n) (hok : ArcsOk n l) (hc : ClosedB l f cs) :
    ((List.range n).filter (fun (u : Nat) => cs.getD u false)).map (fun (u : Nat) => (u : Int)) = rchL n l f v := by
  unfold rchL
  rw [if_pos hv]
  congr 1
  apply List.filter_congr
  intro u _
  have := h.iff hv.1 hok hc u
  by_cases hr : Rch l f v (u : Int)
  · rw [this.2 hr]; exact (@decide_eq_true _ (Classical.propDecidable _) hr).symm
  · have h2 : cs.getD u false = false := by
      cases hb : cs.getD u false with
      | false => rfl
      | true => exact absurd (this.1 hb) hr
    rw [h2]; exact (@decide_eq_false _ (Classical.propDecidable _) hr).symm
theorem Met.set {n : Nat} {l : List Edg} {f : List Int} {v : Int} {cs : List Bool} (h : Met n l f v cs) (hok : ArcsOk n l) {i : Nat} (hi : i < 2 * l.length) (ht : cs.getD (tailOf l (i : Int)).toNat false = true) (hl : 0 < atI (leftL l f) (i : Int)) :
    Met n l f v (cs.set (headOf l (i : Int)).toNat true) := by
  have hr := head_rng hok (i := (i : Int)) (by omega) (by omega)
  have hlt : (headOf l (i : Int)).toNat < cs.length := by rw [h.len]; omega
  refine ⟨by simp [h.len], ?_, fun u hu => ?_⟩
  · rw [getD_setB hlt, h.has]; split <;> rfl
  · rw [getD_setB hlt] at hu
    by_cases e : (headOf l (i : Int)).toNat = u
    · have h1 := h.snd _ ht
      rw [show (((tailOf l (i : Int)).toNat : Nat) : Int) = tailOf l (i : Int) by omega] at h1
      have h2 := Rch.step i h1 hi hl
      rwa [show (u : Int) = headOf l (i : Int) by omega]
    · rw [if_neg e] at hu; exact h.snd u hu

/-! ### The document's rounds -/
/-- Within a round: cs0 at its beginning, cs behind i arcs. -/
structure Rnd (n : Nat) (l : List Edg) (f : List Int) (v : Int) (cs0 cs : List Bool) (i : Nat) : Prop where
  met : Met n l f v cs
  up : ∀ u, cs0.getD u false = true → cs.getD u false = true
  done : ∀ j : Nat, j < i → j < 2 * l.length → cs0.getD (tailOf l (j : Int)).toNat false = true → 0 < atI (leftL l f) (j : Int) → cs.getD (headOf l (j : Int)).toNat false = true
  cl : ClosedB l f cs0 → cs = cs0
  ct : cnt cs0 ≤ cnt cs ∧ (cnt cs0 = cnt cs → cs = cs0)
theorem Rnd.start {n : Nat} {l : List Edg} {f : List Int} {v : Int} {cs : List Bool} (h : Met n l f v cs) : Rnd n l f v cs cs 0 := ⟨h, fun _ h => h, fun j hj => absurd hj (by omega), fun _ => rfl, Nat.le_refl _, fun _ => rfl⟩
theorem Rnd.go {n : Nat} {l : List Edg} {f : List Int} {v : Int} {cs0 cs : List Bool} {i : Nat} (h : Rnd n l f v cs0 cs i) (hok : ArcsOk n l) (hi : i < 2 * l.length) (ht : cs.getD (tailOf l (i : Int)).toNat false = true) (hl : 0 < atI (leftL l f) (i : Int)) :
    Rnd n l f v cs0 (cs.set (headOf l (i : Int)).toNat true) (i + 1) := by
  have hr := head_rng hok (i := (i : Int)) (by omega) (by omega)
  have hlt : (headOf l (i : Int)).toNat < cs.length := by rw [h.met.len]; omega
  refine ⟨h.met.set hok hi ht hl, fun u hu => ?_, fun j hj hjl h0 hjp => ?_, fun hc => ?_, ?_⟩
  · rw [getD_setB hlt, h.up u hu]; split <;> rfl
  · rw [getD_setB hlt]
    rcases Nat.lt_or_ge j i with hq | hq
    · rw [h.done j hq hjl h0 hjp]; split <;> rfl
    · obtain rfl : j = i := by omega
      rw [if_pos rfl]
  · have e := h.cl hc
    rw [e] at ht ⊢
    exact set_sameB (hc i hi ht hl)
  · obtain ⟨b, hb, hb2⟩ := getB hlt
    cases b with
    | true => rw [set_sameB hb2]; exact h.ct
    | false =>
      have := cnt_set cs _ hb
      exact ⟨by have := h.ct.1; omega, fun e => by have := h.ct.1; omega⟩
theorem Rnd.stay {n : Nat} {l : List Edg} {f : List Int} {v : Int} {cs0 cs : List Bool} {i : Nat} (h : Rnd n l f v cs0 cs i) (hno : ¬ (cs.getD (tailOf l (i : Int)).toNat false = true ∧ 0 < atI (leftL l f) (i : Int))) : Rnd n l f v cs0 cs (i + 1) := by
  refine ⟨h.met, h.up, fun j hj hjl h0 hjp => ?_, h.cl, h.ct⟩
  rcases Nat.lt_or_ge j i with hq | hq
  · exact h.done j hq hjl h0 hjp
  · obtain rfl : j = i := by omega
    exact absurd ⟨h.up _ h0, hjp⟩ hno
/-- Between rounds. -/
def RndOk (n : Nat) (l : List Edg) (f : List Int) (v : Int) (cs : List Bool) (k : Nat) : Prop := Met n l f v cs ∧ (ClosedB l f cs ∨ k + 1 ≤ cnt cs)
theorem RndOk.next {n : Nat} {l : List Edg} {f : List Int} {v : Int} {cs0 cs : List Bool} {k : Nat} (h0 : RndOk n l f v cs0 k) (h : Rnd n l f v cs0 cs (2 * l.length)) : RndOk n l f v cs (k + 1) := by
  refine ⟨h.met, ?_⟩
  rcases h0.2 with hc | hc
  · left; rw [h.cl hc]; exact hc
  · by_cases he : cnt cs0 = cnt cs
    · left
      have e := h.ct.2 he
      intro i hi ht hl
      exact h.done i hi hi (by rw [← e]; exact ht) hl
    · right; have := h.ct.1; omega
theorem RndOk.last {n : Nat} {l : List Edg} {f : List Int} {v : Int} {cs : List Bool} (h : RndOk n l f v cs n) : ClosedB l f cs := by
  rcases h.2 with hc | hc
  · exact hc
  · have := cnt_le cs; have := h.1.len; omega
theorem met_start {n : Nat} (l : List Edg) (f : List Int) {v : Int} (hv : 0 ≤ v ∧ v < n) : Met n l f v ((List.replicate n false).set v.toNat true) ∧ cnt ((List.replicate n false).set v.toNat true) = 1 := by
  have hlt : v.toNat < (List.replicate n false).length := by simp; omega
  have hrep : ∀ j, (List.replicate n false).getD j false = false := by
    intro j; rw [List.getD_eq_getElem?_getD, List.getElem?_replicate]; split <;> rfl
  refine ⟨⟨by simp, by rw [getD_setB hlt, if_pos rfl], fun u hu => ?_⟩, ?_⟩
  · rw [getD_setB hlt, hrep] at hu
    by_cases e : v.toNat = u
    · rw [show (u : Int) = v by omega]; exact Rch.refl v
    · rw [if_neg e] at hu; cases hu
  · rw [cnt_set _ _ (by rw [List.getElem?_replicate, if_pos (by omega)])]
    have : cnt (List.replicate n false) = 0 := by unfold cnt; rw [List.countP_replicate]; rfl
    omega

/-! ### The program's way over lists -/
structure Bfs (n : Nat) (l : List Edg) (f : List Int) (v : Int) (cs : List Bool) (out : List Int) (k : Nat) : Prop where
  met : Met n l f v cs
  mem : ∀ u : Int, u ∈ out ↔ 0 ≤ u ∧ cs.getD u.toNat false = true
  nd : out.Nodup
  ct : out.length = cnt cs
  done : ∀ q u, q < k → out[q]? = some u → ∀ i : Nat, i < 2 * l.length → tailOf l (i : Int) = u → 0 < atI (leftL l f) (i : Int) → cs.getD (headOf l (i : Int)).toNat false = true
theorem bfs_start {n : Nat} (l : List Edg) (f : List Int) {v : Int} (hv : 0 ≤ v ∧ v < n) : Bfs n l f v ((List.replicate n false).set v.toNat true) [v] 0 := by
  obtain ⟨h1, h2⟩ := met_start l f hv
  have hlt : v.toNat < (List.replicate n false).length := by simp; omega
  refine ⟨h1, fun u => ?_, by simp, by rw [h2]; rfl, fun q u hq => absurd hq (by omega)⟩
  rw [getD_setB hlt, List.mem_singleton]
  have hrep : (List.replicate n false).getD u.toNat false = false := by rw [List.getD_eq_getElem?_getD, List.getElem?_replicate]; split <;> rfl
  rw [hrep]
  constructor
  · rintro rfl; exact ⟨hv.1, by rw [if_pos rfl]⟩
  · rintro ⟨h0, h⟩
    by_cases e : v.toNat = u.toNat
    · omega
    · rw [if_neg e] at h; cases h
/-- While the arcs out of the place k are gone through: those of xs are done. -/
def BfsIn (n : Nat) (l : List Edg) (f : List Int) (v : Int) (cs : List Bool) (out : List Int) (k : Nat) (xs : List Int) : Prop := Bfs n l f v cs out k ∧ ∀ i ∈ xs, 0 < atI (leftL l f) i → cs.getD (headOf l i).toNat false = true
theorem BfsIn.see {n : Nat} {l : List Edg} {f : List Int} {v : Int} {cs : List Bool} {out : List Int} {k : Nat} {xs : List Int} {i : Nat} {u : Int} (h : BfsIn n l f v cs out k xs) (hok : ArcsOk n l) (hu : out[k]? = some u) (hi : i < 2 * l.length) (ht : tailOf l (i : Int) = u) (hl : 0 < atI (leftL l f) (i : Int)) (hno : cs.getD (headOf l (i : Int)).toNat false = false) :
    BfsIn n l f v (cs.set (headOf l (i : Int)).toNat true) (out ++ [headOf l (i : Int)]) k (xs ++ [(i : Int)]) := by
  have hr := head_rng hok (i := (i : Int)) (by omega) (by omega)
  have hlt : (headOf l (i : Int)).toNat < cs.length := by rw [h.1.met.len]; omega
  have hut : cs.getD (tailOf l (i : Int)).toNat false = true := by rw [ht]; exact ((h.1.mem u).1 (List.mem_of_getElem? hu)).2
  have hnm : ¬ headOf l (i : Int) ∈ out := fun hm => by rw [((h.1.mem _).1 hm).2] at hno; cases hno
  have hkl := (List.getElem?_eq_some_iff.1 hu).1
  refine ⟨⟨h.1.met.set hok hi hut hl, fun x => ?_, ?_, ?_, fun q y hq hy j hj hjt hjl => ?_⟩, fun x hx hxl => ?_⟩
  · rw [getD_setB hlt, List.mem_append, List.mem_singleton, h.1.mem x]
    constructor
    · rintro (⟨a, b⟩ | rfl)
      · exact ⟨a, by rw [b]; split <;> rfl⟩
      · exact ⟨hr.1, by rw [if_pos rfl]⟩
    · rintro ⟨a, b⟩
      by_cases e : (headOf l (i : Int)).toNat = x.toNat
      · right; omega
      · rw [if_neg e] at b; exact .inl ⟨a, b⟩
  · rw [List.nodup_append]
    exact ⟨h.1.nd, by simp, fun a ha b hb => by simp at hb; subst hb; intro e; subst e; exact hnm ha⟩
  · obtain ⟨b, hb, hb2⟩ := getB hlt
    rw [hb2] at hno; subst hno
    rw [List.length_append, cnt_set _ _ hb, h.1.ct]; rfl
  · rw [List.getElem?_append_left (by omega)] at hy
    rw [getD_setB hlt, h.1.done q y hq hy j hj hjt hjl]; split <;> rfl
  · rw [getD_setB hlt]
    rcases List.mem_append.1 hx with hx | hx
    · rw [h.2 x hx hxl]; split <;> rfl
    · simp at hx; subst hx; rw [if_pos rfl]
theorem BfsIn.pass {n : Nat} {l : List Edg} {f : List Int} {v : Int} {cs : List Bool} {out : List Int} {k : Nat} {xs : List Int} {i : Int} (h : BfsIn n l f v cs out k xs) (hno : 0 < atI (leftL l f) i → cs.getD (headOf l i).toNat false = true) : BfsIn n l f v cs out k (xs ++ [i]) :=
  ⟨h.1, fun x hx hxl => by
    rcases List.mem_append.1 hx with hx | hx
    · exact h.2 x hx hxl
    · simp at hx; subst hx; exact hno hxl⟩
theorem BfsIn.next {n : Nat} {l : List Edg} {f : List Int} {v : Int} {cs : List Bool} {out : List Int} {k : Nat} {u : Int} (h : BfsIn n l f v cs out k (outOf n l u)) (hok : ArcsOk n l) (hu : out[k]? = some u) (hu0 : 0 ≤ u) : Bfs n l f v cs out (k + 1) := by
  refine ⟨h.1.met, h.1.mem, h.1.nd, h.1.ct, fun q y hq hy i hi ht hl => ?_⟩
  rcases Nat.lt_or_ge q k with hk | hk
  · exact h.1.done q y hk hy i hi ht hl
  · obtain rfl : q = k := by omega
    rw [hu] at hy; cases hy
    exact h.2 (i : Int) ((mem_outOf hok hu0 _).2 ⟨by omega, by omega, ht⟩) hl
theorem sorted_range_filter (n : Nat) (p : Nat → Bool) : (((List.range n).filter p).map (fun (u : Nat) => (u : Int))).Pairwise (fun x y => x < y) := by
  rw [List.pairwise_map]
  refine List.Pairwise.imp (fun {a b} h => ?_) ((List.pairwise_lt_range (n := n)).filter p)
  omega
theorem sortL_strict {xs : List Int} (h : xs.Nodup) : (sortL xs).Pairwise (fun x y => x < y) := by
  have h1 : (sortL xs).Pairwise (fun x y => (decide (x ≤ y)) = true) := List.pairwise_mergeSort (fun a b c h1 h2 => by simp at *; omega) (fun a b => by simp; omega) xs
  have h2 : (sortL xs).Nodup := ((List.mergeSort_perm xs _).nodup_iff).2 h
  exact List.Pairwise.imp (fun {a b} hab => by simp at hab; omega) (List.Pairwise.and h2 h1)
theorem Bfs.list {n : Nat} {l : List Edg} {f : List Int} {v : Int} {cs : List Bool} {out : List Int} (h : Bfs n l f v cs out out.length) (hv : 0 ≤ v ∧ v < n) (hok : ArcsOk n l) : sortL out = rchL n l f v := by
  have hc : ClosedB l f cs := by
    intro i hi ht hl
    have hr := head_rng hok (i := (i : Int)) (by omega) (by omega)
    obtain ⟨q, hq⟩ := List.mem_iff_getElem?.1 ((h.mem (tailOf l (i : Int))).2 ⟨by omega, ht⟩)
    exact h.done q _ (List.getElem?_eq_some_iff.1 hq).1 hq i hi rfl hl
  rw [← h.met.list hv hok hc]
  refine grow_unique (f := id) (sortL_strict h.nd) (sorted_range_filter n _) (fun x => ?_)
  unfold sortL
  rw [(List.mergeSort_perm out _).mem_iff, h.mem x, List.mem_map]
  constructor
  · rintro ⟨h0, hb⟩
    refine ⟨x.toNat, List.mem_filter.2 ⟨List.mem_range.2 ?_, hb⟩, by omega⟩
    rw [List.getD_eq_getElem?_getD] at hb
    rcases Nat.lt_or_ge x.toNat n with hq | hq
    · exact hq
    · rw [List.getElem?_eq_none (by rw [h.met.len]; exact hq)] at hb; cases hb
  · rintro ⟨u, hu, rfl⟩
    exact ⟨by omega, by simpa using (List.mem_filter.1 hu).2⟩
theorem rchL_length (n : Nat) (l : List Edg) (f : List Int) (v : Int) : (rchL n l f v).length ≤ n := by
  unfold rchL
  split
  · rw [List.length_map]; exact Nat.le_trans (List.length_filter_le _ _) (by simp)
  · simp
end Go.Proofs.YtipoblpnkkcpgaaGreat
