/-
  Plain laws of vertices put together: namings, edges renamed, edges split.
-/
import Derived.Test.YtipoblpnkkcpgaaCsrP
set_option linter.unusedVariables false
set_option linter.unusedSimpArgs false
namespace Go.Proofs.Ytipoblpnkkcpgaa
open Go Go.RowKit Go.Proofs.Ytipoblpnkkcpgaa.B

/-! ### Namings -/
def namB (k : Int) (name : List Int) : Bool := decide (0 ≤ k ∧ k ≤ 4096 ∧ name.length ≤ 4096) && (name.all (fun v => decide (0 ≤ v ∧ v < k)) && (List.range k.toNat).all (fun (j : Nat) => decide ((j : Int) ∈ name)))
theorem namB_iff (k : Int) (name : List Int) : namB k name = true ↔ (0 ≤ k ∧ k ≤ 4096 ∧ name.length ≤ 4096) ∧ (∀ v ∈ name, 0 ≤ v ∧ v < k) ∧ ∀ j : Nat, (j : Int) < k → (j : Int) ∈ name := by
  unfold namB
  simp only [Bool.and_eq_true, decide_eq_true_eq, List.all_eq_true, List.mem_range]
  constructor
  · rintro ⟨a, b, c⟩; exact ⟨a, b, fun j hj => c j (by omega)⟩
  · rintro ⟨a, b, c⟩; exact ⟨a, b, fun j hj => c j (by omega)⟩
def camB (k : Nat) (xs : List Int) : List Bool := (List.range k).map fun (j : Nat) => decide ((j : Int) ∈ xs)
def leftC (k : Nat) (xs : List Int) : Nat := (List.range k).countP fun (j : Nat) => decide (¬ (j : Int) ∈ xs)
theorem camB_length (k : Nat) (xs : List Int) : (camB k xs).length = k := by simp [camB]
theorem camB_nil (k : Nat) : camB k [] = List.replicate k false := by
  apply List.ext_getElem?
  intro j
  unfold camB
  rw [map_range_get, List.getElem?_replicate]; simp
theorem camB_get {k t : Nat} (xs : List Int) (h : t < k) : (camB k xs)[t]? = some (decide ((t : Int) ∈ xs)) := by unfold camB; rw [map_range_get, if_pos h]
theorem camB_set {k t : Nat} (xs : List Int) (h : t < k) : (camB k xs).set t true = camB k (xs ++ [(t : Int)]) := by
  unfold camB
  refine map_range_set _ _ _ _ _ (fun j hj hne => ?_) (fun hk => by simp)
  have : ¬ (j : Int) = (t : Int) := by omega
  simp [this]
theorem camB_same {k t : Nat} {xs : List Int} (h : (t : Int) ∈ xs) : camB k (xs ++ [(t : Int)]) = camB k xs := by
  unfold camB
  apply List.map_congr_left
  intro j _
  by_cases e : (j : Int) = t
  · rw [e]; simp [h]
  · simp [e]
theorem countP_less (p : Nat → Bool) (t : Nat) : ∀ k, (List.range k).countP (fun j => p j && decide (j ≠ t)) + (if t < k ∧ p t = true then 1 else 0) = (List.range k).countP p
  | 0 => by simp
  | k + 1 => by
    have ih := countP_less p t k
    rw [List.range_succ, List.countP_append, List.countP_append]
    simp only [List.countP_cons, List.countP_nil]
    by_cases hk : k = t
    · subst hk
      rw [if_neg (by omega)] at ih
      by_cases hp : p k = true
      · simp [hp]; simpa using ih
      · simp [hp]; simpa using ih
    · have h1 : (t < k + 1 ∧ p t = true) ↔ (t < k ∧ p t = true) := by constructor <;> rintro ⟨a, b⟩ <;> exact ⟨by omega, b⟩
      simp only [ne_eq] at ih
      simp only [h1, hk, ne_eq, not_false_eq_true, decide_true, Bool.and_true]
      omega
theorem leftC_nil (k : Nat) : leftC k [] = k := by simp [leftC]
theorem leftC_same {k t : Nat} {xs : List Int} (h : (t : Int) ∈ xs) : leftC k (xs ++ [(t : Int)]) = leftC k xs := by
  unfold leftC
  congr 1
  funext j
  by_cases e : (j : Int) = t
  · rw [e]; simp [h]
  · simp [e]
theorem leftC_new {k t : Nat} {xs : List Int} (ht : t < k) (h : ¬ (t : Int) ∈ xs) : leftC k (xs ++ [(t : Int)]) + 1 = leftC k xs := by
  have := countP_less (fun (j : Nat) => decide (¬ (j : Int) ∈ xs)) t k
  rw [if_pos ⟨ht, by simpa using h⟩] at this
  unfold leftC
  rw [← this]
  congr 2
  funext j
  by_cases e : j = t
  · subst e; simp [h]
  · have : ¬ (j : Int) = t := by omega
    simp [e, this]
theorem leftC_zero {k : Nat} {xs : List Int} : leftC k xs = 0 ↔ ∀ j, j < k → (j : Int) ∈ xs := by
  unfold leftC
  rw [List.countP_eq_zero]
  constructor
  · intro h j hj
    have := h j (List.mem_range.2 hj)
    simpa using this
  · intro h j hj
    simpa using h j (List.mem_range.1 hj)
theorem leftC_le (k : Nat) (xs : List Int) : leftC k xs ≤ k := by
  have := List.countP_le_length (p := fun (j : Nat) => decide (¬ (j : Int) ∈ xs)) (l := List.range k)
  simpa [leftC] using this

/-! ### Edges renamed -/
def renE (name : List Int) (e : Edg) : Edg := ⟨name.getD e.u.toNat 0, name.getD e.v.toNat 0, e.w⟩
def renL (name : List Int) (l : List Edg) : List Edg := l.map (renE name)
theorem renL_length (name : List Int) (l : List Edg) : (renL name l).length = l.length := by simp [renL]
theorem renL_total (name : List Int) (l : List Edg) : totalW (renL name l) = totalW l := by
  unfold totalW renL
  rw [List.map_map]; rfl
theorem renL_nonneg {name : List Int} {l : List Edg} (h : nonneg l) : nonneg (renL name l) := by
  intro e he
  unfold renL at he
  obtain ⟨x, hx, rfl⟩ := List.mem_map.1 he
  exact h x hx
theorem renL_rng {n : Nat} {k : Int} {name : List Int} {l : List Edg} (hok : ArcsOk n l) (hn : name.length = n) (hb : namB k name = true) : ∀ e ∈ renL name l, (0 ≤ e.u ∧ e.u < k) ∧ 0 ≤ e.v ∧ e.v < k := by
  intro e he
  unfold renL at he
  obtain ⟨x, hx, rfl⟩ := List.mem_map.1 he
  have hr := hok.rng x hx
  obtain ⟨_, h2, _⟩ := (namB_iff k name).1 hb
  obtain ⟨a, ha⟩ : ∃ a, name[x.u.toNat]? = some a := ⟨_, List.getElem?_eq_getElem (by omega)⟩
  obtain ⟨b, hb'⟩ : ∃ a, name[x.v.toNat]? = some a := ⟨_, List.getElem?_eq_getElem (by omega)⟩
  unfold renE
  simp only
  rw [getD_of ha, getD_of hb']
  exact ⟨h2 a (List.mem_of_getElem? ha), h2 b (List.mem_of_getElem? hb')⟩

/-! ### Edges split -/
def pcsE (e : Edg) : Nat := ((e.w - 1) / 2147483648 + 1).toNat
def pieE (e : Edg) : Edg := ⟨e.u, e.v, 2147483648⟩
def endE (e : Edg) (j : Nat) : Edg := ⟨e.u, e.v, e.w - j * 2147483648⟩
def splitE (e : Edg) : List Edg := List.replicate (pcsE e - 1) (pieE e) ++ [endE e (pcsE e - 1)]
def splitL (l : List Edg) : List Edg := l.flatMap splitE
theorem pcsE_bd {e : Edg} (h : 1 ≤ e.w) : 1 ≤ pcsE e ∧ ((pcsE e : Int) - 1) * 2147483648 < e.w ∧ e.w ≤ (pcsE e : Int) * 2147483648 := by
  unfold pcsE; omega
theorem splitE_length {e : Edg} (h : 1 ≤ e.w) : (splitE e).length = pcsE e := by
  have := (pcsE_bd h).1
  unfold splitE; simp; omega
theorem splitL_length {l : List Edg} (h : ∀ e ∈ l, 1 ≤ e.w) : ((splitL l).length : Int) * 2147483648 ≤ totalW l + l.length * 2147483648 := by
  induction l with
  | nil => simp [splitL, totalW]
  | cons e l ih =>
    have ih' := ih (fun x hx => h x (by simp [hx]))
    have h1 := h e (by simp)
    have h2 := pcsE_bd h1
    have h3 := splitE_length h1
    have : (splitL (e :: l)).length = (splitE e).length + (splitL l).length := by unfold splitL; rw [List.flatMap_cons, List.length_append]
    rw [this, totalW_cons, List.length_cons, h3]
    omega
theorem splitL_rng {l : List Edg} (h : ∀ e ∈ l, 1 ≤ e.w) : ∀ x ∈ splitL l, ∃ e ∈ l, x.u = e.u ∧ x.v = e.v ∧ 1 ≤ x.w ∧ x.w ≤ 2147483648 := by
  intro x hx
  unfold splitL at hx
  obtain ⟨e, he, hx⟩ := List.mem_flatMap.1 hx
  have h2 := pcsE_bd (h e he)
  refine ⟨e, he, ?_⟩
  unfold splitE at hx
  rcases List.mem_append.1 hx with hx | hx
  · obtain ⟨_, rfl⟩ := List.mem_replicate.1 hx
    exact ⟨rfl, rfl, by unfold pieE; simp, by unfold pieE; simp⟩
  · simp at hx; subst hx
    refine ⟨rfl, rfl, ?_, ?_⟩ <;> unfold endE <;> simp only <;> omega
def sumStep (acc : List Edg) (e : Edg) : List Edg := if e.u ≠ e.v then addE acc (normE e) else acc
theorem sumAll_app (a b : List Edg) : sumAll (a ++ b) = b.foldl sumStep (sumAll a) := by
  unfold sumAll; rw [List.foldl_append]; rfl
theorem addE_nil (e : Edg) : addE [] e = [e] := rfl
theorem addE_last {x e : Edg} (h : keyEq x e) : addE [x] e = [⟨x.u, x.v, x.w + e.w⟩] := by
  simp [addE, h]
theorem step_new {p : List Edg} {e : Edg} (hp : ∀ x ∈ p, keyLt x e) (huv : e.u < e.v) : sumStep p e = p ++ [e] := by
  have hn : normE e = e := by unfold normE; rw [if_neg (by omega)]
  unfold sumStep
  rw [if_pos (by omega), hn]
  have := addE_lt (p := p) (e := e) [] hp
  rw [List.append_nil] at this
  rw [this, addE_nil]
theorem step_same {p : List Edg} {x e : Edg} (hp : ∀ y ∈ p, keyLt y e) (hk : keyEq x e) (huv : e.u < e.v) : sumStep (p ++ [x]) e = p ++ [⟨x.u, x.v, x.w + e.w⟩] := by
  have hn : normE e = e := by unfold normE; rw [if_neg (by omega)]
  unfold sumStep
  rw [if_pos (by omega), hn, addE_lt [x] hp, addE_last hk]
theorem fold_pieces {p : List Edg} {e : Edg} (hp : ∀ x ∈ p, keyLt x e) (huv : e.u < e.v) : ∀ j : Nat, (List.replicate j (pieE e)).foldl sumStep p = p ++ if j = 0 then [] else [⟨e.u, e.v, (j : Int) * 2147483648⟩]
  | 0 => by simp
  | j + 1 => by
    rw [List.replicate_succ', List.foldl_append, fold_pieces hp huv j]
    have hp' : ∀ x ∈ p, keyLt x (pieE e) := hp
    simp only [List.foldl_cons, List.foldl_nil]
    by_cases hj : j = 0
    · subst hj; simp; rw [step_new hp' huv]; simp [pieE]
    · rw [if_neg hj, if_neg (by omega), step_same (x := ⟨e.u, e.v, (j : Int) * 2147483648⟩) hp' ⟨rfl, rfl⟩ huv]
      show p ++ [Edg.mk e.u e.v ((j : Int) * 2147483648 + 2147483648)] = _
      rw [show ((j + 1 : Nat) : Int) * 2147483648 = (j : Int) * 2147483648 + 2147483648 by omega]
theorem sumAll_split : ∀ (n : Nat) (l : List Edg), l.length = n → sortedE l → (∀ e ∈ l, e.u < e.v ∧ 1 ≤ e.w) → sumAll (splitL l) = l
  | 0, l, hl, _, _ => by obtain rfl : l = [] := List.eq_nil_of_length_eq_zero hl; rfl
  | n + 1, l, hl, hs, hw => by
    obtain ⟨m, x, rfl⟩ : ∃ m x, l = m ++ [x] := ⟨l.dropLast, l.getLast (by intro h; subst h; simp at hl), (List.dropLast_concat_getLast _).symm⟩
    unfold sortedE at hs
    rw [List.pairwise_append] at hs
    have ih := sumAll_split n m (by simpa using hl) hs.1 (fun e he => hw e (by simp [he]))
    have hp : ∀ y ∈ m, keyLt y x := fun y hy => hs.2.2 y hy x (by simp)
    obtain ⟨huv, hw1⟩ := hw x (by simp)
    have hb := pcsE_bd hw1
    have : splitL (m ++ [x]) = splitL m ++ splitE x := by unfold splitL; rw [List.flatMap_append]; simp
    rw [this, sumAll_app, ih]
    unfold splitE
    rw [List.foldl_append, fold_pieces hp huv]
    simp only [List.foldl_cons, List.foldl_nil]
    have hp' : ∀ y ∈ m, keyLt y (endE x (pcsE x - 1)) := hp
    by_cases hj : pcsE x - 1 = 0
    · rw [if_pos hj, List.append_nil, step_new hp' huv, hj]; simp [endE]
    · rw [if_neg hj, step_same (x := ⟨x.u, x.v, ((pcsE x - 1 : Nat) : Int) * 2147483648⟩) hp' ⟨rfl, rfl⟩ huv]
      simp only [endE]
      obtain ⟨a, b, c⟩ := x
      simp only at *
      congr 3
      omega
theorem merge_pos {l : List Edg} (h : nonneg l) : ∀ e ∈ mergeL l, e.u < e.v ∧ 1 ≤ e.w := by
  intro e he
  obtain ⟨h1, h2⟩ := List.mem_filter.1 he
  have h3 := sumAll_lt l e h1
  have h4 := ((sumAll_ok l).2.2 h).1 e h1
  have h5 : e.w ≠ 0 := by simpa using h2
  exact ⟨h3, by omega⟩
/-- Split and merged, edges are what they were. -/
theorem merge_split {l : List Edg} (h : nonneg l) : mergeL (splitL (mergeL l)) = mergeL l := by
  have hp := merge_pos h
  have hs := sumAll_split _ (mergeL l) rfl ((sumAll_ok l).1.filter _) hp
  show (sumAll (splitL (mergeL l))).filter _ = _
  rw [hs]
  apply List.filter_eq_self.2
  intro e he
  have := (hp e he).2
  simp; omega
theorem totalW_filter {l : List Edg} (h : nonneg l) (p : Edg → Bool) : totalW (l.filter p) ≤ totalW l := by
  induction l with
  | nil => simp [totalW]
  | cons x m ih =>
    have h1 := ih (fun y hy => h y (by simp [hy]))
    have h2 := h x (by simp)
    rw [List.filter_cons]
    split
    · rw [totalW_cons, totalW_cons]; omega
    · rw [totalW_cons]; omega
theorem mergeL_total {l : List Edg} (h : nonneg l) : totalW (mergeL l) ≤ totalW l := by
  obtain ⟨a, b⟩ := (sumAll_ok l).2.2 h
  have := totalW_filter a (fun e => e.w ≠ 0)
  unfold mergeL; omega
theorem chkE_of {n : Int} {e : Edg} (h : 0 ≤ e.u ∧ e.u < n ∧ 0 ≤ e.v ∧ e.v < n ∧ 0 ≤ e.w ∧ e.w ≤ 2147483648) : chkE n e = 0 := by
  unfold chkE; rw [if_neg (by omega), if_neg (by omega)]
/-- The parts of a merged list make a graph. -/
theorem split_ok {k : Int} {l : List Edg} (h0 : 0 ≤ k) (hk : k ≤ 4096) (hn : nonneg l) (hr : ∀ e ∈ l, (0 ≤ e.u ∧ e.u < k) ∧ 0 ≤ e.v ∧ e.v < k) (hl : l.length ≤ 4096) (ht : totalW l ≤ 8796093022208) : NewOk k (splitL (mergeL l)) ∧ (splitL (mergeL l)).length ≤ 8192 := by
  have hp := merge_pos hn
  have hsl := splitL_length (l := mergeL l) (fun e he => (hp e he).2)
  have hml := mergeL_length l
  have hmt := mergeL_total hn
  have hlen : (splitL (mergeL l)).length ≤ 8192 := by omega
  refine ⟨⟨h0, hk, by omega, .inl ⟨rfl, rfl, fun x hx => ?_⟩⟩, hlen⟩
  obtain ⟨e, he, hu, hv, hw1, hw2⟩ := splitL_rng (fun e he => (hp e he).2) x hx
  obtain ⟨y, hy, hk1, hk2⟩ := sumAll_mem l e (List.mem_filter.1 he).1
  have hry := hr y hy
  have : (0 ≤ (normE y).u ∧ (normE y).u < k) ∧ 0 ≤ (normE y).v ∧ (normE y).v < k := by unfold normE; split <;> (try dsimp only) <;> omega
  exact chkE_of (by omega)
end Go.Proofs.Ytipoblpnkkcpgaa
