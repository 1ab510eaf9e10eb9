/-
  Plain data and plain laws: edges, merged edges, arcs. No program here.
-/
set_option linter.unusedVariables false
set_option linter.unusedSimpArgs false
namespace Go.Proofs.YtipoblpnkkcpgaaGreat

/-- An edge. -/
structure Edg where
  u : Int
  v : Int
  w : Int
  deriving DecidableEq, Inhabited
/-! Orders. -/
def cmpI (x y : Int) : Int := if x < y then -1 else if y < x then 1 else 0
def orOf : List Int → Int
  | [] => 0
  | x :: l => if x ≠ 0 then x else orOf l
theorem orOf_at : ∀ {l : List Int} {k : Nat} {x : Int}, (∀ j, j < k → ∀ y, l[j]? = some y → y = 0) → l[k]? = some x → x ≠ 0 → orOf l = x
  | [], _, _, _, h, _ => by simp at h
  | y :: l, 0, x, _, h, hx => by simp at h; subst h; rw [orOf, if_pos hx]
  | y :: l, k + 1, x, h0, h, hx => by
    have hy := h0 0 (by omega) y rfl
    rw [orOf, if_neg (by simp [hy])]
    exact orOf_at (k := k) (fun j hj z hz => h0 (j + 1) (by omega) z (by simpa using hz)) (by simpa using h) hx
theorem orOf_zero : ∀ {l : List Int}, (∀ y ∈ l, y = 0) → orOf l = 0
  | [], _ => rfl
  | y :: l, h => by rw [orOf, if_neg (by simp [h y (by simp)])]; exact orOf_zero (fun z hz => h z (by simp [hz]))
/-! Edges that may be. -/
def chkE (n : Int) (e : Edg) : Int := if e.u < 0 ∨ n ≤ e.u ∨ e.v < 0 ∨ n ≤ e.v then 4 else if e.w < 0 ∨ 2147483648 < e.w then 5 else 0
def Chks (n : Int) (l : List Edg) (c : Int) (i : Nat) : Prop :=
  (c = 0 ∧ i = 0 ∧ ∀ e ∈ l, chkE n e = 0) ∨ (c ≠ 0 ∧ ∃ e, l[i]? = some e ∧ chkE n e = c ∧ ∀ j, j < i → ∀ e', l[j]? = some e' → chkE n e' = 0)
def arcsOf (l : List Edg) : List (Int × Int) := l.flatMap fun e => [(e.v, e.w), (e.u, e.w)]
theorem arcsOf_length (l : List Edg) : (arcsOf l).length = 2 * l.length := by
  unfold arcsOf
  induction l with
  | nil => rfl
  | cons e l ih => rw [List.flatMap_cons, List.length_append, ih]; simp; omega
structure ArcsD where
  n : Nat
  l : List Edg
  fr : List Nat
  out : List Int
def headOf (l : List Edg) (i : Int) : Int := if 0 ≤ i then (((arcsOf l)[i.toNat]?).map (·.1)).getD (-1) else -1
def capOf (l : List Edg) (i : Int) : Int := if 0 ≤ i then (((arcsOf l)[i.toNat]?).map (·.2)).getD 0 else 0
def backOf (i : Int) : Int := if i < 0 then -1 else if i % 2 = 0 then i + 1 else i - 1
def tailOf (l : List Edg) (i : Int) : Int := headOf l (backOf i)
def edgeOf (i : Int) : Int := if i < 0 then -1 else i / 2
def ArcsD.of (D : ArcsD) (v : Nat) : List Int := (D.out.drop (D.fr.getD v 0)).take (D.fr.getD (v + 1) 0 - D.fr.getD v 0)

/-! Merged edges. -/
def normE (e : Edg) : Edg := if e.u > e.v then ⟨e.v, e.u, e.w⟩ else e
/-- The pair's place in the order. -/
def keyLt (a b : Edg) : Prop := a.u < b.u ∨ (a.u = b.u ∧ a.v < b.v)
def keyEq (a b : Edg) : Prop := a.u = b.u ∧ a.v = b.v
instance (a b : Edg) : Decidable (keyLt a b) := by unfold keyLt; infer_instance
instance (a b : Edg) : Decidable (keyEq a b) := by unfold keyEq; infer_instance
def addE : List Edg → Edg → List Edg
  | [], e => [e]
  | x :: l, e => if keyEq x e then ⟨x.u, x.v, x.w + e.w⟩ :: l else if keyLt e x then e :: x :: l else x :: addE l e
def sortedE (l : List Edg) : Prop := l.Pairwise keyLt
def sumAll (l : List Edg) : List Edg := l.foldl (fun acc e => if e.u ≠ e.v then addE acc (normE e) else acc) []
def mergeL (l : List Edg) : List Edg := (sumAll l).filter (fun e => e.w ≠ 0)
def totalW (l : List Edg) : Int := (l.map (·.w)).sum

theorem keyLt_trans {a b c : Edg} (h : keyLt a b) (k : keyLt b c) : keyLt a c := by unfold keyLt at *; omega
theorem keyLt_irrefl (a : Edg) : ¬ keyLt a a := by unfold keyLt; omega
theorem keyLt_of_not {a b : Edg} (h : ¬ keyLt a b) (k : ¬ keyEq b a) : keyLt b a := by unfold keyLt keyEq at *; omega
theorem addE_lt {e : Edg} : ∀ {p : List Edg} (q : List Edg), (∀ x ∈ p, keyLt x e) → addE (p ++ q) e = p ++ addE q e
  | [], _, _ => rfl
  | x :: p, q, h => by
    have hx := h x (by simp)
    have h1 : ¬ keyEq x e := by unfold keyEq; unfold keyLt at hx; omega
    have h2 : ¬ keyLt e x := by unfold keyLt at *; omega
    rw [List.cons_append, addE, if_neg h1, if_neg h2, addE_lt q (fun y hy => h y (by simp [hy]))]
    rfl
theorem addE_done {e : Edg} : ∀ {p : List Edg} (q : List Edg), (∃ x ∈ p, ¬ keyLt x e) → addE (p ++ q) e = addE p e ++ q
  | [], _, ⟨x, hx, _⟩ => by simp at hx
  | x :: p, q, ⟨y, hy, hn⟩ => by
    rw [List.cons_append, addE, addE]
    by_cases h1 : keyEq x e
    · rw [if_pos h1, if_pos h1]; rfl
    · rw [if_neg h1, if_neg h1]
      by_cases h2 : keyLt e x
      · rw [if_pos h2, if_pos h2]; rfl
      · rw [if_neg h2, if_neg h2]
        have : ∃ z ∈ p, ¬ keyLt z e := by
          rcases List.mem_cons.1 hy with rfl | hy
          · exact absurd (keyLt_of_not h2 h1) hn
          · exact ⟨y, hy, hn⟩
        rw [addE_done q this]; rfl
def stepO (l : List Edg) (e : Edg) (k : Nat) (d : Bool) : List Edg := if d then addE (l.take k) e else l.take k
def StepOk (l : List Edg) (e : Edg) (k : Nat) (d : Bool) : Prop := k ≤ l.length ∧ (d = false → ∀ x ∈ l.take k, keyLt x e) ∧ (d = true → ∃ x ∈ l.take k, ¬ keyLt x e)
theorem take_snoc {l : List Edg} {k : Nat} {x : Edg} (h : l[k]? = some x) : l.take (k + 1) = l.take k ++ [x] := by
  rw [List.take_add_one, h]; rfl
theorem sorted_before {l : List Edg} (hs : sortedE l) {k : Nat} {x : Edg} (h : l[k]? = some x) : ∀ y ∈ l.take k, keyLt y x := by
  intro y hy
  obtain ⟨j, hj, rfl⟩ := List.mem_iff_getElem.1 hy
  rw [List.length_take] at hj
  obtain ⟨hk, rfl⟩ := List.getElem?_eq_some_iff.1 h
  rw [List.getElem_take]
  exact List.pairwise_iff_getElem.1 hs j k (by omega) hk (by omega)
theorem stepA {l : List Edg} {e x : Edg} {k : Nat} {d : Bool} (hs : sortedE l) (hx : l[k]? = some x) (h : StepOk l e k d) (he : keyEq x e) :
    stepO l e (k + 1) true = stepO l e k d ++ [⟨x.u, x.v, x.w + e.w⟩] ∧ StepOk l e (k + 1) true := by
  have hk := (List.getElem?_eq_some_iff.1 hx).1
  have hd : d = false := by
    cases d with
    | false => rfl
    | true =>
      obtain ⟨y, hy, hn⟩ := h.2.2 rfl
      have := sorted_before hs hx y hy
      exact absurd (by unfold keyLt keyEq at *; omega) hn
  subst hd
  refine ⟨?_, by omega, fun h => (by cases h), fun _ => ⟨x, by rw [take_snoc hx]; simp, by unfold keyLt keyEq at *; omega⟩⟩
  show addE (l.take (k + 1)) e = l.take k ++ [_]
  rw [take_snoc hx, addE_lt _ (h.2.1 rfl), addE, if_pos he]
theorem stepB {l : List Edg} {e x : Edg} {k : Nat} (hx : l[k]? = some x) (h : StepOk l e k false) (hn : ¬ keyEq x e) (he : keyLt e x) :
    stepO l e (k + 1) true = stepO l e k false ++ [e] ++ [x] ∧ StepOk l e (k + 1) true := by
  have hk := (List.getElem?_eq_some_iff.1 hx).1
  refine ⟨?_, by omega, fun h => (by cases h), fun _ => ⟨x, by rw [take_snoc hx]; simp, by unfold keyLt keyEq at *; omega⟩⟩
  show addE (l.take (k + 1)) e = l.take k ++ [e] ++ [x]
  rw [take_snoc hx, addE_lt _ (h.2.1 rfl), addE, if_neg hn, if_pos he]; simp
theorem stepC {l : List Edg} {e x : Edg} {k : Nat} {d : Bool} (hx : l[k]? = some x) (h : StepOk l e k d) (hn : ¬ keyEq x e) (he : d = true ∨ ¬ keyLt e x) :
    stepO l e (k + 1) d = stepO l e k d ++ [x] ∧ StepOk l e (k + 1) d := by
  have hk := (List.getElem?_eq_some_iff.1 hx).1
  cases d with
  | false =>
    have he' : ¬ keyLt e x := he.resolve_left (by simp)
    refine ⟨take_snoc hx, by omega, fun _ y hy => ?_, fun h => (by cases h)⟩
    rw [take_snoc hx] at hy
    rcases List.mem_append.1 hy with hy | hy
    · exact h.2.1 rfl y hy
    · simp at hy; subst hy; exact keyLt_of_not he' hn
  | true =>
    obtain ⟨y, hy, hyn⟩ := h.2.2 rfl
    refine ⟨?_, by omega, fun h => (by cases h), fun _ => ⟨y, by rw [take_snoc hx]; simp [hy], hyn⟩⟩
    show addE (l.take (k + 1)) e = addE (l.take k) e ++ [x]
    rw [take_snoc hx, addE_done _ ⟨y, hy, hyn⟩]
theorem stepEnd {l : List Edg} {e : Edg} {d : Bool} (h : StepOk l e l.length d) : addE l e = if d then stepO l e l.length d else stepO l e l.length d ++ [e] := by
  cases d with
  | true => simp [stepO]
  | false =>
    have := addE_lt (p := l) [] (by simpa using h.2.1 rfl)
    simp [stepO] at this ⊢
    rw [this]; rfl
theorem addE_length (l : List Edg) (e : Edg) : (addE l e).length ≤ l.length + 1 := by
  induction l with
  | nil => simp [addE]
  | cons x l ih =>
    rw [addE]
    split
    · simp
    · split
      · simp
      · simp; omega
theorem stepO_length (l : List Edg) (e : Edg) (k : Nat) (d : Bool) : (stepO l e k d).length ≤ l.length + 1 := by
  unfold stepO
  split
  · have := addE_length (l.take k) e; simp at this; omega
  · simp; omega
theorem totalW_cons (x : Edg) (l : List Edg) : totalW (x :: l) = x.w + totalW l := by simp [totalW]
theorem addE_total (l : List Edg) (e : Edg) : totalW (addE l e) = totalW l + e.w := by
  induction l with
  | nil => simp [addE, totalW]
  | cons x l ih =>
    rw [addE]
    split
    · simp only [totalW_cons]; omega
    · split
      · simp only [totalW_cons]; omega
      · simp only [totalW_cons, ih]; omega
def nonneg (l : List Edg) : Prop := ∀ x ∈ l, 0 ≤ x.w
theorem addE_nonneg {l : List Edg} {e : Edg} (h : nonneg l) (he : 0 ≤ e.w) : nonneg (addE l e) := by
  induction l with
  | nil => intro x hx; simp [addE] at hx; subst hx; exact he
  | cons y l ih =>
    have hy := h y (by simp)
    have hl : nonneg l := fun z hz => h z (by simp [hz])
    rw [addE]
    split
    · intro x hx
      rcases List.mem_cons.1 hx with rfl | hx
      · show 0 ≤ y.w + e.w; omega
      · exact hl x hx
    · split
      · intro x hx
        rcases List.mem_cons.1 hx with rfl | hx
        · exact he
        · exact h x hx
      · intro x hx
        rcases List.mem_cons.1 hx with rfl | hx
        · exact hy
        · exact ih hl x hx
theorem addE_mem {l : List Edg} {e : Edg} : ∀ x ∈ addE l e, (∃ y ∈ l, keyEq y x) ∨ keyEq e x := by
  induction l with
  | nil => intro x hx; simp [addE] at hx; subst hx; exact .inr ⟨rfl, rfl⟩
  | cons y l ih =>
    intro x hx
    rw [addE] at hx
    split at hx
    · rcases List.mem_cons.1 hx with rfl | hx
      · exact .inl ⟨y, by simp, rfl, rfl⟩
      · exact .inl ⟨x, by simp [hx], rfl, rfl⟩
    · split at hx
      · rcases List.mem_cons.1 hx with rfl | hx
        · exact .inr ⟨rfl, rfl⟩
        · exact .inl ⟨x, hx, rfl, rfl⟩
      · rcases List.mem_cons.1 hx with rfl | hx
        · exact .inl ⟨x, by simp, rfl, rfl⟩
        · rcases ih x hx with ⟨z, hz, h⟩ | h
          · exact .inl ⟨z, by simp [hz], h⟩
          · exact .inr h
theorem keyLt_eq_left {a b c : Edg} (h : keyEq a b) (k : keyLt a c) : keyLt b c := by unfold keyLt keyEq at *; omega
theorem keyLt_eq_right {a b c : Edg} (h : keyEq b c) (k : keyLt a b) : keyLt a c := by unfold keyLt keyEq at *; omega
theorem addE_sorted {l : List Edg} {e : Edg} (h : sortedE l) : sortedE (addE l e) := by
  induction l with
  | nil => exact List.pairwise_singleton _ _
  | cons y l ih =>
    have h1 := (List.pairwise_cons.1 h).1
    have h2 := (List.pairwise_cons.1 h).2
    rw [addE]
    split
    · rename_i hk
      exact List.pairwise_cons.2 ⟨fun z hz => keyLt_eq_left (a := y) ⟨rfl, rfl⟩ (h1 z hz), h2⟩
    · rename_i hk
      split
      · rename_i hl
        exact List.pairwise_cons.2 ⟨fun z hz => by
          rcases List.mem_cons.1 hz with rfl | hz
          · exact hl
          · exact keyLt_trans hl (h1 z hz), h⟩
      · rename_i hl
        refine List.pairwise_cons.2 ⟨fun z hz => ?_, ih h2⟩
        rcases addE_mem z hz with ⟨x, hx, hk'⟩ | hk'
        · exact keyLt_eq_right hk' (h1 x hx)
        · exact keyLt_eq_right hk' (keyLt_of_not hl hk)
theorem le_total {l : List Edg} (h : nonneg l) {x : Edg} (hx : x ∈ l) : x.w ≤ totalW l := by
  induction l with
  | nil => simp at hx
  | cons y l ih =>
    have hy := h y (by simp)
    have hl : nonneg l := fun z hz => h z (by simp [hz])
    have h0 : 0 ≤ totalW l := by
      clear ih hx h
      induction l with
      | nil => simp [totalW]
      | cons z l ih => rw [totalW_cons]; have := hl z (by simp); have := ih (fun q hq => hl q (by simp [hq])); omega
    rw [totalW_cons]
    rcases List.mem_cons.1 hx with rfl | hx
    · omega
    · have := ih hl hx; omega
theorem total_nonneg {l : List Edg} (h : nonneg l) : 0 ≤ totalW l := by
  induction l with
  | nil => simp [totalW]
  | cons z l ih => rw [totalW_cons]; have := h z (by simp); have := ih (fun q hq => h q (by simp [hq])); omega

theorem sumAll_snoc (l : List Edg) (x : Edg) : sumAll (l ++ [x]) = if x.u ≠ x.v then addE (sumAll l) (normE x) else sumAll l := by
  simp [sumAll, List.foldl_append]
theorem normE_w (x : Edg) : (normE x).w = x.w := by unfold normE; split <;> rfl
theorem totalW_append (l m : List Edg) : totalW (l ++ m) = totalW l + totalW m := by
  induction l with
  | nil => simp [totalW]
  | cons x l ih => rw [List.cons_append, totalW_cons, totalW_cons, ih]; omega
theorem sumAll_ok : ∀ (l : List Edg), sortedE (sumAll l) ∧ (sumAll l).length ≤ l.length ∧ (nonneg l → nonneg (sumAll l) ∧ totalW (sumAll l) ≤ totalW l) := by
  intro l
  have key : ∀ (n : Nat) (l : List Edg), l.length = n → sortedE (sumAll l) ∧ (sumAll l).length ≤ l.length ∧ (nonneg l → nonneg (sumAll l) ∧ totalW (sumAll l) ≤ totalW l) := by
    intro n
    induction n with
    | zero =>
      intro l hl
      obtain rfl : l = [] := List.eq_nil_of_length_eq_zero hl
      exact ⟨List.Pairwise.nil, Nat.le_refl _, fun _ => ⟨fun x hx => by simp [sumAll] at hx, by simp [sumAll]⟩⟩
    | succ n ih =>
      intro l hl
      obtain ⟨m, x, rfl⟩ : ∃ m x, l = m ++ [x] := ⟨l.dropLast, l.getLast (by intro h; subst h; simp at hl), (List.dropLast_concat_getLast _).symm⟩
      obtain ⟨h1, h2, h3⟩ := ih m (by simpa using hl)
      rw [sumAll_snoc]
      split
      · refine ⟨addE_sorted h1, ?_, fun hn => ?_⟩
        · have := addE_length (sumAll m) (normE x); simp; omega
        · have hm : nonneg m := fun z hz => hn z (by simp [hz])
          have hx := hn x (by simp)
          obtain ⟨a, b⟩ := h3 hm
          refine ⟨addE_nonneg a (by rw [normE_w]; exact hx), ?_⟩
          rw [addE_total, totalW_append, normE_w, totalW_cons]
          simp [totalW] at *; omega
      · refine ⟨h1, by simp; omega, fun hn => ?_⟩
        have hm : nonneg m := fun z hz => hn z (by simp [hz])
        have hx := hn x (by simp)
        obtain ⟨a, b⟩ := h3 hm
        refine ⟨a, ?_⟩
        rw [totalW_append, totalW_cons]
        simp [totalW] at *; omega
  exact key l.length l rfl
theorem total_take {l : List Edg} (h : nonneg l) (k : Nat) : totalW (l.take k) ≤ totalW l := by
  have h2 : nonneg (l.drop k) := fun z hz => h z (List.mem_of_mem_drop hz)
  have := total_nonneg h2
  have e : totalW l = totalW (l.take k) + totalW (l.drop k) := by rw [← totalW_append, List.take_append_drop]
  omega
theorem nonneg_take {l : List Edg} (h : nonneg l) (k : Nat) : nonneg (l.take k) := fun z hz => h z (List.mem_of_mem_take hz)
theorem filter_snoc {l : List Edg} {k : Nat} {x : Edg} (h : l[k]? = some x) (p : Edg → Bool) : (l.take (k + 1)).filter p = (l.take k).filter p ++ (if p x then [x] else []) := by
  rw [take_snoc h, List.filter_append]
  congr 1
  simp [List.filter_cons]

/-! The program's own merging. -/
def updE (l : List Edg) (e : Edg) : List Edg := if ∃ x ∈ l, keyEq x e then l.map (fun x => if keyEq x e then ⟨x.u, x.v, x.w + e.w⟩ else x) else l ++ [e]
def sumP (l : List Edg) : List Edg := l.foldl (fun acc e => if e.u ≠ e.v then updE acc (normE e) else acc) []
def distE (l : List Edg) : Prop := l.Pairwise (fun a b => ¬ keyEq a b)
theorem keyEq.symm {a b : Edg} (h : keyEq a b) : keyEq b a := ⟨h.1.symm, h.2.symm⟩
theorem sorted_dist {l : List Edg} (h : sortedE l) : distE l := h.imp (fun {a b} hab hk => by unfold keyLt keyEq at *; omega)
theorem updE_perm {l m : List Edg} (h : l.Perm m) (e : Edg) : (updE l e).Perm (updE m e) := by
  unfold updE
  have hiff : (∃ x ∈ l, keyEq x e) ↔ (∃ x ∈ m, keyEq x e) := ⟨fun ⟨x, hx, hk⟩ => ⟨x, h.mem_iff.1 hx, hk⟩, fun ⟨x, hx, hk⟩ => ⟨x, h.mem_iff.2 hx, hk⟩⟩
  by_cases hc : ∃ x ∈ l, keyEq x e
  · rw [if_pos hc, if_pos (hiff.1 hc)]; exact h.map _
  · rw [if_neg hc, if_neg (fun q => hc (hiff.2 q))]; exact h.append_right _
theorem addE_perm : ∀ {l : List Edg} (e : Edg), sortedE l → (addE l e).Perm (updE l e)
  | [], e, _ => by rw [addE, updE, if_neg (by simp)]; exact List.Perm.refl _
  | x :: l, e, h => by
    have h1 := (List.pairwise_cons.1 h).1
    have h2 := (List.pairwise_cons.1 h).2
    rw [addE]
    by_cases hk : keyEq x e
    · rw [if_pos hk, updE, if_pos ⟨x, by simp, hk⟩, List.map_cons, if_pos hk]
      have : l.map (fun x => if keyEq x e then (⟨x.u, x.v, x.w + e.w⟩ : Edg) else x) = l := by
        refine (List.map_congr_left (fun y hy => ?_)).trans (List.map_id _)
        have := h1 y hy
        exact if_neg (fun hq => by unfold keyLt keyEq at *; omega)
      rw [this]
    · rw [if_neg hk]
      by_cases hl : keyLt e x
      · rw [if_pos hl, updE, if_neg (fun ⟨y, hy, hq⟩ => by
          rcases List.mem_cons.1 hy with rfl | hy
          · exact hk hq
          · have := h1 y hy; unfold keyLt keyEq at *; omega)]
        exact (List.perm_append_singleton e (x :: l)).symm
      · rw [if_neg hl]
        have ih := (addE_perm e h2).cons x
        refine ih.trans ?_
        rw [updE, updE]
        by_cases hc : ∃ y ∈ l, keyEq y e
        · rw [if_pos hc, if_pos (by obtain ⟨y, hy, hq⟩ := hc; exact ⟨y, by simp [hy], hq⟩), List.map_cons, if_neg hk]
        · rw [if_neg hc, if_neg (fun ⟨y, hy, hq⟩ => by
            rcases List.mem_cons.1 hy with rfl | hy
            · exact hk hq
            · exact hc ⟨y, hy, hq⟩)]
          exact List.Perm.refl _
theorem sumP_snoc (l : List Edg) (x : Edg) : sumP (l ++ [x]) = if x.u ≠ x.v then updE (sumP l) (normE x) else sumP l := by
  simp [sumP, List.foldl_append]
theorem sumP_perm (l : List Edg) : (sumP l).Perm (sumAll l) := by
  have key : ∀ (n : Nat) (l : List Edg), l.length = n → (sumP l).Perm (sumAll l) := by
    intro n
    induction n with
    | zero => intro l hl; obtain rfl : l = [] := List.eq_nil_of_length_eq_zero hl; exact List.Perm.refl _
    | succ n ih =>
      intro l hl
      obtain ⟨m, x, rfl⟩ : ∃ m x, l = m ++ [x] := ⟨l.dropLast, l.getLast (by intro h; subst h; simp at hl), (List.dropLast_concat_getLast _).symm⟩
      have h1 := ih m (by simpa using hl)
      rw [sumP_snoc, sumAll_snoc]
      split
      · exact (updE_perm h1 _).trans (addE_perm _ (sumAll_ok m).1).symm
      · exact h1
  exact key l.length l rfl
theorem sorted_unique : ∀ {l m : List Edg}, l.Perm m → sortedE l → sortedE m → l = m
  | [], m, h, _, _ => (List.nil_perm.1 h).symm
  | x :: l, [], h, _, _ => absurd h.length_eq (by simp)
  | x :: l, y :: m, h, hl, hm => by
    have h1 := List.pairwise_cons.1 hl
    have h2 := List.pairwise_cons.1 hm
    have hxy : x = y := by
      rcases List.mem_cons.1 (h.mem_iff.1 (List.mem_cons_self : x ∈ x :: l)) with hx | hx
      · exact hx
      · rcases List.mem_cons.1 (h.mem_iff.2 (List.mem_cons_self : y ∈ y :: m)) with hy | hy
        · exact hy.symm
        · have := h1.1 y hy; have := h2.1 x hx; unfold keyLt at *; omega
    subst hxy
    rw [sorted_unique (List.Perm.cons_inv h) h1.2 h2.2]
theorem distE_perm {l m : List Edg} (h : l.Perm m) (hd : distE l) : distE m := (h.pairwise_iff (fun {a b} hab hk => hab hk.symm)).1 hd
theorem sumP_dist (l : List Edg) : distE (sumP l) := distE_perm (sumP_perm l).symm (sorted_dist (sumAll_ok l).1)
/-- The order of the program's own sorting. -/
def cmpE (a b : Edg) : Int := orOf [cmpI a.u b.u, cmpI a.v b.v, cmpI a.w b.w]
theorem cmpE_lt (a b : Edg) : cmpE a b < 0 ↔ keyLt a b ∨ (keyEq a b ∧ a.w < b.w) := by
  unfold cmpE cmpI keyLt keyEq
  rcases Int.lt_trichotomy a.u b.u with h1 | h1 | h1 <;> rcases Int.lt_trichotomy a.v b.v with h2 | h2 | h2 <;> rcases Int.lt_trichotomy a.w b.w with h3 | h3 | h3 <;>
    simp [orOf, h1, h2, h3, Int.lt_asymm, Int.lt_irrefl] <;> omega
theorem sorted_of_perm {l m : List Edg} (hp : m.Perm (l.filter (fun e => e.w ≠ 0))) (hd : distE l) (hs : m.Pairwise (fun a b => ¬ cmpE b a < 0)) : sortedE m := by
  have hdm : distE m := distE_perm hp.symm (hd.filter _)
  exact List.Pairwise.imp₂ (fun a b h1 h2 => by rw [cmpE_lt] at h1; unfold keyLt keyEq at *; omega) hs hdm
theorem merge_of_perm {l m : List Edg} (hp : m.Perm ((sumP l).filter (fun e => e.w ≠ 0))) (hs : m.Pairwise (fun a b => ¬ cmpE b a < 0)) : m = mergeL l :=
  sorted_unique (hp.trans ((sumP_perm l).filter _)) (sorted_of_perm hp (sumP_dist l) hs) ((sumAll_ok l).1.filter _)
/-! Whether a graph may be. -/
def NewE (n : Int) (l : List Edg) (c : Int) (i : Nat) : Prop :=
  (n < 0 ∧ c = 1 ∧ i = 0) ∨ (0 ≤ n ∧ (4096 < n ∨ 1048576 < l.length) ∧ c = 3 ∧ i = 0) ∨ (0 ≤ n ∧ n ≤ 4096 ∧ l.length ≤ 1048576 ∧ Chks n l c i)
theorem chks_total (n : Int) (l : List Edg) : ∃ c i, Chks n l c i := by
  by_cases h : ∀ e ∈ l, chkE n e = 0
  · exact ⟨0, 0, .inl ⟨rfl, rfl, h⟩⟩
  · have : ∃ k : Nat, ∃ e, l[k]? = some e ∧ chkE n e ≠ 0 := by
      refine Classical.byContradiction fun hn => h fun e he => Classical.byContradiction fun hc => hn ?_
      obtain ⟨j, hj, rfl⟩ := List.mem_iff_getElem.1 he
      exact ⟨j, _, List.getElem?_eq_getElem hj, hc⟩
    have key : ∀ m k : Nat, k ≤ m → (∃ e, l[k]? = some e ∧ chkE n e ≠ 0) → ∃ k : Nat, (∃ e, l[k]? = some e ∧ chkE n e ≠ 0) ∧ ∀ j, j < k → ∀ e', l[j]? = some e' → chkE n e' = 0 := by
      intro m
      induction m with
      | zero => intro k hk h; exact ⟨k, h, fun j hj => by omega⟩
      | succ m ih =>
        intro k hk h
        by_cases hm : ∃ j, j < k ∧ ∃ e, l[j]? = some e ∧ chkE n e ≠ 0
        · obtain ⟨j, hj, h'⟩ := hm; exact ih j (by omega) h'
        · exact ⟨k, h, fun j hj e' he' => Classical.byContradiction fun hc => hm ⟨j, hj, e', he', hc⟩⟩
    obtain ⟨k, hk⟩ := this
    obtain ⟨k', ⟨e, he, hc⟩, hall⟩ := key k k (Nat.le_refl _) hk
    exact ⟨chkE n e, k', .inr ⟨hc, e, he, rfl, hall⟩⟩
theorem chks_unique {n : Int} {l : List Edg} {c c' : Int} {i i' : Nat} (h : Chks n l c i) (h' : Chks n l c' i') : c = c' ∧ i = i' := by
  rcases h with ⟨rfl, rfl, h⟩ | ⟨h1, e, h2, h3, h4⟩
  · rcases h' with ⟨rfl, rfl, _⟩ | ⟨h1', e', h2', h3', _⟩
    · exact ⟨rfl, rfl⟩
    · exact absurd (h e' (List.mem_of_getElem? h2')) (by rw [h3']; exact h1')
  · rcases h' with ⟨rfl, rfl, h'⟩ | ⟨h1', e', h2', h3', h4'⟩
    · exact absurd (h' e (List.mem_of_getElem? h2)) (by rw [h3]; exact h1)
    · rcases Nat.lt_trichotomy i i' with hlt | rfl | hlt
      · exact absurd (h4' i hlt e h2) (by rw [h3]; exact h1)
      · rw [h2] at h2'; cases h2'; exact ⟨h3.symm.trans h3', rfl⟩
      · exact absurd (h4 i' hlt e' h2') (by rw [h3']; exact h1')
theorem newE_total (n : Int) (l : List Edg) : ∃ c i, NewE n l c i := by
  by_cases h0 : n < 0
  · exact ⟨1, 0, .inl ⟨h0, rfl, rfl⟩⟩
  · by_cases h1 : 4096 < n ∨ 1048576 < l.length
    · exact ⟨3, 0, .inr (.inl ⟨by omega, h1, rfl, rfl⟩)⟩
    · obtain ⟨c, i, h⟩ := chks_total n l
      exact ⟨c, i, .inr (.inr ⟨by omega, by omega, by omega, h⟩)⟩
/-- The graph may be. -/
structure NewOk (n : Int) (l : List Edg) : Prop where
  h0 : 0 ≤ n
  hn : n ≤ 4096
  hl : l.length ≤ 1048576
  hc : Chks n l 0 0
theorem newE_ok {n : Int} {l : List Edg} {i : Nat} (h : NewE n l 0 i) : NewOk n l ∧ i = 0 := by
  rcases h with ⟨_, h, _⟩ | ⟨_, _, h, _⟩ | ⟨h0, hn, hl, hc⟩
  · omega
  · omega
  · rcases hc with ⟨_, rfl, h⟩ | ⟨h, _⟩
    · exact ⟨⟨h0, hn, hl, .inl ⟨rfl, rfl, h⟩⟩, rfl⟩
    · exact absurd rfl h
theorem NewOk.all {n : Int} {l : List Edg} (h : NewOk n l) : ∀ e ∈ l, chkE n e = 0 := by
  rcases h.hc with ⟨_, _, h⟩ | ⟨h, _⟩
  · exact h
  · exact absurd rfl h
theorem chkE_zero {n : Int} {e : Edg} (h : chkE n e = 0) : 0 ≤ e.u ∧ e.u < n ∧ 0 ≤ e.v ∧ e.v < n ∧ 0 ≤ e.w ∧ e.w ≤ 2147483648 := by
  unfold chkE at h
  split at h
  · omega
  · split at h
    · omega
    · omega
theorem NewOk.nonneg {n : Int} {l : List Edg} (h : NewOk n l) : nonneg l := fun e he => (chkE_zero (h.all e he)).2.2.2.2.1
theorem total_le {l : List Edg} {B : Int} (h : ∀ e ∈ l, e.w ≤ B) : totalW l ≤ l.length * B := by
  induction l with
  | nil => simp [totalW]
  | cons x l ih =>
    have h1 := h x (by simp)
    have h2 := ih (fun e he => h e (by simp [he]))
    rw [totalW_cons, List.length_cons]
    have : ((l.length + 1 : Nat) : Int) * B = l.length * B + B := by rw [Int.natCast_add, Int.add_mul]; omega
    omega
theorem NewOk.total {n : Int} {l : List Edg} (h : NewOk n l) : totalW l ≤ 2251799813685248 := by
  have h1 := total_le (l := l) (B := 2147483648) (fun e he => (chkE_zero (h.all e he)).2.2.2.2.2)
  have := h.hl
  omega
theorem mergeL_length (l : List Edg) : (mergeL l).length ≤ l.length := Nat.le_trans (List.length_filter_le _ _) (sumAll_ok l).2.1
end Go.Proofs.YtipoblpnkkcpgaaGreat
