/-
  Plain laws of the arcs: how a program's buckets by tail, each sorted by head, come to what the document says.
-/
import Derived.Test.YtipoblpnkkcpgaaGreatRefCsr
set_option linter.unusedVariables false
set_option linter.unusedSimpArgs false
namespace Go.Proofs.YtipoblpnkkcpgaaGreat
open Go Go.RowKit Go.Proofs.YtipoblpnkkcpgaaGreat.B

structure ArcsOk (n : Nat) (L : List Edg) : Prop where
  rng : ∀ e ∈ L, 0 ≤ e.u ∧ e.u < e.v ∧ e.v < n
  srt : sortedE L
  wts : ∀ e ∈ L, 0 ≤ e.w ∧ e.w ≤ 2251799813685248
  hn : n ≤ 4096
  hl : L.length ≤ 1048576

theorem sumAll_lt (l : List Edg) : ∀ e ∈ sumAll l, e.u < e.v := by
  have key : ∀ (n : Nat) (l : List Edg), l.length = n → ∀ e ∈ sumAll l, e.u < e.v := by
    intro n
    induction n with
    | zero => intro l hl e he; obtain rfl : l = [] := List.eq_nil_of_length_eq_zero hl; simp [sumAll] at he
    | succ n ih =>
      intro l hl e he
      obtain ⟨m, x, rfl⟩ : ∃ m x, l = m ++ [x] := ⟨l.dropLast, l.getLast (by intro h; subst h; simp at hl), (List.dropLast_concat_getLast _).symm⟩
      have ih' := ih m (by simpa using hl)
      rw [sumAll_snoc] at he
      split at he
      · rename_i hne
        rcases addE_mem e he with ⟨y, hy, hk⟩ | hk
        · have := ih' y hy
          unfold keyEq at hk; omega
        · unfold keyEq normE at hk
          split at hk <;> (try dsimp only at hk) <;> omega
      · exact ih' e he
  exact key l.length l rfl
theorem NewOk.arcs {n : Int} {l : List Edg} (h : NewOk n l) : ArcsOk n.toNat (mergeL l) := by
  have hm := h.merged
  have h0 := h.h0; have hn := h.hn; have hl := h.hl; have hml := mergeL_length l
  refine ⟨fun e he => ?_, (sumAll_ok l).1.filter _, fun e he => (hm e he).2.2, by omega, by omega⟩
  have h1 := hm e he
  have h2 := sumAll_lt l e (List.mem_filter.1 he).1
  omega

/-! ### Counting -/
theorem countP_lt_succ (ts : List Nat) (v : Nat) : ts.countP (fun t => decide (t < v + 1)) = ts.countP (fun t => decide (t < v)) + ts.countP (fun t => decide (t = v)) := by
  induction ts with
  | nil => rfl
  | cons t ts ih =>
    simp only [List.countP_cons, ih]
    by_cases h1 : t < v
    · have h2 : t < v + 1 := by omega
      have h3 : ¬ t = v := by omega
      simp [h1, h2, h3]; omega
    · by_cases h3 : t = v
      · subst h3; simp; omega
      · have h2 : ¬ t < v + 1 := by omega
        simp [h1, h2, h3]
def preC (ts : List Nat) (v : Nat) : Nat := ts.countP (fun t => decide (t < v))
def eqC (ts : List Nat) (v : Nat) : Nat := ts.countP (fun t => decide (t = v))
theorem preC_succ (ts : List Nat) (v : Nat) : preC ts (v + 1) = preC ts v + eqC ts v := countP_lt_succ ts v
theorem preC_zero (ts : List Nat) : preC ts 0 = 0 := by simp [preC]
theorem preC_le (ts : List Nat) (v : Nat) : preC ts v ≤ ts.length := List.countP_le_length
theorem preC_mono (ts : List Nat) {u v : Nat} (h : u ≤ v) : preC ts u ≤ preC ts v := by
  induction h with
  | refl => exact Nat.le_refl _
  | step _ ih => rw [preC_succ]; omega
theorem take_snocN {α : Type} {l : List α} {k : Nat} {x : α} (h : l[k]? = some x) : l.take (k + 1) = l.take k ++ [x] := by
  rw [List.take_add_one, h]; rfl
theorem eqC_take {ts : List Nat} {i t : Nat} (h : ts[i]? = some t) (v : Nat) : eqC (ts.take (i + 1)) v = eqC (ts.take i) v + if t = v then 1 else 0 := by
  rw [take_snocN h]; unfold eqC; rw [List.countP_append]; simp
theorem eqC_take_le (ts : List Nat) (i v : Nat) : eqC (ts.take i) v ≤ eqC ts v := (List.take_sublist i ts).countP_le
def posC (ts : List Nat) (i : Nat) : Nat := preC ts (ts.getD i 0) + eqC (ts.take i) (ts.getD i 0)
theorem getD_of {α : Type} {l : List α} {i : Nat} {x d : α} (h : l[i]? = some x) : l.getD i d = x := by rw [List.getD_eq_getElem?_getD, h]; rfl
theorem eqC_take_lt {ts : List Nat} {i t : Nat} (h : ts[i]? = some t) : eqC (ts.take i) t < eqC ts t := by
  have h1 := eqC_take h t
  have h2 := eqC_take_le ts (i + 1) t
  simp at h1; omega
theorem posC_rng {ts : List Nat} {i t : Nat} (h : ts[i]? = some t) : preC ts t ≤ posC ts i ∧ posC ts i < preC ts (t + 1) := by
  unfold posC
  rw [getD_of h, preC_succ]
  have := eqC_take_lt h
  omega
theorem posC_lt {ts : List Nat} {i t : Nat} (h : ts[i]? = some t) : posC ts i < ts.length := by
  have h1 := posC_rng h
  have h2 := preC_le ts (t + 1)
  omega
theorem eqC_take_mono (ts : List Nat) (v : Nat) {i j : Nat} (h : i ≤ j) : eqC (ts.take i) v ≤ eqC (ts.take j) v := by
  have : (ts.take j).take i = ts.take i := by rw [List.take_take, Nat.min_eq_left h]
  rw [← this]; exact (List.take_sublist i _).countP_le
theorem posC_ne {ts : List Nat} {i j : Nat} (hij : i < j) (hj : j < ts.length) : posC ts i ≠ posC ts j := by
  obtain ⟨t, ht⟩ : ∃ t, ts[i]? = some t := ⟨_, List.getElem?_eq_getElem (by omega)⟩
  obtain ⟨s, hs⟩ : ∃ t, ts[j]? = some t := ⟨_, List.getElem?_eq_getElem hj⟩
  have a := posC_rng ht
  have b := posC_rng hs
  rcases Nat.lt_trichotomy t s with h | h | h
  · have := preC_mono ts (show t + 1 ≤ s by omega); omega
  · subst h
    unfold posC
    rw [getD_of ht, getD_of hs]
    have h1 := eqC_take ht t
    have h2 := eqC_take_mono ts t (show i + 1 ≤ j by omega)
    simp at h1; omega
  · have := preC_mono ts (show s + 1 ≤ t by omega); omega

/-! ### The tables -/
theorem map_range_get {α : Type} (f : Nat → α) (n k : Nat) : ((List.range n).map f)[k]? = if k < n then some (f k) else none := by
  rw [List.getElem?_map]
  by_cases h : k < n
  · rw [List.getElem?_range h, if_pos h]; rfl
  · rw [List.getElem?_eq_none (by simpa using h), if_neg h]; rfl
theorem map_range_set {α : Type} (f g : Nat → α) (n k : Nat) (y : α) (h : ∀ j, j < n → j ≠ k → f j = g j) (hk : k < n → g k = y) : ((List.range n).map f).set k y = (List.range n).map g := by
  apply List.ext_getElem?
  intro j
  rw [List.getElem?_set, map_range_get, map_range_get]
  by_cases hj : k = j
  · subst hj
    rw [if_pos rfl, List.length_map, List.length_range]
    by_cases hn : k < n
    · rw [if_pos hn, if_pos hn, hk hn]
    · rw [if_neg hn, if_neg hn]
  · rw [if_neg hj]
    by_cases hn : j < n
    · rw [if_pos hn, if_pos hn, h j hn (fun e => hj e.symm)]
    · rw [if_neg hn, if_neg hn]
def cntL (n : Nat) (ts : List Nat) : List Nat := (List.range (n + 1)).map fun j => if j = 0 then 0 else eqC ts (j - 1)
def preL (n : Nat) (ts : List Nat) (v : Nat) : List Nat := (List.range (n + 1)).map fun j => if j ≤ v then preC ts j else eqC ts (j - 1)
def frL (n : Nat) (ts : List Nat) : List Nat := (List.range (n + 1)).map (preC ts)
def nxtL (n : Nat) (ts : List Nat) (i : Nat) : List Nat := (List.range (n + 1)).map fun j => preC ts j + eqC (ts.take i) j
theorem cntL_length (n : Nat) (ts : List Nat) : (cntL n ts).length = n + 1 := by simp [cntL]
theorem preL_length (n : Nat) (ts : List Nat) (v : Nat) : (preL n ts v).length = n + 1 := by simp [preL]
theorem frL_length (n : Nat) (ts : List Nat) : (frL n ts).length = n + 1 := by simp [frL]
theorem nxtL_length (n : Nat) (ts : List Nat) (i : Nat) : (nxtL n ts i).length = n + 1 := by simp [nxtL]
theorem cntL_nil (n : Nat) : cntL n [] = List.replicate (n + 1) 0 := by
  apply List.ext_getElem?
  intro j
  unfold cntL
  rw [map_range_get, List.getElem?_replicate]
  simp [eqC]
theorem cntL_succ {n : Nat} {ts : List Nat} {i t : Nat} (h : ts[i]? = some t) : cntL n (ts.take (i + 1)) = (cntL n (ts.take i)).set (t + 1) ((cntL n (ts.take i)).getD (t + 1) 0 + 1) := by
  symm
  unfold cntL
  refine map_range_set _ _ _ _ _ (fun j hj hne => ?_) (fun hk => ?_)
  · by_cases h0 : j = 0
    · simp [h0]
    · rw [if_neg h0, if_neg h0, eqC_take h, if_neg (by omega)]; rfl
  · rw [if_neg (by omega), eqC_take h, if_pos (by omega), getD_of (x := eqC (ts.take i) t) (by rw [map_range_get, if_pos hk, if_neg (by omega)]; rfl)]; rfl
theorem preL_zero (n : Nat) (ts : List Nat) : preL n ts 0 = cntL n ts := by
  unfold preL cntL
  apply List.map_congr_left
  intro j _
  by_cases h : j = 0
  · subst h; simp [preC_zero]
  · rw [if_neg (by omega), if_neg h]
theorem preL_succ {n : Nat} {ts : List Nat} {v : Nat} (h : v < n) : preL n ts (v + 1) = (preL n ts v).set (v + 1) ((preL n ts v).getD (v + 1) 0 + (preL n ts v).getD v 0) := by
  symm
  have e1 : (preL n ts v).getD (v + 1) 0 = eqC ts v := getD_of (by unfold preL; rw [map_range_get, if_pos (by omega), if_neg (by omega)]; rfl)
  have e2 : (preL n ts v).getD v 0 = preC ts v := getD_of (by unfold preL; rw [map_range_get, if_pos (by omega), if_pos (by omega)])
  rw [e1, e2]
  unfold preL
  refine map_range_set _ _ _ _ _ (fun j hj hne => ?_) (fun hk => ?_)
  · by_cases h0 : j ≤ v
    · rw [if_pos h0, if_pos (by omega)]
    · rw [if_neg h0, if_neg (by omega)]
  · rw [if_pos (by omega), preC_succ]; omega
theorem preL_all (n : Nat) (ts : List Nat) : preL n ts n = frL n ts := by
  unfold preL frL
  apply List.map_congr_left
  intro j hj
  have := List.mem_range.1 hj
  rw [if_pos (by omega)]
theorem frL_get {n v : Nat} (ts : List Nat) (h : v ≤ n) : (frL n ts).getD v 0 = preC ts v := getD_of (by unfold frL; rw [map_range_get, if_pos (by omega)])
theorem nxtL_zero (n : Nat) (ts : List Nat) : nxtL n ts 0 = frL n ts := by
  unfold nxtL frL
  apply List.map_congr_left
  intro j _
  simp [eqC]
theorem nxtL_get {n : Nat} {ts : List Nat} {i t : Nat} (h : ts[i]? = some t) (ht : t ≤ n) : (nxtL n ts i).getD t 0 = posC ts i := by
  unfold posC
  rw [getD_of h]
  exact getD_of (by unfold nxtL; rw [map_range_get, if_pos (by omega)])
theorem nxtL_succ {n : Nat} {ts : List Nat} {i t : Nat} (h : ts[i]? = some t) : nxtL n ts (i + 1) = (nxtL n ts i).set t ((nxtL n ts i).getD t 0 + 1) := by
  symm
  unfold nxtL
  refine map_range_set _ _ _ _ _ (fun j hj hne => ?_) (fun hk => ?_)
  · rw [eqC_take h, if_neg (fun e => hne e.symm)]; rfl
  · rw [eqC_take h, if_pos rfl, getD_of (x := preC ts t + eqC (ts.take i) t) (by rw [map_range_get, if_pos hk])]; rfl
theorem nats_set (l : List Nat) (k m : Nat) : (nats l).set k (.int .i64 (m : Int)) = nats (l.set k m) := by simp [nats, List.map_set]

/-! ### The buckets -/
structure OutOk (ts : List Nat) (i : Nat) (out : List Int) : Prop where
  len : out.length = ts.length
  at_ : ∀ j, j < i → j < ts.length → out[posC ts j]? = some (j : Int)
theorem OutOk.zero (ts : List Nat) : OutOk ts 0 (List.replicate ts.length 0) := ⟨by simp, fun j h => absurd h (by omega)⟩
theorem OutOk.succ {ts : List Nat} {i t : Nat} {out : List Int} (h : OutOk ts i out) (ht : ts[i]? = some t) : OutOk ts (i + 1) (out.set (posC ts i) (i : Int)) := by
  have hi := (List.getElem?_eq_some_iff.1 ht).1
  refine ⟨by simp [h.len], fun j hj hjl => ?_⟩
  rw [List.getElem?_set]
  by_cases hij : j = i
  · subst hij; rw [if_pos rfl, if_pos (by rw [h.len]; exact posC_lt ht)]
  · rw [if_neg (fun e => posC_ne (show j < i by omega) hi e.symm)]
    exact h.at_ j (by omega) hjl
def seg (ts : List Nat) (v : Nat) (out : List Int) : List Int := (out.drop (preC ts v)).take (preC ts (v + 1) - preC ts v)
def bkt (ts : List Nat) (v : Nat) : List Int := ((List.range ts.length).filter (fun i => decide (ts[i]? = some v))).map (fun (i : Nat) => (i : Int))
theorem filter_at (p : Nat → Bool) : ∀ (N i : Nat), i < N → p i = true → ((List.range N).filter p)[(List.range i).countP p]? = some i
  | 0, i, h, _ => by omega
  | N + 1, i, h, hp => by
    rw [List.range_succ, List.filter_append]
    rcases Nat.lt_or_ge i N with h1 | h1
    · have := filter_at p N i h1 hp
      rw [List.getElem?_append_left (List.getElem?_eq_some_iff.1 this).1]; exact this
    · obtain rfl : i = N := by omega
      rw [List.countP_eq_length_filter, List.getElem?_append_right (Nat.le_refl _), Nat.sub_self]
      simp [hp]
theorem range_count (ts : List Nat) (v : Nat) : ∀ i, i ≤ ts.length → (List.range i).countP (fun i => decide (ts[i]? = some v)) = eqC (ts.take i) v
  | 0, _ => by simp [eqC]
  | i + 1, h => by
    obtain ⟨t, ht⟩ : ∃ t, ts[i]? = some t := ⟨_, List.getElem?_eq_getElem (by omega)⟩
    rw [List.range_succ, List.countP_append, range_count ts v i (by omega), eqC_take ht]
    simp [ht]
theorem bkt_length (ts : List Nat) (v : Nat) : (bkt ts v).length = eqC ts v := by
  unfold bkt
  rw [List.length_map, ← List.countP_eq_length_filter, range_count ts v _ (Nat.le_refl _), List.take_length]
theorem seg_length {ts : List Nat} {v : Nat} {out : List Int} (h : out.length = ts.length) : (seg ts v out).length = eqC ts v := by
  unfold seg
  have h1 := preC_succ ts v
  have h2 := preC_le ts (v + 1)
  simp; omega
theorem OutOk.segs {ts : List Nat} {out : List Int} (h : OutOk ts ts.length out) (v : Nat) : seg ts v out = bkt ts v := by
  have hl1 := seg_length (v := v) h.len
  have hl2 := bkt_length ts v
  apply List.ext_getElem?
  intro k
  by_cases hk : k < eqC ts v
  · have hb : (bkt ts v)[k]? = some ((bkt ts v)[k]'(by omega)) := List.getElem?_eq_getElem _
    have hmem : (bkt ts v)[k]'(by omega) ∈ bkt ts v := List.getElem_mem _
    obtain ⟨i, hi⟩ : ∃ i : Nat, ((List.range ts.length).filter (fun i => decide (ts[i]? = some v)))[k]? = some i := by
      refine ⟨_, List.getElem?_eq_getElem ?_⟩
      have : (bkt ts v).length = ((List.range ts.length).filter (fun i => decide (ts[i]? = some v))).length := by unfold bkt; simp
      omega
    have hm := List.mem_of_getElem? hi
    rw [List.mem_filter, List.mem_range, decide_eq_true_eq] at hm
    have hf := filter_at (fun i => decide (ts[i]? = some v)) ts.length i hm.1 (by simpa using hm.2)
    rw [range_count ts v i (by omega)] at hf
    have hnd : ((List.range ts.length).filter (fun i => decide (ts[i]? = some v))).Nodup := List.nodup_range.filter _
    have hkk : k = eqC (ts.take i) v := by
      have hk1 := List.getElem?_eq_some_iff.1 hi
      have hk2 := List.getElem?_eq_some_iff.1 hf
      obtain ⟨a1, a2⟩ := hk1
      obtain ⟨b1, b2⟩ := hk2
      have e := a2.trans b2.symm
      have hpw := List.pairwise_iff_getElem.1 hnd
      rcases Nat.lt_trichotomy k (eqC (ts.take i) v) with h | h | h
      · exact absurd e (hpw _ _ a1 b1 h)
      · exact h
      · exact absurd e.symm (hpw _ _ b1 a1 h)
    have ho := h.at_ i hm.1 hm.1
    unfold posC at ho
    rw [getD_of hm.2, ← hkk] at ho
    rw [show (bkt ts v)[k]? = some (i : Int) by unfold bkt; rw [List.getElem?_map, hi]; rfl]
    unfold seg
    rw [List.getElem?_take_of_lt (by rw [preC_succ]; omega), List.getElem?_drop]
    exact ho
  · rw [List.getElem?_eq_none (by omega), List.getElem?_eq_none (by omega)]
def putL (out l' : List Int) (off : Nat) : List Int := out.take off ++ l' ++ out.drop (off + l'.length)
theorem putL_enc (out l' : List Int) (off : Nat) : putAt (i64s out) (i64s l') off = i64s (putL out l' off) := by simp [putAt, putL, i64s, List.map_take, List.map_drop]
theorem putL_length {out l' : List Int} {off : Nat} (h : off + l'.length ≤ out.length) : (putL out l' off).length = out.length := by simp [putL]; omega
theorem putL_get {xs ys : List Int} {off : Nat} (h : off + ys.length ≤ xs.length) (k : Nat) : (putL xs ys off)[k]? = if off ≤ k ∧ k < off + ys.length then ys[k - off]? else xs[k]? := by
  unfold putL
  rw [List.append_assoc, List.getElem?_append]
  have hl : (xs.take off).length = off := by simp; omega
  rw [hl]
  by_cases h1 : k < off
  · rw [if_pos h1, if_neg (by omega), List.getElem?_take_of_lt h1]
  · rw [if_neg h1, List.getElem?_append]
    by_cases h2 : k - off < ys.length
    · rw [if_pos h2, if_pos (by omega)]
    · rw [if_neg h2, if_neg (by omega), List.getElem?_drop]
      congr 1; omega
theorem seg_get {ts : List Nat} {v : Nat} {out : List Int} (k : Nat) : (seg ts v out)[k]? = if k < eqC ts v then out[preC ts v + k]? else none := by
  unfold seg
  have h1 := preC_succ ts v
  by_cases hk : k < eqC ts v
  · rw [if_pos hk, List.getElem?_take_of_lt (by omega), List.getElem?_drop]
  · rw [if_neg hk, List.getElem?_take_eq_none (by omega)]
theorem seg_put {ts : List Nat} {v : Nat} {out l' : List Int} (hlen : out.length = ts.length) (hl : l'.length = eqC ts v) (u : Nat) : seg ts u (putL out l' (preC ts v)) = if u = v then l' else seg ts u out := by
  have h1 := preC_succ ts v
  have h1u := preC_succ ts u
  have h2 := preC_le ts (v + 1)
  have hfit : preC ts v + l'.length ≤ out.length := by omega
  apply List.ext_getElem?
  intro k
  rw [seg_get]
  by_cases huv : u = v
  · subst huv
    rw [if_pos rfl]
    by_cases hk : k < eqC ts u
    · rw [if_pos hk, putL_get hfit, if_pos (by omega)]; congr 1; omega
    · rw [if_neg hk, List.getElem?_eq_none (by omega)]
  · rw [if_neg huv, seg_get]
    by_cases hk : k < eqC ts u
    · rw [if_pos hk, if_pos hk, putL_get hfit, if_neg ?_]
      rcases Nat.lt_or_ge u v with h | h
      · have := preC_mono ts (show u + 1 ≤ v by omega); omega
      · have := preC_mono ts (show v + 1 ≤ u by omega); omega
    · rw [if_neg hk, if_neg hk]

/-! ### What the document says -/
def outOf (n : Nat) (L : List Edg) (v : Int) : List Int := (List.range n).flatMap fun (u : Nat) => ((List.range (2 * L.length)).filter fun (i : Nat) => decide (0 ≤ v ∧ tailOf L (i : Int) = v ∧ headOf L (i : Int) = (u : Int))).map (fun (i : Nat) => (i : Int))
def tlsOf (L : List Edg) : List Nat := L.flatMap fun e => [e.u.toNat, e.v.toNat]
theorem tlsOf_length (L : List Edg) : (tlsOf L).length = 2 * L.length := by
  induction L with
  | nil => rfl
  | cons e l ih => unfold tlsOf at *; rw [List.flatMap_cons, List.length_append, ih]; simp; omega
theorem tlsOf_get : ∀ (l : List Edg) (k : Nat) (e : Edg), l[k]? = some e → (tlsOf l)[2 * k]? = some e.u.toNat ∧ (tlsOf l)[2 * k + 1]? = some e.v.toNat
  | [], k, e, h => by simp at h
  | x :: l, 0, e, h => by simp at h; subst h; exact ⟨rfl, rfl⟩
  | x :: l, k + 1, e, h => by
    have ih := tlsOf_get l k e (by simpa using h)
    rw [show tlsOf (x :: l) = x.u.toNat :: x.v.toNat :: tlsOf l from rfl, show 2 * (k + 1) = 2 * k + 1 + 1 by omega]
    simpa using ih
/-- An arc that is there: of which edge, and which way. -/
theorem arc_cases {L : List Edg} {i : Int} (h0 : 0 ≤ i) (h1 : i < 2 * (L.length : Int)) : ∃ (k : Nat) (e : Edg), L[k]? = some e ∧ (i = 2 * k ∨ i = 2 * k + 1) := by
  refine ⟨(i / 2).toNat, _, List.getElem?_eq_getElem (by omega), by omega⟩
theorem tls_tail {n : Nat} {L : List Edg} (h : ArcsOk n L) {i : Nat} (hi : i < 2 * L.length) : ∃ t : Nat, (tlsOf L)[i]? = some t ∧ tailOf L (i : Int) = t ∧ t < n := by
  obtain ⟨k, e, he, hk⟩ := arc_cases (L := L) (i := (i : Int)) (by omega) (by omega)
  have hr := h.rng e (List.mem_of_getElem? he)
  obtain ⟨a, b⟩ := tlsOf_get L k e he
  rcases hk with hk | hk
  · obtain rfl : i = 2 * k := by omega
    exact ⟨_, a, by rw [tailOf_even he (by omega)]; omega, by omega⟩
  · obtain rfl : i = 2 * k + 1 := by omega
    exact ⟨_, b, by rw [tailOf_odd he (by omega)]; omega, by omega⟩
theorem head_rng {n : Nat} {L : List Edg} (h : ArcsOk n L) {i : Int} (h0 : 0 ≤ i) (h1 : i < 2 * (L.length : Int)) : 0 ≤ headOf L i ∧ headOf L i < n ∧ 0 ≤ tailOf L i ∧ tailOf L i < n := by
  obtain ⟨k, e, he, hk⟩ := arc_cases h0 h1
  have hr := h.rng e (List.mem_of_getElem? he)
  rcases hk with hk | hk
  · rw [headOf_even he hk, tailOf_even he hk]; omega
  · rw [headOf_odd he hk, tailOf_odd he hk]; omega
theorem arc_inj {n : Nat} {L : List Edg} (h : ArcsOk n L) {i j : Int} (h0 : 0 ≤ i) (h1 : i < 2 * (L.length : Int)) (g0 : 0 ≤ j) (g1 : j < 2 * (L.length : Int)) (ht : tailOf L i = tailOf L j) (hh : headOf L i = headOf L j) : i = j := by
  obtain ⟨k, e, he, hk⟩ := arc_cases h0 h1
  obtain ⟨m, f, hf, hm⟩ := arc_cases g0 g1
  have hr := h.rng e (List.mem_of_getElem? he)
  have hs := h.rng f (List.mem_of_getElem? hf)
  have key : keyEq e f → k = m := by
    intro hke
    obtain ⟨k1, ek⟩ := List.getElem?_eq_some_iff.1 he
    obtain ⟨m1, em⟩ := List.getElem?_eq_some_iff.1 hf
    rcases Nat.lt_trichotomy k m with hq | hq | hq
    · have := List.pairwise_iff_getElem.1 h.srt k m k1 m1 hq
      rw [ek, em] at this; unfold keyLt keyEq at *; omega
    · exact hq
    · have := List.pairwise_iff_getElem.1 h.srt m k m1 k1 hq
      rw [ek, em] at this; unfold keyLt keyEq at *; omega
  rcases hk with hk | hk <;> rcases hm with hm | hm
  · rw [tailOf_even he hk, tailOf_even hf hm] at ht; rw [headOf_even he hk, headOf_even hf hm] at hh
    have := key ⟨ht, hh⟩; omega
  · rw [tailOf_even he hk, tailOf_odd hf hm] at ht; rw [headOf_even he hk, headOf_odd hf hm] at hh; omega
  · rw [tailOf_odd he hk, tailOf_even hf hm] at ht; rw [headOf_odd he hk, headOf_even hf hm] at hh; omega
  · rw [tailOf_odd he hk, tailOf_odd hf hm] at ht; rw [headOf_odd he hk, headOf_odd hf hm] at hh
    have := key ⟨hh, ht⟩; omega
theorem mem_bkt {n : Nat} {L : List Edg} (h : ArcsOk n L) (v : Nat) (x : Int) : x ∈ bkt (tlsOf L) v ↔ 0 ≤ x ∧ x < 2 * (L.length : Int) ∧ tailOf L x = v := by
  unfold bkt
  rw [tlsOf_length, List.mem_map]
  constructor
  · rintro ⟨i, hi, rfl⟩
    rw [List.mem_filter, List.mem_range, decide_eq_true_eq] at hi
    obtain ⟨t, h1, h2, _⟩ := tls_tail h hi.1
    rw [hi.2] at h1; cases h1
    exact ⟨by omega, by omega, h2⟩
  · rintro ⟨h0, h1, h2⟩
    refine ⟨x.toNat, ?_, by omega⟩
    rw [List.mem_filter, List.mem_range, decide_eq_true_eq]
    obtain ⟨t, a1, a2, _⟩ := tls_tail h (i := x.toNat) (by omega)
    refine ⟨by omega, ?_⟩
    rw [show ((x.toNat : Nat) : Int) = x by omega] at a2
    rw [a1]; congr 1; omega
theorem mem_outOf {n : Nat} {L : List Edg} (h : ArcsOk n L) {v : Int} (hv : 0 ≤ v) (x : Int) : x ∈ outOf n L v ↔ 0 ≤ x ∧ x < 2 * (L.length : Int) ∧ tailOf L x = v := by
  unfold outOf
  simp only [List.mem_flatMap, List.mem_map, List.mem_filter, List.mem_range, decide_eq_true_eq]
  constructor
  · rintro ⟨u, hu, i, ⟨hi, _, ht, _⟩, rfl⟩
    exact ⟨by omega, by omega, ht⟩
  · rintro ⟨h0, h1, h2⟩
    have hr := head_rng h h0 h1
    refine ⟨(headOf L x).toNat, by omega, x.toNat, ⟨by omega, hv, ?_, ?_⟩, by omega⟩
    · rw [show ((x.toNat : Nat) : Int) = x by omega]; exact h2
    · rw [show ((x.toNat : Nat) : Int) = x by omega]; omega
theorem pairwise_flatMap_range {α : Type} {R : α → α → Prop} (f : Nat → List α) (h1 : ∀ u, (f u).Pairwise R) (h2 : ∀ u v, u < v → ∀ x ∈ f u, ∀ y ∈ f v, R x y) : ∀ n, ((List.range n).flatMap f).Pairwise R
  | 0 => by simp
  | n + 1 => by
    rw [List.range_succ, List.flatMap_append, List.pairwise_append]
    refine ⟨pairwise_flatMap_range f h1 h2 n, by simpa using h1 n, fun x hx y hy => ?_⟩
    rw [List.mem_flatMap] at hx
    obtain ⟨u, hu, hx⟩ := hx
    exact h2 u n (List.mem_range.1 hu) x hx y (by simpa using hy)
theorem outOf_sorted {n : Nat} {L : List Edg} (h : ArcsOk n L) (v : Int) : (outOf n L v).Pairwise (fun x y => headOf L x < headOf L y) := by
  unfold outOf
  refine pairwise_flatMap_range _ (fun u => ?_) (fun u w huw x hx y hy => ?_) n
  · rw [List.pairwise_map]
    have hnd : ((List.range (2 * L.length)).filter fun (i : Nat) => decide (0 ≤ v ∧ tailOf L (i : Int) = v ∧ headOf L (i : Int) = (u : Int))).Nodup := List.nodup_range.filter _
    refine List.Pairwise.imp_of_mem (fun {a b} ha hb hab => ?_) hnd
    rw [List.mem_filter, List.mem_range, decide_eq_true_eq] at ha hb
    have := arc_inj h (i := (a : Int)) (j := (b : Int)) (by omega) (by omega) (by omega) (by omega) (by omega) (by omega)
    exact absurd (by omega) hab
  · simp only [List.mem_map, List.mem_filter, decide_eq_true_eq] at hx hy
    obtain ⟨i, ⟨_, _, _, h1⟩, rfl⟩ := hx
    obtain ⟨j, ⟨_, _, _, h2⟩, rfl⟩ := hy
    omega
theorem outOf_out {n : Nat} {L : List Edg} (h : ArcsOk n L) {v : Int} (hv : v < 0 ∨ (n : Int) ≤ v) : outOf n L v = [] := by
  apply List.eq_nil_iff_forall_not_mem.2
  intro x hx
  unfold outOf at hx
  simp only [List.mem_flatMap, List.mem_map, List.mem_filter, List.mem_range, decide_eq_true_eq] at hx
  obtain ⟨u, hu, i, ⟨hi, h0, ht, _⟩, rfl⟩ := hx
  have := head_rng h (i := (i : Int)) (by omega) (by omega)
  omega
/-- Two lists that grow by f and have the same in them are the same. -/
theorem grow_unique {f : Int → Int} : ∀ {l m : List Int}, l.Pairwise (fun x y => f x < f y) → m.Pairwise (fun x y => f x < f y) → (∀ x, x ∈ l ↔ x ∈ m) → l = m
  | [], [], _, _, _ => rfl
  | [], y :: m, _, _, h => by have := (h y).2 (by simp); simp at this
  | x :: l, [], _, _, h => by have := (h x).1 (by simp); simp at this
  | x :: l, y :: m, h1, h2, h => by
    rw [List.pairwise_cons] at h1 h2
    have hxy : x = y := by
      rcases List.mem_cons.1 ((h x).1 (by simp)) with e | hx
      · exact e
      · rcases List.mem_cons.1 ((h y).2 (by simp)) with e | hy
        · exact e.symm
        · have := h1.1 y hy; have := h2.1 x hx; omega
    subst hxy
    congr 1
    refine grow_unique h1.2 h2.2 (fun z => ⟨fun hz => ?_, fun hz => ?_⟩)
    · rcases List.mem_cons.1 ((h z).1 (by simp [hz])) with e | hm
      · subst e; have := h1.1 z hz; omega
      · exact hm
    · rcases List.mem_cons.1 ((h z).2 (by simp [hz])) with e | hm
      · subst e; have := h2.1 z hz; omega
      · exact hm
theorem bkt_sorted {n : Nat} {L : List Edg} (h : ArcsOk n L) {v : Nat} {l' : List Int} (hp : l'.Perm (bkt (tlsOf L) v)) (hs : l'.Pairwise (fun x y => ¬ cmpI (headOf L y) (headOf L x) < 0)) : l' = outOf n L v := by
  have hnd : l'.Nodup := by
    rw [hp.nodup_iff]
    unfold bkt
    exact List.Pairwise.map _ (fun a b hab e => hab (by omega)) (List.nodup_range.filter _)
  refine grow_unique (f := headOf L) ?_ (outOf_sorted h v) (fun x => ?_)
  · refine List.Pairwise.imp_of_mem (fun {a b} ha hb hab => ?_) (List.Pairwise.and hnd hs)
    obtain ⟨a0, a1, a2⟩ := (mem_bkt h v a).1 (hp.mem_iff.1 ha)
    obtain ⟨b0, b1, b2⟩ := (mem_bkt h v b).1 (hp.mem_iff.1 hb)
    have h1 : ¬ headOf L b < headOf L a := by
      intro hc
      apply hab.2
      unfold cmpI; rw [if_pos hc]; omega
    have h2 : headOf L a ≠ headOf L b := fun e => hab.1 (arc_inj h a0 a1 b0 b1 (by omega) e)
    omega
  · rw [hp.mem_iff, mem_bkt h, mem_outOf h (by omega)]
structure SegOk (n : Nat) (L : List Edg) (v : Nat) (out : List Int) : Prop where
  len : out.length = (tlsOf L).length
  seg : ∀ u, u < n → seg (tlsOf L) u out = if u < v then outOf n L u else bkt (tlsOf L) u
theorem SegOk.zero {n : Nat} {L : List Edg} {out : List Int} (h : OutOk (tlsOf L) (tlsOf L).length out) : SegOk n L 0 out := ⟨h.len, fun u _ => by rw [if_neg (by omega)]; exact h.segs u⟩
theorem SegOk.succ {n : Nat} {L : List Edg} {v : Nat} {out l' : List Int} (ha : ArcsOk n L) (h : SegOk n L v out) (hv : v < n) (hp : l'.Perm (bkt (tlsOf L) v)) (hs : l'.Pairwise (fun x y => ¬ cmpI (headOf L y) (headOf L x) < 0)) :
    SegOk n L (v + 1) (putL out l' (preC (tlsOf L) v)) := by
  have hl : l'.length = eqC (tlsOf L) v := by rw [hp.length_eq, bkt_length]
  have h1 := preC_succ (tlsOf L) v
  have h2 := preC_le (tlsOf L) (v + 1)
  refine ⟨by rw [putL_length (by rw [h.len]; omega), h.len], fun u hu => ?_⟩
  rw [seg_put h.len hl]
  by_cases huv : u = v
  · subst huv; rw [if_pos rfl, if_pos (by omega)]; exact bkt_sorted ha hp hs
  · rw [if_neg huv, h.seg u hu]
    by_cases h3 : u < v
    · rw [if_pos h3, if_pos (by omega)]
    · rw [if_neg h3, if_neg (by omega)]
def csrD (n : Nat) (L : List Edg) (out : List Int) : ArcsD := ⟨n, L, frL n (tlsOf L), out⟩
theorem SegOk.of {n : Nat} {L : List Edg} {out : List Int} (h : SegOk n L n out) {v : Nat} (hv : v < n) : (csrD n L out).of v = outOf n L v := by
  have := h.seg v hv
  rw [if_pos hv] at this
  rw [← this]
  unfold ArcsD.of csrD Go.Proofs.YtipoblpnkkcpgaaGreat.seg
  simp only
  rw [frL_get _ (by omega), frL_get _ (by omega)]
end Go.Proofs.YtipoblpnkkcpgaaGreat
