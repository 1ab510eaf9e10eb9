/-
  What the program's structures look like in memory, as data.
-/
import Derived.Test.YtipoblpnkkcpgaaGreatFacts
import Derived.Test.YtipoblpnkkcpgaaGreatPure
set_option linter.unusedVariables false
set_option linter.unusedSimpArgs false
namespace Go.Proofs.YtipoblpnkkcpgaaGreat
open Go Go.RowKit Go.Proofs.YtipoblpnkkcpgaaGreat.B

def encE (e : Edg) : List Value := [.int .i64 e.u, .int .i64 e.v, .int .i64 e.w]
def aggE (e : Edg) : Value := .agg #[.int .i64 e.u, .int .i64 e.v, .int .i64 e.w]
def cellsE (l : List Edg) : List Value := l.flatMap encE
def i64s (l : List Int) : List Value := l.map (Value.int .i64)

theorem cellsE_length (l : List Edg) : (cellsE l).length = l.length * 3 := by
  unfold cellsE
  induction l with
  | nil => rfl
  | cons e l ih => rw [List.flatMap_cons, List.length_append, ih]; simp [encE]; omega
theorem cellsE_append (l m : List Edg) : cellsE (l ++ m) = cellsE l ++ cellsE m := by simp [cellsE]
theorem cellsE_get (l : List Edg) (k : Nat) (e : Edg) (h : l[k]? = some e) : ∀ j v, (encE e)[j]? = some v → (cellsE l)[k * 3 + j]? = some v := by
  induction l generalizing k with
  | nil => simp at h
  | cons x l ih =>
    intro j v hv
    have hj : j < 3 := by have := (List.getElem?_eq_some_iff.1 hv).1; simpa [encE] using this
    unfold cellsE
    rw [List.flatMap_cons]
    cases k with
    | zero =>
      simp at h; subst h
      rw [List.getElem?_append_left (by simp [encE]; omega)]
      simpa using hv
    | succ k =>
      rw [List.getElem?_append_right (by simp [encE]; omega)]
      have := ih k (by simpa using h) j v hv
      unfold cellsE at this
      rw [← this]; congr 1; simp [encE]; omega
theorem i64s_get (l : List Int) (k : Nat) (x : Int) (h : l[k]? = some x) : (i64s l)[k]? = some (.int .i64 x) := by simp [i64s, h]

def bools (l : List Bool) : List Value := l.map Value.bool
theorem bools_length (l : List Bool) : (bools l).length = l.length := by simp [bools]
theorem bools_at {l : List Bool} {k : Nat} {x : Int} {b : Bool} (hx : x.toNat = k) (h : l[k]? = some b) : (bools l)[x.toNat]? = some (.bool b) := by rw [hx]; simp [bools, h]
theorem bools_set (l : List Bool) (k : Nat) (b : Bool) : (bools l).set k (.bool b) = bools (l.set k b) := by simp [bools, List.map_set]
theorem i64s_at {l : List Int} {k : Nat} {x y : Int} (hx : x.toNat = k) (h : l[k]? = some y) : (i64s l)[x.toNat]? = some (.int .i64 y) := by rw [hx]; exact i64s_get _ _ _ h
theorem i64s_set (l : List Int) (k : Nat) (y : Int) : (i64s l).set k (.int .i64 y) = i64s (l.set k y) := by simp [i64s, List.map_set]
/-- A graph as data. -/
structure NetD where
  n : Nat
  l : List Edg
  near : List (List Int)
  deg : List Int
  total : Int

structure IsNet (w : World) (b : Nat) (G : NetD) : Prop where
  ex : ∃ An cn Ad cd Al cl vs, w.heap[b]? = some (.cells [Value.slice An G.n cn, .slice Ad G.n cd, .slice Al G.l.length cl, .int .i64 G.total].toArray 88 (0, 0)) ∧
    Rd w An 1 G.n vs ∧ Rd w Ad 1 G.n (i64s G.deg) ∧ Rd w Al 3 G.l.length (cellsE G.l) ∧
    (∀ k, k < G.n → ∃ A c x, vs[k]? = some (.slice A x.length c) ∧ G.near[k]? = some x ∧ Rd w A 1 x.length (i64s x))
  hn : G.n ≤ 4096
  hl : G.l.length ≤ 1048576
theorem IsNet.below {w w' : World} {b : Nat} {G : NetD} (h : IsNet w b G) (hb : Gr w w') : IsNet w' b G := by
  obtain ⟨⟨An, cn, Ad, cd, Al, cl, vs, h1, h2, h3, h4, h5⟩, hn, hl⟩ := h
  refine ⟨⟨An, cn, Ad, cd, Al, cl, vs, ?_, h2.below hb, h3.below hb, h4.below hb, fun k hk => ?_⟩, hn, hl⟩
  · rw [hb.block b (Array.getElem?_eq_some_iff.1 h1).1]; exact h1
  · obtain ⟨A, c, x, a1, a2, a3⟩ := h5 k hk
    exact ⟨A, c, x, a1, a2, a3.below hb⟩
theorem cell_of {w : World} {b o : Nat} {cs : List Value} {t : TypeId} {v : Value} (h : w.heap[b]? = some (.cells cs.toArray t (0, 0))) (hv : cs[o]? = some v) : w.cell? ⟨b, o, none⟩ = some v := by
  rw [cell_row h, hv]
theorem cellsE_one (l : List Edg) : ∀ u ∈ cellsE l, u.oneCell' = true := by
  intro u hu
  simp only [cellsE, List.mem_flatMap, encE, List.mem_cons, List.not_mem_nil, or_false] at hu
  obtain ⟨e, _, rfl | rfl | rfl⟩ := hu <;> rfl
theorem i64s_one (l : List Int) : ∀ u ∈ i64s l, u.oneCell' = true := by
  intro u hu
  simp only [i64s, List.mem_map] at hu
  obtain ⟨x, _, rfl⟩ := hu
  rfl
theorem i64s_length (l : List Int) : (i64s l).length = l.length := by simp [i64s]

theorem not_none0 (k : Nat) : ¬ none0 k := fun h => h

/-! Arcs. -/
def cellsA (l : List (Int × Int)) : List Value := l.flatMap fun a => [.int .i64 a.1, .int .i64 a.2]
theorem cellsA_length (l : List (Int × Int)) : (cellsA l).length = l.length * 2 := by
  unfold cellsA
  induction l with
  | nil => rfl
  | cons e l ih => rw [List.flatMap_cons, List.length_append, ih]; simp; omega
theorem cellsA_append (l m : List (Int × Int)) : cellsA (l ++ m) = cellsA l ++ cellsA m := by simp [cellsA]
theorem cellsA_get (l : List (Int × Int)) (k : Nat) (a : Int × Int) (h : l[k]? = some a) : (cellsA l)[k * 2 + 0]? = some (.int .i64 a.1) ∧ (cellsA l)[k * 2 + 1]? = some (.int .i64 a.2) := by
  induction l generalizing k with
  | nil => simp at h
  | cons x l ih =>
    unfold cellsA
    rw [List.flatMap_cons]
    cases k with
    | zero => simp at h; subst h; simp
    | succ k =>
      have := ih k (by simpa using h)
      unfold cellsA at this
      rw [List.getElem?_append_right (by simp; omega), List.getElem?_append_right (by simp; omega)]
      constructor
      · rw [← this.1]; congr 1; simp; omega
      · rw [← this.2]; congr 1; simp; omega
def nats (l : List Nat) : List Value := l.map fun (k : Nat) => Value.int .i64 (k : Int)
theorem nats_length (l : List Nat) : (nats l).length = l.length := by simp [nats]
theorem nats_get (l : List Nat) (k : Nat) (h : k < l.length) : (nats l)[k]? = some (.int .i64 ((l.getD k 0 : Nat) : Int)) := by
  simp [nats, List.getD_eq_getElem?_getD, h]
structure IsArcs (w : World) (b : Nat) (D : ArcsD) : Prop where
  ex : ∃ Aa ca Af cf bo co, w.heap[b]? = some (.cells [Value.slice Aa (2 * D.l.length) ca, .slice Af (D.n + 1) cf, .slice (some ⟨bo, 0, none⟩) (2 * D.l.length) co].toArray 106 (0, 0)) ∧
    Rd w Aa 2 (2 * D.l.length) (cellsA (arcsOf D.l)) ∧ Rd w Af 1 (D.n + 1) (nats D.fr) ∧ Rd w (some ⟨bo, 0, none⟩) 1 (2 * D.l.length) (i64s D.out) ∧ 2 * D.l.length ≤ co
  hn : D.n ≤ 4096
  hl : D.l.length ≤ 1048576
  mono : ∀ k, k < D.n → D.fr.getD k 0 ≤ D.fr.getD (k + 1) 0 ∧ D.fr.getD (k + 1) 0 ≤ 2 * D.l.length
theorem IsArcs.below {w w' : World} {b : Nat} {D : ArcsD} (h : IsArcs w b D) (hb : Gr w w') : IsArcs w' b D := by
  obtain ⟨⟨Aa, ca, Af, cf, Ao, co, h1, h2, h3, h4, h5⟩, hn, hl, hm⟩ := h
  refine ⟨⟨Aa, ca, Af, cf, Ao, co, ?_, h2.below hb, h3.below hb, h4.below hb, h5⟩, hn, hl, hm⟩
  rw [hb.block b (Array.getElem?_eq_some_iff.1 h1).1]; exact h1
theorem nat_xor_one (m : Nat) : m ^^^ 1 = if m % 2 = 0 then m + 1 else m - 1 := by
  have h1 : (m ^^^ 1) / 2 = m / 2 := by rw [Nat.xor_div_two]; simp
  have h2 : (m ^^^ 1) % 2 = 1 - m % 2 := by
    have h3 : (m ^^^ 1).testBit 0 = (m.testBit 0 ^^ (1 : Nat).testBit 0) := Nat.testBit_xor m 1 0
    rw [Nat.testBit_zero, Nat.testBit_zero] at h3
    rcases Nat.mod_two_eq_zero_or_one m with h | h
    · rw [h] at h3 ⊢; simpa using h3
    · have hne : ¬ ((m ^^^ 1) % 2 = 1) := by intro hc; rw [hc, h] at h3; simp at h3
      have := Nat.mod_lt (m ^^^ 1) (show 0 < 2 by omega)
      omega
  split <;> omega
theorem xor_one (i : Int) (h0 : 0 ≤ i) (h1 : i ≤ 9223372036854775807) : Go.bits .xor .i64 i 1 = if i % 2 = 0 then i + 1 else i - 1 := by
  obtain ⟨m, rfl⟩ := Int.eq_ofNat_of_zero_le h0
  have hx := nat_xor_one m
  have hm : m < 18446744073709551616 := by omega
  have e : (BitVec.ofInt IntKind.i64.bits (m : Int) ^^^ BitVec.ofInt IntKind.i64.bits 1).toNat = m ^^^ 1 := by
    rw [BitVec.toNat_xor]
    have e1 : (BitVec.ofInt IntKind.i64.bits (m : Int)).toNat = m := by
      show (BitVec.ofInt 64 (m : Int)).toNat = m
      rw [BitVec.toNat_ofInt]; omega
    have e2 : (BitVec.ofInt IntKind.i64.bits 1).toNat = 1 := rfl
    rw [e1, e2]
  unfold Go.bits
  simp only [e, hx]
  split
  · rw [IntWalk.i64_in _ (by omega)]; split <;> omega
  · rw [IntWalk.i64_in _ (by omega)]; split <;> omega

/-! A graph in the making. -/
def netG (b : Nat) (An : Option Addr) (cn : Nat) (Ad : Option Addr) (cd : Nat) (n : Nat) (lv tot : Value) (vs : List Value) (near : List (List Int)) (ds : List Int) : Ass :=
  Ass.star (blk b [.slice An n cn, .slice Ad n cd, lv, tot] 88) (Ass.star (row (.slice An n cn) 51 1 n vs) (Ass.star (row (.slice Ad n cd) 2 1 n (i64s ds)) (rowsA 3 vs (near.map i64s))))
section
variable {w0 w : World} {F0 : Nat → Prop} {H : List Ass} {b : Nat} {An : Option Addr} {cn : Nat} {Ad : Option Addr} {cd n : Nat} {lv tot : Value} {vs : List Value} {near : List (List Int)} {ds : List Int}
theorem netOpen (h : St w0 F0 w (netG b An cn Ad cd n lv tot vs near ds :: H)) :
    St w0 F0 w (row (.slice Ad n cd) 2 1 n (i64s ds) :: rowsA 3 vs (near.map i64s) :: row (.slice An n cn) 51 1 n vs :: blk b [.slice An n cn, .slice Ad n cd, lv, tot] 88 :: H) := by
  have h1 := h.split
  have h2 := (h1.front 1 rfl).split
  exact (h2.front 1 rfl).split
theorem netShut (h : St w0 F0 w (row (.slice Ad n cd) 2 1 n (i64s ds) :: rowsA 3 vs (near.map i64s) :: row (.slice An n cn) 51 1 n vs :: blk b [.slice An n cn, .slice Ad n cd, lv, tot] 88 :: H)) :
    St w0 F0 w (netG b An cn Ad cd n lv tot vs near ds :: H) := by
  have h1 := (h.join.front 1 rfl).join
  exact (h1.front 1 rfl).join
end
def addAt (xs : List (List Int)) (p : Nat) (y : Int) : List (List Int) := xs.set p (xs.getD p [] ++ [y])
def linkN (near : List (List Int)) (e : Edg) : Nat → List (List Int)
  | 0 => near
  | 1 => addAt near e.u.toNat e.v
  | _ => addAt (addAt near e.u.toNat e.v) e.v.toNat e.u
def linkD (ds : List Int) (e : Edg) : Nat → List Int
  | 0 => ds
  | 1 => ds.set e.u.toNat (ds.getD e.u.toNat 0 + e.w)
  | _ => (ds.set e.u.toNat (ds.getD e.u.toNat 0 + e.w)).set e.v.toNat ((ds.set e.u.toNat (ds.getD e.u.toNat 0 + e.w)).getD e.v.toNat 0 + e.w)
def endA (e : Edg) (k : Nat) : Int := if k = 0 then e.u else e.v
def endB (e : Edg) (k : Nat) : Int := if k = 0 then e.v else e.u
theorem linkN_succ (near : List (List Int)) (e : Edg) {k : Nat} (h : k < 2) : linkN near e (k + 1) = addAt (linkN near e k) (endA e k).toNat (endB e k) := by
  rcases (show k = 0 ∨ k = 1 by omega) with rfl | rfl <;> rfl
theorem linkD_succ (ds : List Int) (e : Edg) {k : Nat} (h : k < 2) : linkD ds e (k + 1) = (linkD ds e k).set (endA e k).toNat ((linkD ds e k).getD (endA e k).toNat 0 + e.w) := by
  rcases (show k = 0 ∨ k = 1 by omega) with rfl | rfl <;> rfl
theorem addAt_length (xs : List (List Int)) (p : Nat) (y : Int) : (addAt xs p y).length = xs.length := by simp [addAt]

/-! What is next to each vertex, and how much. -/
def sortL (l : List Int) : List Int := l.mergeSort (fun x y => decide (x ≤ y))
theorem sortL_length (l : List Int) : (sortL l).length = l.length := List.length_mergeSort l
def nearAcc (n : Nat) (L : List Edg) : List (List Int) := L.foldl (fun acc e => linkN acc e 2) (List.replicate n [])
def degAcc (n : Nat) (L : List Edg) : List Int := L.foldl (fun acc e => linkD acc e 2) (List.replicate n 0)
theorem nearAcc_snoc (n : Nat) (L : List Edg) (e : Edg) : nearAcc n (L ++ [e]) = linkN (nearAcc n L) e 2 := by simp [nearAcc, List.foldl_append]
theorem degAcc_snoc (n : Nat) (L : List Edg) (e : Edg) : degAcc n (L ++ [e]) = linkD (degAcc n L) e 2 := by simp [degAcc, List.foldl_append]
theorem linkN_length (near : List (List Int)) (e : Edg) : (linkN near e 2).length = near.length := by simp [linkN, addAt_length]
theorem linkD_length (ds : List Int) (e : Edg) : (linkD ds e 2).length = ds.length := by simp [linkD]
theorem addAt_len {xs : List (List Int)} {q : Nat} (h : ∀ x ∈ xs, x.length ≤ q) (p : Nat) (y : Int) : ∀ x ∈ addAt xs p y, x.length ≤ q + 1 := by
  intro x hx
  rcases List.mem_or_eq_of_mem_set hx with hx | rfl
  · exact Nat.le_succ_of_le (h x hx)
  · rw [List.getD_eq_getElem?_getD]
    cases hq : xs[p]? with
    | none => simp
    | some z => have := h z (List.mem_of_getElem? hq); simp; omega
theorem linkN_len {xs : List (List Int)} {q : Nat} (h : ∀ x ∈ xs, x.length ≤ q) (e : Edg) : ∀ x ∈ linkN xs e 2, x.length ≤ q + 2 := addAt_len (addAt_len h _ _) _ _
theorem set_bd {ds : List Int} {q : Int} (h : ∀ d ∈ ds, 0 ≤ d ∧ d ≤ q) {x : Int} (hx : 0 ≤ x) (hq : 0 ≤ q) (p : Nat) : ∀ d ∈ ds.set p (ds.getD p 0 + x), 0 ≤ d ∧ d ≤ q + x := by
  intro d hd
  rcases List.mem_or_eq_of_mem_set hd with hd | rfl
  · have := h d hd; omega
  · rw [List.getD_eq_getElem?_getD]
    cases hz : ds[p]? with
    | none => simp; omega
    | some z => have := h z (List.mem_of_getElem? hz); simp; omega
theorem linkD_bd {ds : List Int} {q : Int} (h : ∀ d ∈ ds, 0 ≤ d ∧ d ≤ q) (hq : 0 ≤ q) {e : Edg} (he : 0 ≤ e.w) : ∀ d ∈ linkD ds e 2, 0 ≤ d ∧ d ≤ q + 2 * e.w := by
  intro d hd
  have := set_bd (set_bd h he hq e.u.toNat) he (by omega) e.v.toNat d hd
  omega
theorem sumAll_mem (l : List Edg) : ∀ e ∈ sumAll l, ∃ x ∈ l, keyEq (normE x) e := by
  have key : ∀ (n : Nat) (l : List Edg), l.length = n → ∀ e ∈ sumAll l, ∃ x ∈ l, keyEq (normE x) e := by
    intro n
    induction n with
    | zero => intro l hl e he; obtain rfl : l = [] := List.eq_nil_of_length_eq_zero hl; simp [sumAll] at he
    | succ n ih =>
      intro l hl e he
      obtain ⟨m, x, rfl⟩ : ∃ m x, l = m ++ [x] := ⟨l.dropLast, l.getLast (by intro h; subst h; simp at hl), (List.dropLast_concat_getLast _).symm⟩
      have ih' := ih m (by simpa using hl)
      rw [sumAll_snoc] at he
      split at he
      · rcases addE_mem e he with ⟨y, hy, hk⟩ | hk
        · obtain ⟨z, hz, hkz⟩ := ih' y hy
          exact ⟨z, by simp [hz], hkz.1.trans hk.1, hkz.2.trans hk.2⟩
        · exact ⟨x, by simp, hk⟩
      · obtain ⟨z, hz, hkz⟩ := ih' e he
        exact ⟨z, by simp [hz], hkz⟩
  exact key l.length l rfl
theorem NewOk.merged {n : Int} {l : List Edg} (h : NewOk n l) : ∀ e ∈ mergeL l, (0 ≤ e.u ∧ e.u < n) ∧ (0 ≤ e.v ∧ e.v < n) ∧ 0 ≤ e.w ∧ e.w ≤ 2251799813685248 := by
  intro e he
  have hm : e ∈ sumAll l := (List.mem_filter.1 he).1
  obtain ⟨x, hx, hk1, hk2⟩ := sumAll_mem l e hm
  obtain ⟨a1, a2, a3, a4, _⟩ := chkE_zero (h.all x hx)
  obtain ⟨b1, b2⟩ := (sumAll_ok l).2.2 h.nonneg
  have c1 := b1 e hm
  have c2 := le_total b1 hm
  have c3 := h.total
  have : (0 ≤ (normE x).u ∧ (normE x).u < n) ∧ 0 ≤ (normE x).v ∧ (normE x).v < n := by unfold normE; split <;> (try dsimp only) <;> omega
  rw [hk1, hk2] at this
  exact ⟨this.1, this.2, c1, by omega⟩
theorem merged_total {n : Int} {l : List Edg} (h : NewOk n l) : nonneg (mergeL l) ∧ totalW (mergeL l) ≤ 2251799813685248 := by
  obtain ⟨b1, b2⟩ := (sumAll_ok l).2.2 h.nonneg
  have c3 := h.total
  have hn : nonneg (mergeL l) := fun e he => b1 e (List.mem_filter.1 he).1
  have key : ∀ m : List Edg, nonneg m → totalW (m.filter (fun e => e.w ≠ 0)) ≤ totalW m := by
    intro m
    induction m with
    | nil => intro _; simp [totalW]
    | cons x m ih =>
      intro hm
      have h1 := ih (fun y hy => hm y (by simp [hy]))
      have h2 := hm x (by simp)
      rw [List.filter_cons]
      split
      · rw [totalW_cons, totalW_cons]; omega
      · rw [totalW_cons]; omega
  have := key (sumAll l) b1
  exact ⟨hn, by unfold mergeL; omega⟩
def sortTo (xs : List (List Int)) (s : List Int → List Int) (k : Nat) : List (List Int) := xs.take k |>.map s |>.append (xs.drop k)
theorem sortTo_succ {xs : List (List Int)} {s : List Int → List Int} {k : Nat} {x : List Int} (hx : xs[k]? = some x) : (sortTo xs s k)[k]? = some x ∧ sortTo xs s (k + 1) = (sortTo xs s k).set k (s x) := by
  have hk := (List.getElem?_eq_some_iff.1 hx).1
  have hl : ((xs.take k).map s).length = k := by simp; omega
  have hd : xs.drop k = x :: xs.drop (k + 1) := by rw [List.drop_eq_getElem_cons hk, (List.getElem?_eq_some_iff.1 hx).2]
  constructor
  · show (((xs.take k).map s) ++ xs.drop k)[k]? = some x
    rw [List.getElem?_append_right (by omega), hl, hd]; simp
  · show ((xs.take (k + 1)).map s) ++ xs.drop (k + 1) = (((xs.take k).map s) ++ xs.drop k).set k (s x)
    rw [List.set_append_right _ _ (by omega), hl, hd, List.take_add_one, hx]; simp
theorem sortTo_all (xs : List (List Int)) (s : List Int → List Int) : sortTo xs s xs.length = xs.map s := by
  show ((xs.take xs.length).map s) ++ xs.drop xs.length = _
  rw [List.take_length, List.drop_length, List.append_nil]
theorem sortTo_zero (xs : List (List Int)) (s : List Int → List Int) : sortTo xs s 0 = xs := by simp [sortTo]
theorem sortTo_length (xs : List (List Int)) (s : List Int → List Int) (k : Nat) : (sortTo xs s k).length = xs.length := by
  show (((xs.take k).map s) ++ xs.drop k).length = _
  simp; omega
theorem rowsA_rd {e : TypeId} {w : World} : ∀ {vs : List Value} {xs : List (List Value)} {F : Nat → Prop} (p : Nat) {x : List Value}, (rowsA e vs xs).holds w F → xs[p]? = some x → x.length ≤ 4611686018427387904 → ∃ A c, vs[p]? = some (.slice A x.length c) ∧ Rd w A 1 x.length x
  | [], [], _, p, _, _, hx, _ => by simp at hx
  | v :: vs, x :: xs, F, 0, x', h, hx, hl => by
    simp at hx; subst hx
    obtain ⟨A, B, a, _⟩ := h
    obtain ⟨A1, c1, rfl⟩ : ∃ A1 c1, v = .slice A1 x.length c1 := by
      rcases a.1.2 with ⟨h, h0⟩ | ⟨g, cp, cur, hv, _⟩
      · exact ⟨none, 0, by rw [h, h0]⟩
      · exact ⟨_, _, hv⟩
    exact ⟨A1, c1, rfl, row_rd a hl⟩
  | v :: vs, x :: xs, F, p + 1, x', ⟨A, B, _, b, _⟩, hx, hl => by
    have := rowsA_rd p b (by simpa using hx) hl
    simpa using this
  | [], x :: xs, F, p, _, h, _, _ => by exact absurd h.1 id
  | v :: vs, [], F, p, _, h, _, _ => by exact absurd h.1 id

def netOf (n : Int) (l : List Edg) : NetD := ⟨n.toNat, mergeL l, (nearAcc n.toNat (mergeL l)).map sortL, degAcc n.toNat (mergeL l), totalW (mergeL l)⟩

theorem eqGuardE : Tryz.prog.eqGuardType Tryz.prog.depth 79 = false := by kernel_rfl
theorem equalE (x y : Edg) (w : World) : (Op.equalIn 10000 79 (.agg (encE x).toArray) (.agg (encE y).toArray)).run Tryz.prog w = .ok (decide (x = y)) w := by
  have hu := Tryz.underlying79
  have hfl := fieldsOf_eq hu
  rw [show (10000 : Nat) = 9998 + 1 + 1 from rfl, run_equalIn_struct w (9998 + 1) 79 _ _ (by rw [hfl]; exact hu) (by kernel_rfl), hfl]
  simp [Op.eqFields, part, encE, Tryz.isAgg3, Tryz.isAgg2, Tryz.sizeOf3, Tryz.sizeOf2, fun (w : World) (a b : Int) => run_equalIn_int w 9998 3 .i64 .i64 a b Tryz.underlying3, fun (w : World) (a b : Int) => run_equalIn_int w 9998 2 .i64 .i64 a b Tryz.underlying2]
  obtain ⟨a, b, c⟩ := x; obtain ⟨d, e, f⟩ := y
  by_cases h1 : a = d <;> by_cases h2 : b = e <;> by_cases h3 : c = f <;> simp [h1, h2, h3]
end Go.Proofs.YtipoblpnkkcpgaaGreat
