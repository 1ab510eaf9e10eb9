/-
  slices.SortFunc and slices.Sort, of the kit's shelf, at this program's types, in the proof system's words.
-/
import Derived.Test.YtipoblpnkkcpgaaGreatCmp0
import Derived.Test.YtipoblpnkkcpgaaGreatShelf
set_option linter.unusedVariables false
set_option linter.unusedSimpArgs false
namespace Go.Proofs.YtipoblpnkkcpgaaGreat
open Go Go.RowKit Go.Proofs.YtipoblpnkkcpgaaGreat.B
open Go.Sort (SWO PermIn SortedIn HoldsK Holds flatK putRowK putRow putCells grow)
theorem permL {α : Type} [Inhabited α] {d d' : Array α} (h : PermIn 0 d.size d d') : d'.toList.Perm d.toList := by
  have := h.2.2
  rw [show d'.extract 0 d.size = d' by rw [← h.1]; simp, show d.extract 0 d.size = d by simp] at this
  exact this
theorem sortedL {α : Type} [Inhabited α] {lt : α → α → Bool} {d d' : Array α} (hs : d'.size = d.size) (h : SortedIn lt 0 d.size d') : d'.toList.Pairwise (fun a b => lt b a = false) := by
  rw [List.pairwise_iff_getElem]
  intro i j hi hj hij
  simp at hi hj
  have := h i j (Nat.zero_le _) hij (by omega)
  rw [getElem!_pos d' i (by omega), getElem!_pos d' j (by omega)] at this
  simpa using this
theorem gr_grow {W w1 : World} (h : Gr W w1) : ∃ q os', w1 = grow (W.drewN q) os' := by
  refine ⟨w1.drawn - W.drawn, w1.heap.extract W.heap.size w1.heap.size, ?_⟩
  obtain ⟨hp, tp, dr, os, out⟩ := w1
  obtain ⟨h1, h2, h3, h4, h5, h6⟩ := h
  simp only at h1 h2 h3 h4 h5 h6
  subst h1; subst h2; subst h3
  simp only [grow, World.drewN, World.mk.injEq]
  refine ⟨?_, trivial, by omega, trivial, trivial⟩
  apply Array.ext_getElem?
  intro k
  rw [Array.getElem?_append]
  by_cases hk : k < W.heap.size
  · rw [if_pos hk]; exact h5 k hk
  · rw [if_neg hk, Array.getElem?_extract]
    by_cases hk2 : k < hp.size
    · rw [if_pos (by omega)]; congr 1; omega
    · rw [if_neg (by omega), Array.getElem?_eq_none (by omega)]
theorem cellsE_flat (l : List Edg) : flatK encE 3 l.toArray = (cellsE l).toArray := by
  apply Array.ext_getElem?
  intro t
  by_cases ht : t < l.length * 3
  · have h1 : t / 3 < l.length := Nat.div_lt_of_lt_mul (by omega)
    have h2 : t % 3 < 3 := Nat.mod_lt _ (by omega)
    have hx : l[t / 3]? = some l[t / 3] := List.getElem?_eq_getElem h1
    have hg : (encE l[t / 3])[t % 3]? = some ((encE l[t / 3])[t % 3]'(by simp [encE]; exact h2)) := List.getElem?_eq_getElem _
    have hc := cellsE_get l (t / 3) _ hx (t % 3) _ hg
    rw [show t / 3 * 3 + t % 3 = t by omega] at hc
    rw [show (cellsE l).toArray[t]? = (cellsE l)[t]? from by simp, hc, Array.getElem?_eq_getElem (by simpa using ht)]
    have := Go.Sort.get_flatK encE 3 l.toArray t (by simpa using ht)
    rw [getElem!_pos _ t (by simpa using ht)] at this
    rw [this]
    simp [h1]
    rw [hg]; rfl
  · rw [Array.getElem?_eq_none (by simp; omega), Array.getElem?_eq_none (by simp [cellsE_length]; omega)]
theorem swoE : SWO (Go.Proofs.ltOf cmpE) where
  irrefl x := by unfold ltOf; simp only [decide_eq_false_iff_not, cmpE_lt]; unfold keyLt keyEq; omega
  trans x y z h1 h2 := by unfold ltOf at *; simp only [decide_eq_true_eq, cmpE_lt] at *; unfold keyLt keyEq at *; omega
  ntrans x y z h1 h2 := by unfold ltOf at *; simp only [decide_eq_false_iff_not, cmpE_lt] at *; unfold keyLt keyEq at *; omega
theorem encE_one (x : Edg) : ∀ v ∈ encE x, v.oneCell' = true := by
  intro v hv; simp [encE] at hv; rcases hv with rfl | rfl | rfl <;> rfl
theorem sortFuncE (A : Option Addr) (c : Nat) (l : List Edg) (w : World) (F0 : Nat → Prop) (h0 : (row (.slice A l.length c) 79 3 l.length (cellsE l)).holds w F0) (hF : ∀ k, F0 k → k < w.heap.size) (hlen : l.length ≤ 1099511627776) :
    Calls Tryz.prog 84 #[.slice A l.length c, .func (.func 85) #[] #[]] w fun e w1 => ∃ m : List Edg, (m.Perm l ∧ m.Pairwise (fun a b => ¬ cmpE b a < 0)) ∧ e = .returned (.tuple #[]) ∧ Mod F0 w w1 ∧
      ∃ F', (row (.slice A l.length c) 79 3 l.length (cellsE m)).holds w1 F' ∧ ∀ k, F' k → F0 k ∨ (w.heap.size ≤ k ∧ k < w1.heap.size) := by
  rcases Nat.eq_zero_or_pos l.length with hl | hl
  · obtain rfl := List.eq_nil_of_length_eq_zero hl
    refine (AnyF.slices_SortFunc_none YtipoblpnkkcpgaaGreat.sortE A c (.func (.func 85) #[] #[]) w).mono fun e w1 ⟨he, hw⟩ => ?_
    subst hw
    exact ⟨[], ⟨List.Perm.refl _, List.Pairwise.nil⟩, he, Mod.refl _ _, F0, h0, fun k hk => .inl hk⟩
  · have hrow := h0
    obtain ⟨⟨_, hor⟩, hF0⟩ := h0
    rcases hor with ⟨_, h⟩ | ⟨b, cp, cur, hv, _, hh, _⟩
    · omega
    · cases hv
      have hb : b < w.heap.size := (Array.getElem?_eq_some_iff.1 hh).1
      have hcl : (cellsE l).length = l.length * 3 := cellsE_length l
      have hH : HoldsK encE 3 w b 0 l.toArray := by
        unfold HoldsK; rw [cellsE_flat]; exact row_Holds hrow (fun j v hj => by rw [Nat.zero_add]; exact hj)
      have h := AnyQ.slices_SortFunc YtipoblpnkkcpgaaGreat.sortE 3 Tryz.isAgg79 Tryz.sizeOf79 encE (fun _ => rfl) encE_one cmpE swoE 85 #[] b 0 c l.toArray w e85
        (fun m os dk _ x y => (edgeCmp x y _).mono fun e w' ⟨he, hg⟩ => ⟨he, gr_grow hg⟩) hH hb (by simp; omega)
      refine Calls.mono h fun e w1 ⟨he, d', n, os, hp, hs, hw⟩ => ?_
      have hsz : d'.size = l.length := by have := hp.1; simpa using this
      have hpl := permL hp
      have hsl := sortedL hp.1 hs
      refine ⟨d'.toList, ⟨by simpa using hpl, hsl.imp (fun {a b} h => by unfold ltOf at h; simpa using h)⟩, he, ?_, F0, ?_, fun k hk => .inl hk⟩
      · subst hw
        exact (put_mod w b n 0 _ os).mono (fun k hk => (hF0 k).2 (by rw [hk]; rfl))
      · have hf : flatK encE 3 d' = (cellsE d'.toList).toArray := by have := cellsE_flat d'.toList; simpa using this
        have hcl' : (cellsE d'.toList).length = (cellsE l).length := by rw [cellsE_length, cellsE_length]; simp [hsz]
        have := row_put (n := n) (os := os) hrow (off := 0) (ys := cellsE d'.toList) (by omega)
        rw [part_whole hcl'] at this
        subst hw
        unfold sortWorldK putRowK
        rw [hf]
        exact this

theorem putRow_map {α : Type} [Inhabited α] (enc : α → Value) (w : World) (b off : Nat) (d : Array α) : putRow enc w b off d = putRow id w b off (d.map enc) := by
  unfold putRow
  congr 1
  funext c
  unfold putCells
  apply Array.ext_getElem?
  intro k
  simp only [Array.getElem?_mapIdx, Array.size_map]
  cases c[k]? with
  | none => rfl
  | some y =>
    by_cases h : off ≤ k ∧ k < off + d.size
    · simp only [Option.map_some, if_pos h]
      have h1 : k - off < d.size := by omega
      rw [getElem!_pos d _ h1, getElem!_pos (d.map enc) _ (by simpa using h1)]
      simp
    · simp [h]
theorem sortInts (A : Option Addr) (c : Nat) (l : List Int) (w : World) (F0 : Nat → Prop) (h0 : (row (.slice A l.length c) 3 1 l.length (i64s l)).holds w F0) (hlen : l.length ≤ 1099511627776) :
    Calls Tryz.prog 40 #[.slice A l.length c] w fun e w1 => ∃ x : Unit, True ∧ e = .returned (.tuple #[]) ∧ Mod F0 w w1 ∧
      ∃ F', (row (.slice A l.length c) 3 1 l.length (i64s (sortL l))).holds w1 F' ∧ ∀ k, F' k → F0 k ∨ (w.heap.size ≤ k ∧ k < w1.heap.size) := by
  rcases Nat.eq_zero_or_pos l.length with hl | hl
  · obtain rfl := List.eq_nil_of_length_eq_zero hl
    refine (AnyM.slices_Sort_int_none YtipoblpnkkcpgaaGreat.sortI A c w).mono fun e w1 ⟨he, hw⟩ => ?_
    subst hw
    exact ⟨(), trivial, he, Mod.refl _ _, F0, by simpa [sortL] using h0, fun k hk => .inl hk⟩
  · have hrow := h0
    obtain ⟨⟨_, hor⟩, hF0⟩ := h0
    rcases hor with ⟨_, h⟩ | ⟨b, cp, cur, hv, _, hh, _⟩
    · omega
    · cases hv
      have hb : b < w.heap.size := (Array.getElem?_eq_some_iff.1 hh).1
      have hH : Holds (Value.int .i64) w b 0 l.toArray := by
        have := row_Holds hrow (off := 0) (ys := i64s l) (fun j v hj => by rw [Nat.zero_add]; exact hj)
        intro j hj
        have h1 := this j (by simpa [i64s] using hj)
        have hj' : j < l.length := by simpa using hj
        simpa [i64s, hj'] using h1
      have h := AnyM.slices_Sort_int YtipoblpnkkcpgaaGreat.sortI b 0 c l w hH hb (by omega)
      refine Calls.mono h fun e w1 ⟨he, n, os, hw⟩ => ?_
      have e1 : (l.mergeSort (fun x y => decide (x ≤ y))).toArray.map (Value.int .i64) = (i64s (sortL l)).toArray := by simp [i64s, sortL]
      rw [putRow_map, e1] at hw
      have hsl : (i64s (sortL l)).length = (i64s l).length := by rw [i64s_length, i64s_length, sortL_length]
      refine ⟨(), trivial, he, ?_, F0, ?_, fun k hk => .inl hk⟩
      · subst hw
        exact (put_mod w b n 0 _ os).mono (fun k hk => (hF0 k).2 (by rw [hk]; rfl))
      · have := row_put (n := n) (os := os) hrow (off := 0) (ys := i64s (sortL l)) (by omega)
        rw [part_whole hsl] at this
        subst hw
        exact this

/-- slices.SortFunc of integers, at a part of a row; the order is asked for the integers of p alone. -/
theorem sortFuncI (p : Int → Prop) (cf : Int → Int → Int) (h1 : ∀ x, p x → ¬ cf x x < 0) (h2 : ∀ x y z, p x → p y → p z → cf x y < 0 → cf y z < 0 → cf x z < 0) (h3 : ∀ x y z, p x → p y → p z → ¬ cf x y < 0 → ¬ cf y z < 0 → ¬ cf x z < 0)
    (g : Nat) (cb : Array Value) (hg : Enters Tryz.prog g) (A : Option Addr) (b m cap off c2 : Nat) (e : TypeId) (xs : List Value) (l : List Int) (w : World) (F0 : Nat → Prop) (h0 : (row (.slice (some ⟨b, 0, none⟩) m cap) e 1 m xs).holds w F0)
    (hpt : ∀ j v, (i64s l)[j]? = some v → xs[off + j]? = some v) (hfit : off + l.length ≤ xs.length) (hl : ∀ x ∈ l, p x) (hlen : l.length ≤ 1099511627776) (hA : 0 < l.length → A = some ⟨b, off, none⟩)
    (hc : ∀ W, Mod (fun k => k = b) w W → ∀ x y, p x → p y → Calls Tryz.prog g (#[.int .i64 x, .int .i64 y] ++ cb) W fun e w' => e = .returned (.int .i64 (cf x y)) ∧ Gr W w') :
    Calls Tryz.prog 89 #[.slice A l.length c2, .func (.func g) #[] cb] w fun e' w1 => ∃ l' : List Int, (l'.Perm l ∧ l'.Pairwise (fun x y => ¬ cf y x < 0)) ∧ e' = .returned (.tuple #[]) ∧ Mod F0 w w1 ∧
      ∃ F', (row (.slice (some ⟨b, 0, none⟩) m cap) e 1 m (putAt xs (i64s l') off)).holds w1 F' ∧ ∀ k, F' k → F0 k ∨ (w.heap.size ≤ k ∧ k < w1.heap.size) := by
  have hrow := h0
  obtain ⟨⟨_, hor⟩, hF0⟩ := h0
  rcases Nat.eq_zero_or_pos l.length with hz | hz
  · obtain rfl := List.eq_nil_of_length_eq_zero hz
    refine (AnyF.slices_SortFunc_none { YtipoblpnkkcpgaaGreat.sortFI with } A c2 (.func (.func g) #[] cb) w).mono fun e' w1 ⟨he, hw⟩ => ?_
    subst hw
    exact ⟨[], ⟨List.Perm.refl _, List.Pairwise.nil⟩, he, Mod.refl _ _, F0, by simpa [putAt, i64s] using hrow, fun k hk => .inl hk⟩
  · obtain rfl := hA hz
    rcases hor with ⟨h, _⟩ | ⟨b', cp, cur, hv, _, hh, _⟩
    · cases h
    · cases hv
      have hb : b < w.heap.size := (Array.getElem?_eq_some_iff.1 hh).1
      letI : Inhabited {x : Int // p x} := ⟨⟨l[0], hl _ (by simp)⟩⟩
      let enc : {x : Int // p x} → Value := fun x => .int .i64 x.1
      let dl : List {x : Int // p x} := l.attach.map (fun x => ⟨x.1, hl x.1 x.2⟩)
      have hdl : dl.map (·.1) = l := by simp [dl]
      have hdlen : dl.length = l.length := by simp [dl]
      have henc : ∀ d : List {x : Int // p x}, d.toArray.map enc = (i64s (d.map (·.1))).toArray := by intro d; simp [enc, i64s, Function.comp_def]
      have hH : Holds enc w b off dl.toArray := by
        have h := row_Holds hrow (off := off) (ys := i64s l) hpt
        intro j hj
        have hj' : j < dl.length := by simpa using hj
        have h1 := h j (by simp [i64s]; omega)
        refine ⟨h1.1.trans ?_, h1.2⟩
        have hjl : j < l.length := by omega
        simp [i64s, hjl, dl, enc]
      have hO : SWO (Go.Proofs.ltOf (fun x y : {x : Int // p x} => cf x.1 y.1)) :=
        ⟨fun x => by unfold ltOf; simpa using h1 x.1 x.2, fun x y z a b => by unfold ltOf at *; simp only [decide_eq_true_eq] at *; exact h2 _ _ _ x.2 y.2 z.2 a b,
         fun x y z a b => by unfold ltOf at *; simp only [decide_eq_false_iff_not] at *; exact h3 _ _ _ x.2 y.2 z.2 a b⟩
      have hcmp : CmpLays1 Tryz.prog g cb enc (fun x y => cf x.1 y.1) b off dl.toArray.size w := by
        intro m' os dk _ x y
        refine (hc _ ?_ x.1 y.1 x.2 y.2).mono fun e' w' ⟨he, hgr⟩ => ⟨he, gr_grow hgr⟩
        show Mod _ w (sortWorld enc w b off m' dk os)
        unfold sortWorld
        rw [putRow_map]
        exact put_mod w b m' off _ os
      have h := Any.slices_SortFunc YtipoblpnkkcpgaaGreat.sortFI enc (fun _ => rfl) (fun x y => cf x.1 y.1) hO g cb b off c2 dl.toArray w hg hcmp hH hb (by simp; omega)
      rw [show dl.toArray.size = l.length by simp [hdlen]] at h
      refine Calls.mono h fun e' w1 ⟨he, d', n, os, hp, hs, hw⟩ => ?_
      have hsz : dl.toArray.size = l.length := by simp [hdlen]
      rw [← hsz] at hp hs
      have hpl := permL hp
      have hsl := sortedL hp.1 hs
      have hl' : (d'.toList.map (·.1)).Perm l := by rw [← hdl]; simpa using hpl.map (·.1)
      refine ⟨d'.toList.map (·.1), ⟨hl', List.pairwise_map.2 (hsl.imp (fun {a b} h => by unfold ltOf at h; simpa using h))⟩, he, ?_, F0, ?_, fun k hk => .inl hk⟩
      · subst hw
        unfold sortWorld
        rw [putRow_map]
        exact (put_mod w b n off _ os).mono (fun k hk => (hF0 k).2 (by rw [hk]; rfl))
      · subst hw
        unfold sortWorld
        have e1 : d'.map enc = (i64s (d'.toList.map (·.1))).toArray := by have := henc d'.toList; simpa using this
        rw [putRow_map, e1]
        exact row_put hrow (by rw [i64s_length, hl'.length_eq]; exact hfit)
end Go.Proofs.YtipoblpnkkcpgaaGreat
