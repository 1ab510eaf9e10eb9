/-
  A part of a row, laid anew: what the shelf's sorts leave, in the proof system's words.
-/
import Derived.Test.YtipoblpnkkcpgaaGreatMaps
import Derived.Sort.Grow
set_option linter.unusedVariables false
set_option linter.unusedSimpArgs false
namespace Go.Proofs.YtipoblpnkkcpgaaGreat.B
open Go Go.RowKit
open Go.Sort (Holds putRow putCells mapBlock onCells grow)

def putAt (xs ys : List Value) (off : Nat) : List Value := xs.take off ++ ys ++ xs.drop (off + ys.length)
theorem part_length {xs ys : List Value} {off : Nat} (h : off + ys.length ≤ xs.length) : (putAt xs ys off).length = xs.length := by
  simp [putAt]; omega
theorem part_get {xs ys : List Value} {off : Nat} (h : off + ys.length ≤ xs.length) (k : Nat) : (putAt xs ys off)[k]? = if off ≤ k ∧ k < off + ys.length then ys[k - off]? else xs[k]? := by
  unfold putAt
  rw [List.append_assoc, List.getElem?_append]
  have hl : (xs.take off).length = off := by simp; omega
  rw [hl]
  by_cases h1 : k < off
  · rw [if_pos h1, if_neg (by omega), List.getElem?_take_of_lt h1]
  · rw [if_neg h1, List.getElem?_append]
    by_cases h2 : k - off < ys.length
    · rw [if_pos h2, if_pos (by omega)]
    · rw [if_neg h2, if_neg (by omega), List.getElem?_drop]
      congr 1; omega
theorem part_take {xs ys : List Value} {off : Nat} (h : off ≤ xs.length) : (putAt xs ys off).take off = xs.take off := by
  unfold putAt
  have hl : (xs.take off).length = off := by simp; omega
  rw [List.append_assoc, List.take_append_of_le_length (by omega), List.take_take, Nat.min_self]
theorem part_whole {xs ys : List Value} (h : ys.length = xs.length) : putAt xs ys 0 = ys := by
  unfold putAt; rw [List.take_zero, List.drop_eq_nil_of_le (by omega)]; simp
theorem row_Holds {w : World} {F : Nat → Prop} {b cap off : Nat} {e : TypeId} {s m : Nat} {xs ys : List Value} (h : (row (.slice (some ⟨b, 0, none⟩) m cap) e s m xs).holds w F) (hy : ∀ j v, ys[j]? = some v → xs[off + j]? = some v) :
    Holds id w b off ys.toArray := by
  intro j hj
  have hj' : j < ys.length := by simpa using hj
  refine ⟨?_, row_frozen h⟩
  have := row_cell h (hy j ys[j] (List.getElem?_eq_getElem hj'))
  rw [this]
  simp [hj']
theorem put_heap {w : World} {b n off : Nat} {ds : Array Value} {os : Array Obj} {cur : Array Value} {e : TypeId} {fr : Nat × Nat} (hb : w.heap[b]? = some (.cells cur e fr)) :
    (grow (putRow id (Go.Sort.ahead w n) b off ds) os).heap[b]? = some (.cells (putCells id off ds cur) e fr) := by
  have hg : b < w.heap.size := (Array.getElem?_eq_some_iff.1 hb).1
  show ((putRow id (Go.Sort.ahead w n) b off ds).heap ++ os)[b]? = _
  rw [Array.getElem?_append_left (by simp [putRow, mapBlock, Go.Sort.ahead]; exact hg)]
  simp [putRow, mapBlock, Go.Sort.ahead, Array.getElem?_modify, hb, onCells]
theorem put_mod (w : World) (b n off : Nat) (ds : Array Value) (os : Array Obj) : Mod (fun k => k = b) w (grow (putRow id (Go.Sort.ahead w n) b off ds) os) := by
  refine ⟨rfl, rfl, rfl, by simp [grow, putRow, mapBlock, Go.Sort.ahead], fun k hk hne => ?_, Nat.le_add_right _ _⟩
  show ((putRow id (Go.Sort.ahead w n) b off ds).heap ++ os)[k]? = _
  rw [Array.getElem?_append_left (by simp [putRow, mapBlock, Go.Sort.ahead]; exact hk)]
  simp [putRow, mapBlock, Go.Sort.ahead, Array.getElem?_modify, Ne.symm hne]
theorem row_put {w : World} {F : Nat → Prop} {b cap off n : Nat} {e : TypeId} {s m : Nat} {xs ys : List Value} {os : Array Obj} (h : (row (.slice (some ⟨b, 0, none⟩) m cap) e s m xs).holds w F) (hy : off + ys.length ≤ xs.length) :
    (row (.slice (some ⟨b, 0, none⟩) m cap) e s m (putAt xs ys off)).holds (grow (putRow id (Go.Sort.ahead w n) b off ys.toArray) os) F := by
  obtain ⟨⟨hl, hor⟩, hF⟩ := h
  refine ⟨⟨by rw [part_length hy, hl], ?_⟩, hF⟩
  rcases hor with ⟨h0, _⟩ | ⟨g, cp, cur, hv, hg, hh, hn, hmx, hc, ht⟩
  · cases h0
  · cases hv
    refine .inr ⟨_, _, putCells id off ys.toArray cur, rfl, hg, put_heap hh, hn, hmx, by simp [putCells, hc], ?_⟩
    have hml : m * s ≤ cur.size := by rw [hc]; exact Nat.mul_le_mul_right s hn
    apply List.ext_getElem?
    intro k
    rw [part_get hy]
    by_cases hk : k < m * s
    · rw [List.getElem?_take_of_lt hk, Array.getElem?_toList]
      have hx : xs[k]? = cur[k]? := by rw [← ht, List.getElem?_take_of_lt hk, Array.getElem?_toList]
      simp only [putCells, Array.getElem?_mapIdx, List.size_toArray]
      by_cases hq : off ≤ k ∧ k < off + ys.length
      · rw [if_pos hq]
        have hkc : k < cur.size := by omega
        simp [hq, hkc]
        rw [List.getElem?_eq_getElem (by omega)]; simp
      · rw [if_neg hq, hx]
        cases cur[k]? with
        | none => rfl
        | some y => simp [hq]
    · rw [List.getElem?_take_eq_none (by omega), if_neg (by omega), List.getElem?_eq_none (by omega)]

theorem row_storeCells (P : Program) {w : World} {F : Nat → Prop} {b cap o : Nat} {e : TypeId} {s m : Nat} {xs vs : List Value} (h : (row (.slice (some ⟨b, 0, none⟩) m cap) e s m xs).holds w F) (ho : o + vs.length ≤ xs.length) (h1 : ∀ v ∈ vs, v.oneCell' = true) :
    ∃ w', (storeCells ⟨b, o, none⟩ vs).run P w = .ok () w' ∧ Mod (fun k => k = b) w w' ∧ (row (.slice (some ⟨b, 0, none⟩) m cap) e s m (putAt xs vs o)).holds w' F := by
  obtain ⟨⟨hl, hor⟩, hF⟩ := h
  rcases hor with ⟨h0, _⟩ | ⟨g, cp, cur, hv, hg, hh, hn, hmx, hc, ht⟩
  · cases h0
  · cases hv
    have hml : m * s ≤ cur.size := by rw [hc]; exact Nat.mul_le_mul_right s hn
    have hrun := run_storeCells_at P b o e vs 0 cur w hh (by omega) h1
    simp only [Nat.add_zero] at hrun
    refine ⟨_, hrun, mod_setRow _ _ _, ⟨by rw [part_length ho, hl], .inr ⟨_, _, _, rfl, hg, setRow_heap _ _ _ _ _ _ hh, hn, hmx, ?_, ?_⟩⟩, hF⟩
    · simp; omega
    · show (putAt cur.toList vs o).take (m * s) = _
      apply List.ext_getElem?
      intro k
      by_cases hk : k < m * s
      · rw [List.getElem?_take_of_lt hk, part_get (by simp; omega), part_get ho]
        split
        · rfl
        · rw [← ht, List.getElem?_take_of_lt hk]
      · rw [List.getElem?_take_eq_none (by omega), List.getElem?_eq_none (by rw [part_length ho]; omega)]
section
variable {P : Program} {n : Nat} {w0 : World} {F0 : Nat → Prop} {L : Env} {H : List Ass}
variable {dst : Option Tmp} {ty : TypeId} {pos : String} {aft : Array Edge} {g : Option (Nat × Bool)}
theorem Ow.storeRowK {t : TypeId} {x y : Operand} {b o cap : Nat} {e : TypeId} {s m : Nat} {xs vs : List Value} (i : Nat) (hz : ∀ w, (sizeOf t).run P w = .ok vs.length w) (hx : L.ev x = some (.pointer (some ⟨b, o, none⟩))) (hy : L.ev y = some (.agg vs.toArray)) (hv : (vs.all fun v => v.oneCell') = true)
    (hi : H[i]? = some (row (.slice (some ⟨b, 0, none⟩) m cap) e s m xs)) (ho : o + vs.length ≤ xs.length) :
    Ow P n w0 F0 ⟨dst, .store t x y, ty, pos, aft, g⟩ L H (fun u H' => u = undef ∧ H' = H.set i (row (.slice (some ⟨b, 0, none⟩) m cap) e s m (putAt xs vs o))) := by
  intro a w hf hs K Q hK
  obtain ⟨F, h1, _⟩ := hs.get i hi
  obtain ⟨w', hrun, _, _⟩ := row_storeCells P h1 ho (fun v hvm => List.all_eq_true.1 hv v hvm)
  unfold Oper.wp execOp
  simp [hf.ev hx, hf.ev hy, Instr.storeAt, Instr.sureAddr, storeVar, Value.cells, hz, hrun]
  refine hK _ _ _ ⟨rfl, rfl⟩ (hs.set i hi (fun F h1 => ?_))
  obtain ⟨w'', hrun', hm, hr⟩ := row_storeCells P h1 ho (fun v hvm => List.all_eq_true.1 hv v hvm)
  rw [hrun] at hrun'
  cases hrun'
  exact ⟨hm.mono (fun k hk => (h1.2 k).2 (by rw [hk]; rfl)), F, hr, fun k hk => .inl hk⟩
theorem zeroCells_one (z : Array Value) (k : Nat) (hz : (z.toList.all fun v => v.oneCell') = true) : ∀ v ∈ (Builtin.zeroCells z k).toList, v.oneCell' = true := by
  intro v hv
  simp [Builtin.zeroCells] at hv
  obtain ⟨i, hi, rfl⟩ := hv
  have h0 : 0 < z.size := by rcases Nat.eq_zero_or_pos z.size with h | h <;> simp_all
  have hlt : i % z.size < z.size := Nat.mod_lt _ h0
  have hq := getElem!_pos z (i % z.size) hlt
  rw [hq]
  exact List.all_eq_true.1 hz _ (by simp)
theorem Ow.clear {t e e' : TypeId} {x : Operand} {z : Value} {b o k c cap : Nat} {s m : Nat} {xs : List Value} (i : Nat) (hu : P.underlying t = some (.slice e)) (hz : ∀ w, (zeroValue e).run P w = .ok z w) (hs : z.cells.size = s) (hz1 : (z.cells.toList.all fun v => v.oneCell') = true)
    (hx : L.ev x = some (.slice (some ⟨b, o, none⟩) k c)) (hi : H[i]? = some (row (.slice (some ⟨b, 0, none⟩) m cap) e' s m xs)) (ho : o + k * s ≤ xs.length) :
    Ow P n w0 F0 ⟨dst, .call ⟨.builtin .clear, #[x], #[t]⟩, ty, pos, aft, g⟩ L H (fun u H' => ∃ zs, zs.length = k * s ∧ H' = H.set i (row (.slice (some ⟨b, 0, none⟩) m cap) e' s m (putAt xs zs o))) := by
  intro a w hf hst K Q hK
  obtain ⟨F, h1, _⟩ := hst.get i hi
  rcases Nat.eq_zero_or_pos k with h0 | h0
  · subst h0
    unfold Oper.wp execOp
    simp [hf.ev hx, resolve, invoke, builtin, Builtin.clear_, run_underlying hu]
    exact hK _ _ _ ⟨[], by simp, rfl⟩ (by
      rw [show putAt xs [] o = xs by simp [putAt]]
      have : H.set i (row (.slice (some ⟨b, 0, none⟩) m cap) e' s m xs) = H := by
        apply List.ext_getElem?
        intro j
        rw [List.getElem?_set]
        split
        · rename_i h; subst h; rw [hi, if_pos (List.getElem?_eq_some_iff.1 hi).1]
        · rfl
      rw [this]; exact hst)
  · have hlen : (Builtin.zeroCells z.cells k).toList.length = k * s := by simp [Builtin.zeroCells, hs]
    obtain ⟨w', hrun, _, _⟩ := row_storeCells P h1 (vs := (Builtin.zeroCells z.cells k).toList) (o := o) (by rw [hlen]; exact ho) (zeroCells_one _ _ hz1)
    obtain ⟨k, rfl⟩ : ∃ q, k = q + 1 := ⟨k - 1, by omega⟩
    unfold Oper.wp execOp
    simp [hf.ev hx, resolve, invoke, builtin, Builtin.clear_, run_underlying hu, hz, hrun]
    refine hK _ _ _ ⟨_, hlen, rfl⟩ (hst.set i hi (fun F h1 => ?_))
    obtain ⟨w'', hrun', hm, hr⟩ := row_storeCells P h1 (vs := (Builtin.zeroCells z.cells (k + 1)).toList) (o := o) (by rw [hlen]; exact ho) (zeroCells_one _ _ hz1)
    rw [hrun] at hrun'
    cases hrun'
    exact ⟨hm.mono (fun k hk => (h1.2 k).2 (by rw [hk]; rfl)), F, hr, fun k hk => .inl hk⟩
theorem Ow.sliceTo {t e : TypeId} {x : Operand} {hi : Operand} {k' : IntKind} {b o len cap s : Nat} {h : Int} (hu : P.underlying t = some (.slice e)) (hz : ∀ w, (sizeOf e).run P w = .ok s w)
    (hx : L.ev x = some (.slice (some ⟨b, o, none⟩) len cap)) (hhi : L.ev hi = some (.int k' h)) (h0 : 0 ≤ h) (h2 : h ≤ cap) :
    Ow P n w0 F0 ⟨dst, .slice t x none (some hi) none, ty, pos, aft, g⟩ L H (fun v H' => v = .slice (some ⟨b, o, none⟩) h.toNat cap ∧ H' = H) := by
  intro a w hf hs K Q hK
  have he : P.elem t = e := by simp [Program.elem, hu]
  have hu' : P.underlying t = some (.slice (P.elem t)) := by rw [he]; exact hu
  unfold Oper.wp execOp
  simp [hf.ev hx, hf.ev hhi, run_sliceAt_slice w t _ _ _ _ hu', run_slice_h w t _ len cap hu' k' h h0 h2, he, hz, sliced]
  refine hK _ _ _ ⟨?_, rfl⟩ hs
  simp [add_plain']
theorem Ow.sliceFrom {t e : TypeId} {x : Operand} {lo : Operand} {k : IntKind} {b o len cap s : Nat} {l : Int} (hu : P.underlying t = some (.slice e)) (hz : ∀ w, (sizeOf e).run P w = .ok s w)
    (hx : L.ev x = some (.slice (some ⟨b, o, none⟩) len cap)) (hlo : L.ev lo = some (.int k l)) (h0 : 0 ≤ l) (h1 : l ≤ len) :
    Ow P n w0 F0 ⟨dst, .slice t x (some lo) none none, ty, pos, aft, g⟩ L H (fun v H' => ∃ A, v = .slice A (len - l.toNat) (cap - l.toNat) ∧ (l < cap → A = some ⟨b, o + l.toNat * s, none⟩) ∧ H' = H) := by
  intro a w hf hs K Q hK
  have he : P.elem t = e := by simp [Program.elem, hu]
  have hu' : P.underlying t = some (.slice (P.elem t)) := by rw [he]; exact hu
  unfold Oper.wp execOp
  simp [hf.ev hx, hf.ev hlo, run_sliceAt_slice w t _ _ _ _ hu', run_slice_l w t _ len cap hu' k l h0 h1, he, hz, sliced]
  refine hK _ _ _ ⟨_, rfl, fun hlt => ?_, rfl⟩ hs
  rw [if_neg (by omega), add_plain']
/-- A row, cut short. -/
theorem row_take {w : World} {F : Nat → Prop} {A : Option Addr} {cap : Nat} {e : TypeId} {s m j : Nat} {xs : List Value} (h : (row (.slice A m cap) e s m xs).holds w F) (hj : j ≤ m) (hA : A ≠ none) : (row (.slice A j cap) e s j (xs.take (j * s))).holds w F := by
  obtain ⟨⟨hl, hor⟩, hF⟩ := h
  have hjs : j * s ≤ m * s := Nat.mul_le_mul_right s hj
  rcases hor with ⟨h0, _⟩ | ⟨g, cp, cur, hv, hg, hh, hn, hmx, hc, ht⟩
  · cases h0; exact absurd rfl hA
  · cases hv
    exact ⟨⟨by simp; omega, .inr ⟨_, _, _, rfl, hg, hh, by omega, hmx, hc, by rw [← ht, List.take_take, Nat.min_eq_left hjs]⟩⟩, hF⟩
theorem St.row_le {w : World} (hs : St w0 F0 w H) (i : Nat) {b cap : Nat} {e : TypeId} {s m : Nat} {xs : List Value} (hi : H[i]? = some (row (.slice (some ⟨b, 0, none⟩) m cap) e s m xs)) : m ≤ cap := by
  obtain ⟨F, ⟨⟨_, hor⟩, _⟩, _⟩ := hs.get i hi
  rcases hor with ⟨h0, _⟩ | ⟨g, cp, cur, hv, hg, hh, hn, _⟩
  · cases h0
  · cases hv; exact hn
theorem St.row_take {w : World} (hs : St w0 F0 w H) (i : Nat) {A : Option Addr} {cap : Nat} {e : TypeId} {s m : Nat} {xs : List Value} (j : Nat) (hi : H[i]? = some (row (.slice A m cap) e s m xs)) (hj : j ≤ m) (hA : A ≠ none) : St w0 F0 w (H.set i (row (.slice A j cap) e s j (xs.take (j * s)))) :=
  hs.conv i hi (fun F h => B.row_take h hj hA)
end
end Go.Proofs.YtipoblpnkkcpgaaGreat.B
