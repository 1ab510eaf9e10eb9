/-
  Arguments read: a slice of edges.
-/
import Derived.Test.YtipoblpnkkcpgaaGreatModel
import Derived.Deep.Slices
import Derived.Deep.Strs
import Derived.Deep.SlicePairs
set_option linter.unusedVariables false
set_option linter.unusedSimpArgs false
namespace Go.Proofs.YtipoblpnkkcpgaaGreat
open Go Go.RowKit Go.Proofs.YtipoblpnkkcpgaaGreat.B
theorem mapM_cells {w : World} {a : Addr} {cs : List Value} (h : (List.range 3).mapM (fun i => w.cell? (a.add i)) = some cs) : ∃ x y z, cs = [x, y, z] ∧ w.cell? (a.add 0) = some x ∧ w.cell? (a.add 1) = some y ∧ w.cell? (a.add 2) = some z := by
  rw [show List.range 3 = [0, 1, 2] from rfl] at h
  simp only [List.mapM_cons, List.mapM_nil, bind, Option.bind_eq_some_iff, pure, Option.some.injEq] at h
  obtain ⟨x, hx, _, ⟨y, hy, _, ⟨z, hz, _, rfl, rfl⟩, rfl⟩, rfl⟩ := h
  exact ⟨x, y, z, rfl, hx, hy, hz⟩
theorem exists_list {α : Type} (p : Nat → α → Prop) : ∀ n : Nat, (∀ i, i < n → ∃ x, p i x) → ∃ l : List α, l.length = n ∧ ∀ i x, l[i]? = some x → p i x
  | 0, _ => ⟨[], rfl, fun i x h => by simp at h⟩
  | n + 1, h => by
    obtain ⟨l, hl, hp⟩ := exists_list p n (fun i hi => h i (by omega))
    obtain ⟨y, hy⟩ := h n (by omega)
    refine ⟨l ++ [y], by simp [hl], fun i x hx => ?_⟩
    rw [List.getElem?_append] at hx
    split at hx
    · exact hp i x hx
    · rename_i hi
      have : i = n := by
        have := (List.getElem?_eq_some_iff.1 hx).1
        simp at this; omega
      subst this
      rw [hl, Nat.sub_self] at hx
      simp at hx; subst hx; exact hy
structure WfE (e : Edg) : Prop where
  u : (Lit.int .i64 e.u).wf = true
  v : (Lit.int .i64 e.v).wf = true
  w : (Lit.int .i64 e.w).wf = true
theorem readE {H : Type} {enc : TypeId × Value → H} {w : World} {base : Nat} {spare : Nat → Bool} {held : Bool} {fuel : Nat} {cs : List Value} {x : DataW H × List MemPlace}
    (h : DataW.trod enc Tryz.prog w base spare held fuel 22 cs = some x) : ∃ (A : Option Addr) (c : Nat) (l : List Edg), cs = [.slice A l.length c] ∧ (l.length ≤ 4611686018427387904 → Rd w A 3 l.length (cellsE l)) ∧ ∀ e ∈ l, WfE e := by
  rcases Deep.open_slice Tryz.underlying22 h with ⟨rfl, _⟩ | ⟨a, len, cap, m, n, D, Pl, rfl, hb, hl, hm, hmm, _, hx⟩
  · exact ⟨none, 0, [], rfl, fun _ => Rd.nil _ _ _, by simp⟩
  · have hcE : Tryz.prog.cellsOf 79 = 3 := by kernel_rfl
    have hcI : Tryz.prog.cellsOf 3 = 1 := by kernel_rfl
    have hcJ : Tryz.prog.cellsOf 2 = 1 := by kernel_rfl
    have hlm : len ≤ m := by rw [hmm]; split <;> omega
    have hall : ∀ i, i < len → ∃ e : Edg, WfE e ∧ ∀ j v, (encE e)[j]? = some v → w.cell? ((a.add (i * 3)).add j) = some v := by
      intro i hi
      obtain ⟨cs', h1, h2⟩ := hx i (by omega)
      rw [hcE] at h1
      unfold World.cells? at h1
      split at h1
      · obtain ⟨x, y, z, rfl, c0, c1, c2⟩ := mapM_cells h1
        obtain ⟨y0, y1, y2, n', _, _, t0, t1, t2⟩ := Deep.trod_struct3 Tryz.underlying79 h2
        simp only [hcI, hcJ] at t0 t1 t2
        obtain ⟨i0, e0, _, w0⟩ := DataW.trod_int Tryz.underlying3 t0
        obtain ⟨i1, e1, _, w1⟩ := DataW.trod_int Tryz.underlying3 t1
        obtain ⟨i2, e2, _, w2⟩ := DataW.trod_int Tryz.underlying2 t2
        simp at e0 e1 e2
        subst e0; subst e1; subst e2
        refine ⟨⟨i0, i1, i2⟩, ⟨w0, w1, w2⟩, fun j v hj => ?_⟩
        match j, hj with
        | 0, hj => simp [encE] at hj; subst hj; exact c0
        | 1, hj => simp [encE] at hj; subst hj; exact c1
        | 2, hj => simp [encE] at hj; subst hj; exact c2
      · cases h1
    obtain ⟨l, hl', hp⟩ := exists_list _ len hall
    subst hl'
    refine ⟨some a, cap, l, rfl, fun hle => ⟨cellsE_length l, hle, fun h0 => ?_⟩, fun e he => ?_⟩
    · obtain ⟨e0, he0⟩ : ∃ e, l[0]? = some e := ⟨_, List.getElem?_eq_getElem h0⟩
      have hc0 := (hp 0 e0 he0).2 0 _ rfl
      obtain ⟨bb, oo, ss⟩ := a
      have hss : ss = none := by
        cases ss with
        | none => rfl
        | some q => simp [Addr.add, World.cell?] at hc0; split at hc0 <;> simp_all
      subst hss
      refine ⟨bb, oo, rfl, ?_, fun j u hj => ?_⟩
      · rw [add_plain', add_plain'] at hc0
        unfold World.cell? at hc0
        split at hc0
        · rename_i hq; exact (Array.getElem?_eq_some_iff.1 hq).1
        · cases hc0
      · have hjl : j < l.length * 3 := by rw [← cellsE_length]; exact (List.getElem?_eq_some_iff.1 hj).1
        obtain ⟨e, he⟩ : ∃ e, l[j / 3]? = some e := ⟨_, List.getElem?_eq_getElem (by omega)⟩
        have h3 : j % 3 < 3 := Nat.mod_lt _ (by omega)
        have hg : (encE e)[j % 3]? = some ((encE e)[j % 3]'(by simp [encE]; exact h3)) := List.getElem?_eq_getElem _
        have hc := cellsE_get l (j / 3) e he (j % 3) _ hg
        rw [show j / 3 * 3 + j % 3 = j by omega, hj] at hc
        have := (hp (j / 3) e he).2 (j % 3) _ hg
        rw [add_plain', add_plain', Nat.add_assoc, show j / 3 * 3 + j % 3 = j by omega] at this
        rw [this, hc]
    · obtain ⟨i, hi, rfl⟩ := List.mem_iff_getElem.1 he
      exact (hp i _ (List.getElem?_eq_getElem hi)).1
/-- A slice of integers. -/
theorem readInts {t e : TypeId} {P : Program} (ht : P.underlying t = some (.slice e)) (he : P.underlying e = some (.int .i64)) (hc : P.cellsOf e = 1) {H : Type} {enc : TypeId × Value → H} {w : World} {base : Nat} {spare : Nat → Bool} {held : Bool} {fuel : Nat} {cs : List Value} {x : DataW H × List MemPlace}
    (h : DataW.trod enc P w base spare held fuel t cs = some x) : ∃ (A : Option Addr) (c : Nat) (l : List Int), cs = [.slice A l.length c] ∧ (l.length ≤ 4611686018427387904 → Rd w A 1 l.length (i64s l)) ∧ ∀ z ∈ l, (Lit.int .i64 z).wf = true := by
  rcases Go.ChangeShapes.open_ints ht he hc h with ⟨rfl, _⟩ | ⟨a, len, cap, zs, rfl, hb, hl, hm, hz, _, hcell, hwf⟩
  · exact ⟨none, 0, [], rfl, fun _ => Rd.nil _ _ _, by simp⟩
  · have hlz : len ≤ zs.length := by rw [hz]; split <;> omega
    have htl : (zs.take len).length = len := by simp; omega
    refine ⟨some a, cap, zs.take len, by rw [htl], fun hle => ⟨by rw [i64s_length]; omega, hle, fun h0 => ?_⟩, fun z hz' => hwf z (List.mem_of_mem_take hz')⟩
    rw [htl] at h0
    have hc0 := hcell 0 (by omega)
    obtain ⟨bb, oo, ss⟩ := a
    have hss : ss = none := by
      cases ss with
      | none => rfl
      | some q => simp [Addr.add, World.cell?] at hc0; split at hc0 <;> simp_all
    subst hss
    refine ⟨bb, oo, rfl, ?_, fun j u hj => ?_⟩
    · rw [add_plain'] at hc0
      unfold World.cell? at hc0
      split at hc0
      · rename_i hq; exact (Array.getElem?_eq_some_iff.1 hq).1
      · cases hc0
    · have hjl : j < len := by have := (List.getElem?_eq_some_iff.1 hj).1; rw [i64s_length, htl] at this; exact this
      have hx : (zs.take len)[j]? = some zs[j] := by rw [List.getElem?_take_of_lt hjl]; exact List.getElem?_eq_getElem (by omega)
      rw [i64s_get _ _ _ hx] at hj
      cases hj
      have := hcell j (by omega)
      rw [add_plain'] at this
      rw [this, List.getD_eq_getElem?_getD, List.getElem?_eq_getElem (by omega)]; rfl
section
variable {H : Type} {enc : TypeId × Value → H} {P : Program} {w : World} {base : Nat} {spare : Nat → Bool} {held : Bool}
theorem trod_struct4 {t : TypeId} {f0 f1 f2 f3 : Field} {fuel : Nat} {cs : List Value} {x : DataW H × List MemPlace} (ht : P.underlying t = some (.struct #[f0, f1, f2, f3])) (h : DataW.trod enc P w base spare held fuel t cs = some x) :
    ∃ y0 y1 y2 y3 n, cs.length = P.cellsOf t ∧ DataW.trod enc P w base spare held n f0.type ((cs.drop f0.offset).take (P.cellsOf f0.type)) = some y0 ∧
      DataW.trod enc P w base spare held n f1.type ((cs.drop f1.offset).take (P.cellsOf f1.type)) = some y1 ∧ DataW.trod enc P w base spare held n f2.type ((cs.drop f2.offset).take (P.cellsOf f2.type)) = some y2 ∧ DataW.trod enc P w base spare held n f3.type ((cs.drop f3.offset).take (P.cellsOf f3.type)) = some y3 := by
  obtain ⟨xs, n, _, rfl, hl, hlen, hf⟩ := DataW.trod_struct ht h
  match xs, hlen with
  | [y0, y1, y2, y3], _ => exact ⟨y0, y1, y2, y3, n, hl, by simpa using hf 0 f0 rfl, by simpa using hf 1 f1 rfl, by simpa using hf 2 f2 rfl, by simpa using hf 3 f3 rfl⟩
end
theorem bd_i64 {x : Int} (h : (Lit.int .i64 x).wf = true) : -9223372036854775808 ≤ x ∧ x ≤ 9223372036854775807 := by
  rw [Lit.wf, Bool.and_eq_true, decide_eq_true_eq, decide_eq_true_eq, IntKind.min, IntKind.max] at h; simp [IntKind.bits, IntKind.signed] at h; omega
theorem bd_u8 {x : Int} (h : (Lit.int .u8 x).wf = true) : 0 ≤ x ∧ x ≤ 255 := by
  rw [Lit.wf, Bool.and_eq_true, decide_eq_true_eq, decide_eq_true_eq, IntKind.min, IntKind.max] at h; simp [IntKind.bits, IntKind.signed] at h; omega
end Go.Proofs.YtipoblpnkkcpgaaGreat
