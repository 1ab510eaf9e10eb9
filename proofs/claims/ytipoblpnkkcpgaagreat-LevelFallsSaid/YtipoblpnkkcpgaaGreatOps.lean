/-
  The operations, one law each, over the proof system's frames and memory.
-/
import Derived.Test.YtipoblpnkkcpgaaGreatRules
import Derived.Maps.AppendAt
import Derived.Laws.CopyRow
import Derived.Lib.SliceRun
set_option linter.unusedVariables false
set_option linter.unusedSimpArgs false
namespace Go.Proofs.YtipoblpnkkcpgaaGreat.B
open Go Go.RowKit

section
variable {P : Program} {n : Nat} {w0 : World} {F0 : Nat → Prop} {L : Env} {H : List Ass}
variable {dst : Option Tmp} {ty : TypeId} {pos : String} {aft : Array Edge} {g : Option (Nat × Bool)}

theorem add_plain' (b o k : Nat) : (⟨b, o, none⟩ : Addr).add k = ⟨b, o + k, none⟩ := by unfold Addr.add; split <;> simp_all

/-! ### What only computes -/
theorem Yv.move {x : Operand} {v : Value} (hx : L.ev x = some v) : Yv P n w0 F0 ⟨dst, .move x, ty, pos, aft, g⟩ L H v := by
  intro a w hf hs; simp [execOp, hf.ev hx]
theorem Yv.assign {x : Operand} {v : Value} (hx : L.ev x = some v) : Yv P n w0 F0 ⟨dst, .assign x, ty, pos, aft, g⟩ L H v := by
  intro a w hf hs; simp [execOp, hf.ev hx]
theorem Yv.pickT {c x y : Operand} {v : Value} (hc : L.ev c = some (.bool true)) (hx : L.ev x = some v) : Yv P n w0 F0 ⟨dst, .pick c x y, ty, pos, aft, g⟩ L H v := by
  intro a w hf hs; simp [execOp, hf.ev hx, hf.ev hc, asBool]
theorem Yv.pickF {c x y : Operand} {v : Value} (hc : L.ev c = some (.bool false)) (hy : L.ev y = some v) : Yv P n w0 F0 ⟨dst, .pick c x y, ty, pos, aft, g⟩ L H v := by
  intro a w hf hs; simp [execOp, hf.ev hy, hf.ev hc, asBool]
theorem Yv.extract {x : Operand} {k : Nat} {vs : List Value} {v : Value} (hx : L.ev x = some (.tuple vs.toArray)) (hv : vs[k]? = some v) : Yv P n w0 F0 ⟨dst, .extract x k, ty, pos, aft, g⟩ L H v := by
  intro a w hf hs; simp [execOp, hf.ev hx, Instr.extract, hv]
theorem Yv.nilCheck {x : Operand} {ad : Addr} (hx : L.ev x = some (.pointer (some ad))) : Yv P n w0 F0 ⟨dst, .nilCheck x, ty, pos, aft, g⟩ L H (.pointer (some ad)) := by
  intro a w hf hs
  simp only [execOp, hf.ev hx]
  rfl
theorem Yv.fieldAddr {t : TypeId} {x : Operand} {i b o s : Nat} {fs : Array Field} {f : Field} (hu : P.underlying t = some (.struct fs)) (hi : fs[i]? = some f) (hz : ∀ w, (sizeOf f.type).run P w = .ok s w) (hs0 : Nat.beq s 0 = false)
    (hx : L.ev x = some (.pointer (some ⟨b, o, none⟩))) : Yv P n w0 F0 ⟨dst, .fieldAddr t x i, ty, pos, aft, g⟩ L H (.pointer (some ⟨b, o + f.offset, none⟩)) := by
  intro a w hf hs
  have : s ≠ 0 := fun e => by subst e; simp at hs0
  simp [execOp, hf.ev hx, Instr.fieldAt, run_underlying hu, hi, Instr.sureAddr, fieldPlace, hz, this, add_plain']
theorem Yv.index1 {t e : TypeId} {x i : Operand} {k : IntKind} {b o len cap : Nat} {X : Int} (hu : P.underlying t = some (.slice e)) (hz : ∀ w, (sizeOf e).run P w = .ok 1 w)
    (hx : L.ev x = some (.slice (some ⟨b, o, none⟩) len cap)) (hi : L.ev i = some (.int k X)) (h0 : 0 ≤ X) (h1 : X < len) :
    Yv P n w0 F0 ⟨dst, .indexAddr t x i, ty, pos, aft, g⟩ L H (.pointer (some ⟨b, o + X.toNat, none⟩)) := by
  intro a w hf hs
  simp [execOp, hf.ev hx, hf.ev hi, Instr.indexAt, run_underlying hu, asIntOf, hz, h0, h1, add_plain']
theorem Yv.index0 {t e : TypeId} {x i : Operand} {k : IntKind} {b len cap : Nat} {X : Int} (hu : P.underlying t = some (.slice e)) (hz : ∀ w, (sizeOf e).run P w = .ok 1 w)
    (hx : L.ev x = some (.slice (some ⟨b, 0, none⟩) len cap)) (hi : L.ev i = some (.int k X)) (h0 : 0 ≤ X) (h1 : X < len) :
    Yv P n w0 F0 ⟨dst, .indexAddr t x i, ty, pos, aft, g⟩ L H (.pointer (some ⟨b, X.toNat, none⟩)) := by
  have := Yv.index1 (n := n) (w0 := w0) (F0 := F0) (H := H) (dst := dst) (ty := ty) (pos := pos) (aft := aft) (g := g) hu hz hx hi h0 h1
  simpa using this
theorem Yv.indexK {t e : TypeId} {x i : Operand} {k : IntKind} {b o len cap s : Nat} {X : Int} (hu : P.underlying t = some (.slice e)) (hz : ∀ w, (sizeOf e).run P w = .ok s w)
    (hx : L.ev x = some (.slice (some ⟨b, o, none⟩) len cap)) (hi : L.ev i = some (.int k X)) (h0 : 0 ≤ X) (h1 : X < len) :
    Yv P n w0 F0 ⟨dst, .indexAddr t x i, ty, pos, aft, g⟩ L H (.pointer (some ⟨b, o + X.toNat * s, none⟩)) := by
  intro a w hf hs
  simp [execOp, hf.ev hx, hf.ev hi, Instr.indexAt, run_underlying hu, asIntOf, hz, h0, h1, add_plain']
theorem Yv.index0K {t e : TypeId} {x i : Operand} {k : IntKind} {b len cap s : Nat} {X : Int} (hu : P.underlying t = some (.slice e)) (hz : ∀ w, (sizeOf e).run P w = .ok s w)
    (hx : L.ev x = some (.slice (some ⟨b, 0, none⟩) len cap)) (hi : L.ev i = some (.int k X)) (h0 : 0 ≤ X) (h1 : X < len) :
    Yv P n w0 F0 ⟨dst, .indexAddr t x i, ty, pos, aft, g⟩ L H (.pointer (some ⟨b, X.toNat * s, none⟩)) := by
  have := Yv.indexK (n := n) (w0 := w0) (F0 := F0) (H := H) (dst := dst) (ty := ty) (pos := pos) (aft := aft) (g := g) hu hz hx hi h0 h1
  simpa using this
theorem Yv.indexA {t e : TypeId} {x i : Operand} {k : IntKind} {b o len s : Nat} {X : Int} (hu : P.underlying t = some (.array len e)) (hz : ∀ w, (sizeOf e).run P w = .ok s w)
    (hx : L.ev x = some (.pointer (some ⟨b, o, none⟩))) (hi : L.ev i = some (.int k X)) (h0 : 0 ≤ X) (h1 : X < len) :
    Yv P n w0 F0 ⟨dst, .indexAddr t x i, ty, pos, aft, g⟩ L H (.pointer (some ⟨b, o + X.toNat * s, none⟩)) := by
  intro a w hf hs
  simp [execOp, hf.ev hx, hf.ev hi, Instr.indexAt, run_underlying hu, asIntOf, hz, h0, h1, add_plain', Instr.sureAddr]
/-- An element of an array value, elements of one cell. -/
theorem Yv.elem1 {t e : TypeId} {x i : Operand} {k : IntKind} {len : Nat} {cs : List Value} {X : Int} {v : Value} (hu : P.underlying t = some (.array len e)) (hz : ∀ w, (sizeOf e).run P w = .ok 1 w) (hagg : ∀ w, (isAgg e).run P w = .ok false w)
    (hx : L.ev x = some (.agg cs.toArray)) (hi : L.ev i = some (.int k X)) (h0 : 0 ≤ X) (h1 : X < len) (hv : cs[X.toNat]? = some v) :
    Yv P n w0 F0 ⟨dst, .index t x i, ty, pos, aft, g⟩ L H v := by
  intro a w hf hs
  simp [execOp, hf.ev hx, hf.ev hi, Instr.index, run_underlying hu, asIntOf, hz, h0, h1, part, hagg, hv]
theorem Yv.elemK {t e : TypeId} {x i : Operand} {k : IntKind} {len s : Nat} {cs vs : List Value} {X : Int} (hu : P.underlying t = some (.array len e)) (hz : ∀ w, (sizeOf e).run P w = .ok s w) (hagg : ∀ w, (isAgg e).run P w = .ok true w)
    (hx : L.ev x = some (.agg cs.toArray)) (hi : L.ev i = some (.int k X)) (h0 : 0 ≤ X) (h1 : X < len) (hv : (cs.drop (X.toNat * s)).take s = vs) :
    Yv P n w0 F0 ⟨dst, .index t x i, ty, pos, aft, g⟩ L H (.agg vs.toArray) := by
  intro a w hf hs
  subst hv
  simp [execOp, hf.ev hx, hf.ev hi, Instr.index, run_underlying hu, asIntOf, hz, h0, h1, part, hagg, List.take_drop]
theorem Yv.len {t : TypeId} {e : TypeId} {x : Operand} {A : Option Addr} {len cap : Nat} (hu : P.underlying t = some (.slice e)) (hx : L.ev x = some (.slice A len cap)) :
    Yv P n w0 F0 ⟨dst, .call ⟨.builtin .len, #[x], #[t]⟩, ty, pos, aft, g⟩ L H (.int .i64 len) := by
  intro a w hf hs
  simp [execOp, resolve, invoke, builtin, hf.ev hx, Builtin.len_, run_underlying hu, goInt]

theorem Yv.sliceNil {t e u : TypeId} {x y : Operand} {A : Option Addr} {m c : Nat} (hu : P.underlying t = some (.slice e)) (hx : L.ev x = some (.slice A m c)) (hy : L.ev y = some (.slice none 0 0)) :
    Yv P n w0 F0 ⟨dst, .binOp .eql t x y u, ty, pos, aft, g⟩ L H (.bool A.isNone) := by
  intro a w hf hs
  have hg : eqGuard .eql t x y (.slice A m c) (.slice none 0 0) = pure () := by simp [eqGuard]
  simp [execOp, hf.ev hx, hf.ev hy, hg, Lib.run_eql_slice_nil w t e A m c 0 0 hu]
theorem Yv.sliceNotNil {t e u : TypeId} {x y : Operand} {A : Option Addr} {m c : Nat} (hu : P.underlying t = some (.slice e)) (hx : L.ev x = some (.slice A m c)) (hy : L.ev y = some (.slice none 0 0)) :
    Yv P n w0 F0 ⟨dst, .binOp .neq t x y u, ty, pos, aft, g⟩ L H (.bool (!A.isNone)) := by
  intro a w hf hs
  have hg : eqGuard .neq t x y (.slice A m c) (.slice none 0 0) = pure () := by simp [eqGuard]
  simp [execOp, hf.ev hx, hf.ev hy, hg, run_neq_slice_nil_any w t e A m c 0 0 hu]
theorem Yv.field1 {t : TypeId} {x : Operand} {i : Nat} {fs : Array Field} {f : Field} {cs : List Value} {v : Value} (hu : P.underlying t = some (.struct fs)) (hi : fs[i]? = some f) (hagg : ∀ w, (isAgg f.type).run P w = .ok false w)
    (hx : L.ev x = some (.agg cs.toArray)) (hv : cs[f.offset]? = some v) : Yv P n w0 F0 ⟨dst, .field t x i, ty, pos, aft, g⟩ L H v := by
  intro a w hf hs
  simp [execOp, hf.ev hx, Instr.field, asAgg, run_underlying hu, hi, part, hagg, hv]
theorem Yv.fieldK {t : TypeId} {x : Operand} {i k : Nat} {fs : Array Field} {f : Field} {cs vs : List Value} (hu : P.underlying t = some (.struct fs)) (hi : fs[i]? = some f) (hagg : ∀ w, (isAgg f.type).run P w = .ok true w) (hz : ∀ w, (sizeOf f.type).run P w = .ok k w)
    (hx : L.ev x = some (.agg cs.toArray)) (hv : (cs.drop f.offset).take k = vs) : Yv P n w0 F0 ⟨dst, .field t x i, ty, pos, aft, g⟩ L H (.agg vs.toArray) := by
  intro a w hf hs
  subst hv
  simp [execOp, hf.ev hx, Instr.field, asAgg, run_underlying hu, hi, part, hagg, hz, List.take_drop]

/-! Numbers. -/
theorem wrap_in {k : IntKind} {x : Int} (h : k.wrap x = x) : k.wrap x = x := h
theorem wrap_i64 {x : Int} (h0 : -9223372036854775808 ≤ x) (h1 : x ≤ 9223372036854775807) : IntKind.i64.wrap x = x := IntWalk.i64_in x (by omega)
theorem Yv.add {t u : TypeId} {x y : Operand} {a b : Int} (hx : L.ev x = some (.int .i64 a)) (hy : L.ev y = some (.int .i64 b)) (h : -9223372036854775808 ≤ a + b ∧ a + b ≤ 9223372036854775807) :
    Yv P n w0 F0 ⟨dst, .binOp .add t x y u, ty, pos, aft, g⟩ L H (.int .i64 (a + b)) := by
  intro c w hf hs
  have hg : eqGuard .add t x y (.int .i64 a) (.int .i64 b) = pure () := rfl
  simp [execOp, hf.ev hx, hf.ev hy, binOp_add, Op.intArith, hg]
  rw [wrap_i64 h.1 h.2]
theorem Yv.sub {t u : TypeId} {x y : Operand} {a b : Int} (hx : L.ev x = some (.int .i64 a)) (hy : L.ev y = some (.int .i64 b)) (h : -9223372036854775808 ≤ a - b ∧ a - b ≤ 9223372036854775807) :
    Yv P n w0 F0 ⟨dst, .binOp .sub t x y u, ty, pos, aft, g⟩ L H (.int .i64 (a - b)) := by
  intro c w hf hs
  have hg : eqGuard .sub t x y (.int .i64 a) (.int .i64 b) = pure () := rfl
  simp [execOp, hf.ev hx, hf.ev hy, binOp_sub, Op.intArith, hg]
  rw [wrap_i64 h.1 h.2]
theorem Yv.mul {t u : TypeId} {x y : Operand} {a b : Int} (hx : L.ev x = some (.int .i64 a)) (hy : L.ev y = some (.int .i64 b)) (h : -9223372036854775808 ≤ a * b ∧ a * b ≤ 9223372036854775807) :
    Yv P n w0 F0 ⟨dst, .binOp .mul t x y u, ty, pos, aft, g⟩ L H (.int .i64 (a * b)) := by
  intro c w hf hs
  have hg : eqGuard .mul t x y (.int .i64 a) (.int .i64 b) = pure () := rfl
  simp [execOp, hf.ev hx, hf.ev hy, binOp_mul, Op.intArith, hg]
  rw [wrap_i64 h.1 h.2]
theorem Yv.quo {t u : TypeId} {x y : Operand} {a b : Int} (hx : L.ev x = some (.int .i64 a)) (hy : L.ev y = some (.int .i64 b)) (h : 0 ≤ a ∧ a ≤ 9223372036854775807) (hb : 0 < b) :
    Yv P n w0 F0 ⟨dst, .binOp .quo t x y u, ty, pos, aft, g⟩ L H (.int .i64 (a / b)) := by
  intro c w hf hs
  have hg : eqGuard .quo t x y (.int .i64 a) (.int .i64 b) = pure () := rfl
  have hne : ¬ b = 0 := by omega
  have h1 : 0 ≤ a / b := Int.ediv_nonneg h.1 (by omega)
  have h2 : a / b ≤ a := Int.ediv_le_self b h.1
  simp [execOp, hf.ev hx, hf.ev hy, binOp_quo, Op.intDiv, hg, hne, Int.tdiv_eq_ediv_of_nonneg h.1]
  rw [wrap_i64 (by omega) (by omega)]
theorem Yv.rem {t u : TypeId} {x y : Operand} {a b : Int} (hx : L.ev x = some (.int .i64 a)) (hy : L.ev y = some (.int .i64 b)) (h : 0 ≤ a) (hb : 0 < b) :
    Yv P n w0 F0 ⟨dst, .binOp .rem t x y u, ty, pos, aft, g⟩ L H (.int .i64 (a % b)) := by
  intro c w hf hs
  have hg : eqGuard .rem t x y (.int .i64 a) (.int .i64 b) = pure () := rfl
  have hne : ¬ b = 0 := by omega
  simp [execOp, hf.ev hx, hf.ev hy, binOp_rem, Op.intDiv, hg, hne, Int.tmod_eq_emod_of_nonneg h]
theorem Yv.bits {op : BinOp} {t u : TypeId} {k : IntKind} {x y : Operand} {a b : Int} (hop : (match op with | .and | .or | .xor | .andNot => true | _ => false) = true) (hx : L.ev x = some (.int k a)) (hy : L.ev y = some (.int k b)) :
    Yv P n w0 F0 ⟨dst, .binOp op t x y u, ty, pos, aft, g⟩ L H (.int k (Go.bits op k a b)) := by
  intro c w hf hs
  cases op <;> simp at hop <;> simp [execOp, hf.ev hx, hf.ev hy, binOp_and, binOp_or, binOp_xor, binOp_andNot, intBits_and, intBits_or, intBits_xor, intBits_andNot, eqGuard]
theorem Yv.eq {t u : TypeId} {k : IntKind} {x y : Operand} {a b : Int} (hx : L.ev x = some (.int k a)) (hy : L.ev y = some (.int k b)) :
    Yv P n w0 F0 ⟨dst, .binOp .eql t x y u, ty, pos, aft, g⟩ L H (.bool (decide (a = b))) := by
  intro c w hf hs
  simp [execOp, hf.ev hx, hf.ev hy, binOp_eql, eqGuard]
  by_cases h : a = b <;> simp [h]
theorem Yv.ne {t u : TypeId} {k : IntKind} {x y : Operand} {a b : Int} (hx : L.ev x = some (.int k a)) (hy : L.ev y = some (.int k b)) :
    Yv P n w0 F0 ⟨dst, .binOp .neq t x y u, ty, pos, aft, g⟩ L H (.bool (decide (a ≠ b))) := by
  intro c w hf hs
  simp [execOp, hf.ev hx, hf.ev hy, binOp_neq, eqGuard]
  by_cases h : a = b <;> simp [h]
theorem Yv.lt {t u : TypeId} {k : IntKind} {x y : Operand} {a b : Int} (hx : L.ev x = some (.int k a)) (hy : L.ev y = some (.int k b)) :
    Yv P n w0 F0 ⟨dst, .binOp .lss t x y u, ty, pos, aft, g⟩ L H (.bool (decide (a < b))) := by
  intro c w hf hs
  have hg : eqGuard .lss t x y (.int k a) (.int k b) = pure () := rfl
  simp [execOp, hf.ev hx, hf.ev hy, binOp_lss, hg]
theorem Yv.le {t u : TypeId} {k : IntKind} {x y : Operand} {a b : Int} (hx : L.ev x = some (.int k a)) (hy : L.ev y = some (.int k b)) :
    Yv P n w0 F0 ⟨dst, .binOp .leq t x y u, ty, pos, aft, g⟩ L H (.bool (decide (a ≤ b))) := by
  intro c w hf hs
  have hg : eqGuard .leq t x y (.int k a) (.int k b) = pure () := rfl
  simp [execOp, hf.ev hx, hf.ev hy, binOp_leq, hg]
theorem Yv.gt {t u : TypeId} {k : IntKind} {x y : Operand} {a b : Int} (hx : L.ev x = some (.int k a)) (hy : L.ev y = some (.int k b)) :
    Yv P n w0 F0 ⟨dst, .binOp .gtr t x y u, ty, pos, aft, g⟩ L H (.bool (decide (b < a))) := by
  intro c w hf hs
  have hg : eqGuard .gtr t x y (.int k a) (.int k b) = pure () := rfl
  simp [execOp, hf.ev hx, hf.ev hy, binOp_gtr, hg]
theorem Yv.ge {t u : TypeId} {k : IntKind} {x y : Operand} {a b : Int} (hx : L.ev x = some (.int k a)) (hy : L.ev y = some (.int k b)) :
    Yv P n w0 F0 ⟨dst, .binOp .geq t x y u, ty, pos, aft, g⟩ L H (.bool (decide (b ≤ a))) := by
  intro c w hf hs
  have hg : eqGuard .geq t x y (.int k a) (.int k b) = pure () := rfl
  simp [execOp, hf.ev hx, hf.ev hy, binOp_geq, hg]
theorem Yv.ptrNil {t e u : TypeId} {x y : Operand} {p : Option Addr} (hu : P.underlying t = some (.pointer e)) (hx : L.ev x = some (.pointer p)) (hy : L.ev y = some (.pointer none)) :
    Yv P n w0 F0 ⟨dst, .binOp .eql t x y u, ty, pos, aft, g⟩ L H (.bool p.isNone) := by
  intro c w hf hs
  have hp : P.pointee t = e := by simp [Program.pointee, hu]
  have hg : eqGuard .eql t x y (.pointer p) (.pointer none) = pure () := by simp [eqGuard]
  simp [execOp, hf.ev hx, hf.ev hy, hg, run_eql_pointer_nil w t p (by rw [hp]; exact hu)]
theorem Yv.ptrNotNil {t e u : TypeId} {x y : Operand} {p : Option Addr} (hu : P.underlying t = some (.pointer e)) (hx : L.ev x = some (.pointer p)) (hy : L.ev y = some (.pointer none)) :
    Yv P n w0 F0 ⟨dst, .binOp .neq t x y u, ty, pos, aft, g⟩ L H (.bool (!p.isNone)) := by
  intro c w hf hs
  have hp : P.pointee t = e := by simp [Program.pointee, hu]
  have hg : eqGuard .neq t x y (.pointer p) (.pointer none) = pure () := by simp [eqGuard]
  simp [execOp, hf.ev hx, hf.ev hy, hg, run_neq_pointer_nil w t p (by rw [hp]; exact hu)]
theorem Yv.boolEq {t u : TypeId} {x y : Operand} {p q : Bool} (hu : P.underlying t = some .bool) (hx : L.ev x = some (.bool p)) (hy : L.ev y = some (.bool q)) :
    Yv P n w0 F0 ⟨dst, .binOp .eql t x y u, ty, pos, aft, g⟩ L H (.bool (p == q)) := by
  intro c w hf hs
  have hg : eqGuard .eql t x y (.bool p) (.bool q) = pure () := by simp [eqGuard]
  simp [execOp, hf.ev hx, hf.ev hy, hg, run_eql_bool w t p q hu]
theorem Yv.boolNe {t u : TypeId} {x y : Operand} {p q : Bool} (hu : P.underlying t = some .bool) (hx : L.ev x = some (.bool p)) (hy : L.ev y = some (.bool q)) :
    Yv P n w0 F0 ⟨dst, .binOp .neq t x y u, ty, pos, aft, g⟩ L H (.bool (!(p == q))) := by
  intro c w hf hs
  have hg : eqGuard .neq t x y (.bool p) (.bool q) = pure () := by simp [eqGuard]
  simp [execOp, hf.ev hx, hf.ev hy, hg, run_neq_bool w t p q hu]
theorem Yv.not {t : TypeId} {x : Operand} {p : Bool} (hx : L.ev x = some (.bool p)) : Yv P n w0 F0 ⟨dst, .unOp .not t x, ty, pos, aft, g⟩ L H (.bool (!p)) := by
  intro c w hf hs
  simp only [execOp, hf.ev hx]
  rfl
theorem Yv.conv {s d : TypeId} {x : Operand} {ds : TypeDesc} {k k' : IntKind} {a : Int} (hs : P.underlying s = some ds) (hd : P.underlying d = some (.int k')) (hx : L.ev x = some (.int k a)) :
    Yv P n w0 F0 ⟨dst, .convert s d x, ty, pos, aft, g⟩ L H (.int k' (k'.wrap a)) := by
  intro c w hf hst
  simp [execOp, hf.ev hx, convert, run_underlying hs, run_underlying hd, Conv.intToInt]
theorem Yv.conv64 {s d : TypeId} {x : Operand} {ds : TypeDesc} {k : IntKind} {a : Int} (hs : P.underlying s = some ds) (hd : P.underlying d = some (.int .i64)) (hx : L.ev x = some (.int k a)) (h : -9223372036854775808 ≤ a ∧ a ≤ 9223372036854775807) :
    Yv P n w0 F0 ⟨dst, .convert s d x, ty, pos, aft, g⟩ L H (.int .i64 a) := by
  have := Yv.conv (n := n) (w0 := w0) (F0 := F0) (H := H) (dst := dst) (ty := ty) (pos := pos) (aft := aft) (g := g) hs hd hx
  rwa [wrap_i64 h.1 h.2] at this
theorem Yv.makeFunc {f : FuncId} {cap : List Operand} {vs : List Value} (hv : L.evs cap = some vs) :
    Yv P n w0 F0 ⟨dst, .makeFunc (.func f) #[] cap.toArray, ty, pos, aft, g⟩ L H (.func (.func f) #[] vs.toArray) := by
  intro c w hf hst
  have h1 := hf.evs hv
  simp [execOp, Instr.makeFunc]
  rw [← h1]

def Env.parts (L : Env) : List (Nat × Operand) → Option (List (Nat × Value))
  | [] => some []
  | (i, x) :: r => match L.ev x, Env.parts L r with
    | some v, some vs => some ((i, v) :: vs)
    | _, _ => none
theorem Fr.parts {a : Act} (h : Fr n a L) : ∀ {xs : List (Nat × Operand)} {vs : List (Nat × Value)}, L.parts xs = some vs → xs.map (fun (p : Nat × Operand) => (p.1, a.eval p.2)) = vs
  | [], vs, hx => by simpa [Env.parts] using hx
  | (i, x) :: r, vs, hx => by
    unfold Env.parts at hx
    cases h1 : L.ev x with
    | none => simp [h1] at hx
    | some v =>
      cases h2 : L.parts r with
      | none => simp [h1, h2] at hx
      | some us =>
        simp only [h1, h2, Option.some.injEq] at hx
        subst hx
        simp [h.ev h1, h.parts h2]
theorem Yv.build {t : TypeId} {ps : List (Nat × Operand)} {vs : List (Nat × Value)} {v : Value} (hp : L.parts ps = some vs) (hr : ∀ w, (Instr.build t vs.toArray).run P w = .ok v w) :
    Yv P n w0 F0 ⟨dst, .build t ps.toArray, ty, pos, aft, g⟩ L H v := by
  intro a w hf hs
  have h1 := hf.parts hp
  simp only [execOp, List.map_toArray]
  rw [show List.map (fun x => match x with | (i, x) => (i, a.eval x)) ps = vs from h1]
  simp [hr]

/-! ### Reading memory -/
/-- A cell's content. -/
def CF (w0 : World) (F0 : Nat → Prop) (H : List Ass) (ad : Addr) (v : Value) : Prop := ∀ w, St w0 F0 w H → w.cell? ad = some v
theorem cell_row {w : World} {b : Nat} {cs : List Value} {t : TypeId} {fr : Nat × Nat} (h : w.heap[b]? = some (.cells cs.toArray t fr)) (o : Nat) : w.cell? ⟨b, o, none⟩ = cs[o]? := by
  simp [World.cell?, h]
theorem CF.blk {b o : Nat} {cs : List Value} {t : TypeId} {v : Value} (i : Nat) (hi : H[i]? = some (blk b cs t)) (hv : cs[o]? = some v) : CF w0 F0 H ⟨b, o, none⟩ v := by
  intro w hs
  obtain ⟨F, ⟨h1, _⟩, _⟩ := hs.get i hi
  rw [cell_row h1, hv]
theorem CF.old {ad : Addr} {v : Value} (hc : w0.cell? ad = some v) (hn : ¬ F0 ad.block) : CF w0 F0 H ad v := by
  intro w hs
  rw [World.cell?_of_block (w := w0) (hs.mod.block _ (World.block_lt_of_cell? w0 ad hc) hn)]
  exact hc
theorem Yv.load1 {t : TypeId} {x : Operand} {ad : Addr} {v : Value} (hagg : ∀ w, (isAgg t).run P w = .ok false w) (hx : L.ev x = some (.pointer (some ad))) (hc : CF w0 F0 H ad v) :
    Yv P n w0 F0 ⟨dst, .load t x, ty, pos, aft, g⟩ L H v := by
  intro a w hf hs
  simp [execOp, hf.ev hx, Instr.loadAt, Instr.sureAddr, loadVar, hagg, hc w hs]
def CFs (w0 : World) (F0 : Nat → Prop) (H : List Ass) (ad : Addr) (vs : List Value) : Prop := ∀ w, St w0 F0 w H → ∀ j v, vs[j]? = some v → w.cell? (ad.add j) = some v
theorem CFs.blk {b o : Nat} {cs vs : List Value} {t : TypeId} (i : Nat) (hi : H[i]? = some (B.blk b cs t)) (hv : ∀ j v, vs[j]? = some v → cs[o + j]? = some v) : CFs w0 F0 H ⟨b, o, none⟩ vs := by
  intro w hs j v hj
  obtain ⟨F, ⟨h1, _⟩, _⟩ := hs.get i hi
  rw [add_plain', cell_row h1, hv j v hj]
/-- The whole block. -/
theorem CFs.whole {b : Nat} {cs : List Value} {t : TypeId} (i : Nat) (hi : H[i]? = some (B.blk b cs t)) : CFs w0 F0 H ⟨b, 0, none⟩ cs := CFs.blk i hi (fun j v h => by simpa using h)
theorem CFs.old {ad : Addr} {vs : List Value} (hc : ∀ j v, vs[j]? = some v → w0.cell? (ad.add j) = some v) (hn : ∀ j v, vs[j]? = some v → ¬ F0 (ad.add j).block) : CFs w0 F0 H ad vs := fun w hs j v hj => CF.old (hc j v hj) (hn j v hj) w hs
theorem Yv.loadK {t : TypeId} {x : Operand} {ad : Addr} {vs : List Value} (hagg : ∀ w, (isAgg t).run P w = .ok true w) (hz : ∀ w, (sizeOf t).run P w = .ok vs.length w) (hx : L.ev x = some (.pointer (some ad))) (hc : CFs w0 F0 H ad vs) :
    Yv P n w0 F0 ⟨dst, .load t x, ty, pos, aft, g⟩ L H (.agg vs.toArray) := by
  intro a w hf hs
  simp [execOp, hf.ev hx, Instr.loadAt, Instr.sureAddr, loadVar, hagg, hz, run_loadCells_list w ad vs (hc w hs)]

/-! ### Making and writing memory -/
theorem below_alloc' (w : World) (o : Obj) : Gr w (w.alloc o) :=
  have h := (Below.refl w.heap.size w).alloc (Nat.le_refl _) o
  ⟨h.os, h.tape, h.output, h.size, h.block, Nat.le_refl _⟩
theorem St.alloc {w : World} (hs : St w0 F0 w H) (cs : List Value) (t : TypeId) : St w0 F0 (w.alloc (.cells cs.toArray t)) (blk w.heap.size cs t :: H) :=
  hs.new (F' := fun k => k = w.heap.size) (below_alloc' w _) ⟨by show (w.heap.push _)[w.heap.size]? = _; simp, fun k => Iff.rfl⟩ (fun k hk => by subst hk; simp)
theorem run_newRow (w : World) (t : TypeId) (cs : Array Value) : (newRow t cs).run P w = .ok ⟨w.heap.size, 0, none⟩ (w.alloc (.cells cs t)) := by
  simp [newRow]
theorem Ow.alloc {e : TypeId} {z : Value} {cs : List Value} (hz : ∀ w, (zeroValue e).run P w = .ok z w) (hcs : z.cells.toList = cs) :
    Ow P n w0 F0 ⟨dst, .alloc e, ty, pos, aft, g⟩ L H (fun v H' => ∃ b, v = .pointer (some ⟨b, 0, none⟩) ∧ H' = blk b cs e :: H) := by
  intro a w hf hs K Q hK
  unfold Oper.wp execOp
  simp [Instr.alloc, hz, newVar, run_newRow]
  refine hK _ _ _ ⟨w.heap.size, rfl, rfl⟩ ?_
  have := hs.alloc cs e
  rw [← hcs] at this ⊢
  simpa using this
theorem Ow.box {e : TypeId} {x : Operand} {v : Value} {cs : List Value} (hx : L.ev x = some v) (hcs : v.cells.toList = cs) :
    Ow P n w0 F0 ⟨dst, .box e x, ty, pos, aft, g⟩ L H (fun v H' => ∃ b, v = .pointer (some ⟨b, 0, none⟩) ∧ H' = blk b cs e :: H) := by
  intro a w hf hs K Q hK
  unfold Oper.wp execOp
  simp [hf.ev hx, Instr.box, newVar, run_newRow]
  refine hK _ _ _ ⟨w.heap.size, rfl, rfl⟩ ?_
  have := hs.alloc cs e
  rw [← hcs] at this ⊢
  simpa using this
/-- A whole literal slice. -/
theorem Ow.buildSlice {t e : TypeId} {len : Nat} {ps : List (Nat × Operand)} {vs : List (Nat × Value)} {cs : List Value} (hp : L.parts ps = some vs)
    (hr : ∀ w, (Instr.buildSlice t len vs.toArray).run P w = .ok (.slice (some ⟨w.heap.size, 0, none⟩) len len) (w.alloc (.cells cs.toArray e))) :
    Ow P n w0 F0 ⟨dst, .buildSlice t len ps.toArray, ty, pos, aft, g⟩ L H (fun v H' => ∃ b, v = .slice (some ⟨b, 0, none⟩) len len ∧ H' = blk b cs e :: H) := by
  intro a w hf hs K Q hK
  have h1 := hf.parts hp
  unfold Oper.wp
  simp only [execOp, List.map_toArray]
  rw [show List.map (fun x => match x with | (i, x) => (i, a.eval x)) ps = vs from h1]
  simp [hr]
  exact hK _ _ _ ⟨w.heap.size, rfl, rfl⟩ (hs.alloc cs e)
theorem setCell_row {w : World} {b o : Nat} {cs : List Value} {t : TypeId} {v : Value} (h : w.heap[b]? = some (.cells cs.toArray t (0, 0))) : (w.setCell ⟨b, o, none⟩ v).heap[b]? = some (.cells (cs.set o v).toArray t (0, 0)) := by
  simp [World.setCell, Array.getElem?_modify, h]
theorem mod_setCell (w : World) (b o : Nat) (v : Value) : Mod (fun k => k = b) w (w.setCell ⟨b, o, none⟩ v) :=
  ⟨rfl, rfl, rfl, by simp [World.setCell], fun k _ hn => Below.heap_setCell _ _ _ _ hn, Nat.le_refl _⟩
theorem St.setCell {w : World} {b o : Nat} {cs : List Value} {t : TypeId} (hs : St w0 F0 w H) (i : Nat) (hi : H[i]? = some (blk b cs t)) (v : Value) : St w0 F0 (w.setCell ⟨b, o, none⟩ v) (H.set i (blk b (cs.set o v) t)) :=
  hs.set i hi (fun F ⟨h1, h2⟩ => ⟨(mod_setCell w b o v).mono (fun k hk => (h2 k).2 hk), F, ⟨setCell_row h1, h2⟩, fun k hk => .inl hk⟩)
theorem Ow.store1 {t : TypeId} {x y : Operand} {b o : Nat} {cs : List Value} {tt : TypeId} {v : Value} (i : Nat) (hz : ∀ w, (sizeOf t).run P w = .ok 1 w) (hx : L.ev x = some (.pointer (some ⟨b, o, none⟩))) (hy : L.ev y = some v) (hv : v.oneCell' = true)
    (hi : H[i]? = some (blk b cs tt)) (ho : o < cs.length) :
    Ow P n w0 F0 ⟨dst, .store t x y, ty, pos, aft, g⟩ L H (fun u H' => u = undef ∧ H' = H.set i (blk b (cs.set o v) tt)) := by
  intro a w hf hs K Q hK
  obtain ⟨F, ⟨h1, _⟩, _⟩ := hs.get i hi
  have hcells : v.cells = #[v] := by cases v <;> simp [Value.oneCell'] at hv <;> rfl
  have hc : w.cell? ⟨b, o, none⟩ = some cs[o] := by rw [cell_row h1]; simp [ho]
  have hfz : w.frozen? ⟨b, o, none⟩ = false := by simp [World.frozen?, h1]
  unfold Oper.wp execOp
  simp [hf.ev hx, hf.ev hy, Instr.storeAt, Instr.sureAddr, storeVar, hcells, hz, storeCells, Addr.add, run_store P w _ v .plain hv, stored, hc, hfz]
  exact hK _ _ _ ⟨rfl, rfl⟩ (hs.setCell i hi v)
theorem mod_setRow (w : World) (b : Nat) (cs : Array Value) : Mod (fun k => k = b) w (w.setRow b cs) :=
  ⟨rfl, rfl, rfl, by simp, fun k _ hn => setRow_other w b k cs hn, Nat.le_refl _⟩
/-- A value of several cells into a block, from cell o on. -/
theorem Ow.storeK {t : TypeId} {x y : Operand} {b o : Nat} {cs vs : List Value} {tt : TypeId} (i : Nat) (hz : ∀ w, (sizeOf t).run P w = .ok vs.length w) (hx : L.ev x = some (.pointer (some ⟨b, o, none⟩))) (hy : L.ev y = some (.agg vs.toArray)) (hv : (vs.all fun v => v.oneCell') = true)
    (hi : H[i]? = some (blk b cs tt)) (ho : o + vs.length ≤ cs.length) :
    Ow P n w0 F0 ⟨dst, .store t x y, ty, pos, aft, g⟩ L H (fun u H' => u = undef ∧ H' = H.set i (blk b (cs.take o ++ vs ++ cs.drop (o + vs.length)) tt)) := by
  intro a w hf hs K Q hK
  obtain ⟨F, ⟨h1, _⟩, _⟩ := hs.get i hi
  have hst := run_storeCells_at P b o tt vs 0 cs.toArray w h1 (by simpa using ho) (fun v hvm => List.all_eq_true.1 hv v hvm)
  unfold Oper.wp execOp
  simp only [Nat.add_zero] at hst
  simp [hf.ev hx, hf.ev hy, Instr.storeAt, Instr.sureAddr, storeVar, Value.cells, hz, hst]
  refine hK _ _ _ ⟨rfl, rfl⟩ (hs.set i hi (fun F ⟨h1, h2⟩ => ⟨(mod_setRow w b _).mono (fun k hk => (h2 k).2 hk), F, ⟨?_, h2⟩, fun k hk => .inl hk⟩))
  have := setRow_heap w b cs.toArray (cs.take o ++ (vs ++ cs.drop (o + vs.length))).toArray tt (0, 0) h1
  simpa using this
/-- A value of several cells over a whole block. -/
theorem Ow.storeW {t : TypeId} {x y : Operand} {b : Nat} {cs vs : List Value} {tt : TypeId} (i : Nat) (hz : ∀ w, (sizeOf t).run P w = .ok vs.length w) (hx : L.ev x = some (.pointer (some ⟨b, 0, none⟩))) (hy : L.ev y = some (.agg vs.toArray)) (hv : (vs.all fun v => v.oneCell') = true)
    (hi : H[i]? = some (blk b cs tt)) (ho : vs.length = cs.length) :
    Ow P n w0 F0 ⟨dst, .store t x y, ty, pos, aft, g⟩ L H (fun u H' => u = undef ∧ H' = H.set i (blk b vs tt)) := by
  have h := Ow.storeK (P := P) (n := n) (w0 := w0) (F0 := F0) (L := L) (dst := dst) (ty := ty) (pos := pos) (aft := aft) (g := g) i hz hx hy hv hi (by omega)
  simpa [ho] using h

/-! ### Slices of the call's own -/
/-- The slice v owns its row: n elements of s cells each of type e: the cells xs. -/
def row (v : Value) (e : TypeId) (s n : Nat) (xs : List Value) : Ass where
  holds w F := w.ownsRow 0 e s v n xs ∧ ∀ k, F k ↔ v.ownBlock = some k
  loc := by
    rintro w w' F ⟨⟨h1, h2⟩, h3⟩ hb
    refine ⟨⟨h1, ?_⟩, h3⟩
    rcases h2 with h2 | ⟨g, cap, cur, rfl, hg, hh, r⟩
    · exact .inl h2
    · exact .inr ⟨g, cap, cur, rfl, hg, (hb g ((h3 g).2 rfl)).trans hh, r⟩
theorem St.emptyRow {w : World} (hs : St w0 F0 w H) (e : TypeId) (s : Nat) : St w0 F0 w (row (.slice none 0 0) e s 0 [] :: H) :=
  hs.new (F' := none0) (Gr.refl _) ⟨World.ownsRow_nil w 0 e s, fun k => ⟨fun h => h.elim, fun h => by simp [Value.ownBlock] at h⟩⟩ (fun k hk => hk.elim)
theorem Ass.row_of_blk {w : World} {F : Nat → Prop} {b m s : Nat} {cs : List Value} {e : TypeId} (hl : cs.length = m * s) (hm : m ≤ maxLen) (h : (blk b cs e).holds w F) : (row (.slice (some ⟨b, 0, none⟩) m m) e s m cs).holds w F :=
  ⟨⟨hl, .inr ⟨b, m, cs.toArray, rfl, Nat.zero_le _, h.1, Nat.le_refl _, hm, by simpa using hl, by simp [← hl]⟩⟩, fun k => by rw [h.2]; simp [Value.ownBlock, eq_comm]⟩
theorem row_cell {w : World} {F : Nat → Prop} {b cap : Nat} {e : TypeId} {s m : Nat} {xs : List Value} (h : (row (.slice (some ⟨b, 0, none⟩) m cap) e s m xs).holds w F) {o : Nat} {v : Value} (hv : xs[o]? = some v) : w.cell? ⟨b, o, none⟩ = some v := by
  have := h.1.cells (g := b) rfl o v hv
  rwa [add_plain', Nat.zero_add] at this
theorem CF.row {b o cap : Nat} {e : TypeId} {s m : Nat} {xs : List Value} {v : Value} (i : Nat) (hi : H[i]? = some (row (.slice (some ⟨b, 0, none⟩) m cap) e s m xs)) (hv : xs[o]? = some v) : CF w0 F0 H ⟨b, o, none⟩ v := by
  intro w hs
  obtain ⟨F, h, _⟩ := hs.get i hi
  exact row_cell h hv
theorem CFs.row {b o cap : Nat} {e : TypeId} {s m : Nat} {xs vs : List Value} (i : Nat) (hi : H[i]? = some (B.row (.slice (some ⟨b, 0, none⟩) m cap) e s m xs)) (hv : ∀ j v, vs[j]? = some v → xs[o + j]? = some v) : CFs w0 F0 H ⟨b, o, none⟩ vs := by
  intro w hs j v hj
  obtain ⟨F, h, _⟩ := hs.get i hi
  rw [add_plain']
  exact row_cell h (hv j v hj)
theorem row_set {w : World} {F : Nat → Prop} {b cap o : Nat} {e : TypeId} {s m : Nat} {xs : List Value} (h : (row (.slice (some ⟨b, 0, none⟩) m cap) e s m xs).holds w F) (ho : o < xs.length) (v : Value) :
    (row (.slice (some ⟨b, 0, none⟩) m cap) e s m (xs.set o v)).holds (w.setCell ⟨b, o, none⟩ v) F := by
  obtain ⟨⟨h1, h2⟩, h3⟩ := h
  refine ⟨⟨by simpa using h1, ?_⟩, h3⟩
  rcases h2 with ⟨h2, _⟩ | ⟨g, cp, cur, hv, hg, hh, hn, hm, hc, ht⟩
  · cases h2
  · cases hv
    refine .inr ⟨b, cap, cur.setIfInBounds o v, rfl, hg, ?_, hn, hm, by simpa using hc, ?_⟩
    · simp [World.setCell, Array.getElem?_modify, hh]
    · rw [Array.toList_setIfInBounds, List.take_set, ht]
theorem row_frozen {w : World} {F : Nat → Prop} {b cap o : Nat} {e : TypeId} {s m : Nat} {xs : List Value} (h : (row (.slice (some ⟨b, 0, none⟩) m cap) e s m xs).holds w F) : w.frozen? ⟨b, o, none⟩ = false := by
  rcases h.1.2 with ⟨h2, _⟩ | ⟨g, cp, cur, hv, hg, hh, _⟩
  · cases h2
  · cases hv
    simp [World.frozen?, hh]
theorem Ow.storeRow {t : TypeId} {x y : Operand} {b o cap : Nat} {e : TypeId} {s m : Nat} {xs : List Value} {v : Value} (i : Nat) (hz : ∀ w, (sizeOf t).run P w = .ok 1 w) (hx : L.ev x = some (.pointer (some ⟨b, o, none⟩))) (hy : L.ev y = some v) (hv : v.oneCell' = true)
    (hi : H[i]? = some (row (.slice (some ⟨b, 0, none⟩) m cap) e s m xs)) (ho : o < xs.length) :
    Ow P n w0 F0 ⟨dst, .store t x y, ty, pos, aft, g⟩ L H (fun u H' => u = undef ∧ H' = H.set i (row (.slice (some ⟨b, 0, none⟩) m cap) e s m (xs.set o v))) := by
  intro a w hf hs K Q hK
  obtain ⟨F, h1, _⟩ := hs.get i hi
  have hcells : v.cells = #[v] := by cases v <;> simp [Value.oneCell'] at hv <;> rfl
  have hc : w.cell? ⟨b, o, none⟩ = some xs[o] := row_cell h1 (by simp [ho])
  have hfz : w.frozen? ⟨b, o, none⟩ = false := row_frozen h1
  unfold Oper.wp execOp
  simp [hf.ev hx, hf.ev hy, Instr.storeAt, Instr.sureAddr, storeVar, hcells, hz, storeCells, Addr.add, run_store P w _ v .plain hv, stored, hc, hfz]
  exact hK _ _ _ ⟨rfl, rfl⟩ (hs.set i hi (fun F h => ⟨(mod_setCell w b o v).mono (fun k hk => (h.2 k).2 (by simp [Value.ownBlock, hk])), F, row_set h ho v, fun k hk => .inl hk⟩))
theorem Yv.lenRow {t e e' : TypeId} {x : Operand} {v : Value} {s m : Nat} {xs : List Value} (i : Nat) (hu : P.underlying t = some (.slice e')) (hx : L.ev x = some v) (hi : H[i]? = some (row v e s m xs)) :
    Yv P n w0 F0 ⟨dst, .call ⟨.builtin .len, #[x], #[t]⟩, ty, pos, aft, g⟩ L H (.int .i64 m) := by
  intro a w hf hs
  obtain ⟨F, h, _⟩ := hs.get i hi
  have : ∃ A c, v = .slice A m c := by
    rcases h.1.2 with ⟨rfl, rfl⟩ | ⟨g, cap, cur, rfl, _⟩
    · exact ⟨_, _, rfl⟩
    · exact ⟨_, _, rfl⟩
  obtain ⟨A, c, rfl⟩ := this
  simp [execOp, resolve, invoke, builtin, hf.ev hx, Builtin.len_, run_underlying hu, goInt]
theorem St.row_form {w : World} (hs : St w0 F0 w H) (i : Nat) {v : Value} {e : TypeId} {s m : Nat} {xs : List Value} (hi : H[i]? = some (row v e s m xs)) :
    xs.length = m * s ∧ m ≤ maxLen ∧ ((v = .slice none 0 0 ∧ m = 0) ∨ ∃ g cap, v = .slice (some ⟨g, 0, none⟩) m cap) := by
  obtain ⟨F, h, _⟩ := hs.get i hi
  refine ⟨h.1.1, ?_⟩
  rcases h.1.2 with ⟨rfl, rfl⟩ | ⟨g, cap, cur, rfl, _, _, h3, h4, _⟩
  · exact ⟨Nat.zero_le _, .inl ⟨rfl, rfl⟩⟩
  · exact ⟨Nat.le_trans h3 h4, .inr ⟨g, cap, rfl⟩⟩
theorem Ow.make {t e : TypeId} {x y : Operand} {k k' : IntKind} {z : Value} {by_ m : Nat} {X Y : Int} (hu : P.underlying t = some (.slice e)) (hinfo : (P.info? e).map (fun i => (i.zero, i.size, i.bytes)) = some (some z, 1, by_)) (hz1 : z.cells = #[z])
    (hx : L.ev x = some (.int k X)) (hy : L.ev y = some (.int k' Y)) (hX : X = (m : Int)) (hY : Y = (m : Int)) (hbytes : by_ * m ≤ 281474976710656) (h63 : m ≤ 4611686018427387904) :
    Ow P n w0 F0 ⟨dst, .makeSlice t x y, ty, pos, aft, g⟩ L H (fun v H' => ∃ b, v = .slice (some ⟨b, 0, none⟩) m m ∧ H' = row (.slice (some ⟨b, 0, none⟩) m m) e 1 m (List.replicate m z) :: H) := by
  intro a w hf hs K Q hK
  have hr := run_make_row' (P := P) t e z by_ hu hinfo hz1 k k' m hbytes (by omega) w
  subst hX; subst hY
  unfold Oper.wp execOp
  simp [hf.ev hx, hf.ev hy, hr]
  refine hK _ _ _ ⟨w.heap.size, rfl, rfl⟩ ?_
  have h2 : w.alloc (.cells (madeCells #[z] m) e) = w.alloc (.cells (List.replicate m z).toArray e) := by rw [← toList_madeCells_one]
  rw [h2]
  exact (hs.alloc (List.replicate m z) e).conv 0 rfl (fun F h => Ass.row_of_blk (by simp) (by unfold maxLen; omega) h)

/-- append: what is appended stands in a block of its own, told by number j. -/
theorem Ow.append {t e e' : TypeId} {x y : Operand} {v z : Value} {s by_ m k c b : Nat} {xs cs : List Value} (i j : Nat) (hu : P.underlying t = some (.slice e)) (hinfo : (P.info? e).map (fun i => (i.zero, i.size, i.bytes)) = some (some z, s, by_)) (hzs : z.cells.size = s) (hsz : Nat.blt 0 s = true)
    (hx : L.ev x = some v) (hi : H[i]? = some (row v e s m xs)) (hy : L.ev y = some (.slice (some ⟨b, 0, none⟩) k c)) (hj : H[j]? = some (blk b cs e')) (hl : cs.length = k * s) (h1 : (cs.all fun u => u.oneCell') = true)
    (h63 : m + k ≤ 4611686018427387904) (hbytes : (m + k) * by_ ≤ 140737488355328) :
    Ow P n w0 F0 ⟨dst, .call ⟨.builtin .append, #[x, y], #[t, t]⟩, ty, pos, aft, g⟩ L H (fun u H' => H' = H.set i (row u e s (m + k) (xs ++ cs))) := by
  intro a w hf hs K Q hK
  obtain ⟨inf, hinf, hzz⟩ := Option.map_eq_some_iff.1 hinfo
  simp only [Prod.mk.injEq] at hzz
  obtain ⟨F, hF, _⟩ := hs.get i hi
  obtain ⟨G, ⟨hG, _⟩, _⟩ := hs.get j hj
  obtain ⟨v', w', hrun, hown, hgr, _, hloc⟩ := run_append_own_at (P := P) w 0 t ty e inf z s by_ hu hinf hzz.1 hzz.2.1 hzz.2.2 hzs (by simpa using hsz) v m xs hF.1 ⟨b, 0, none⟩ k c cs hl
    (fun q u hq => by rw [add_plain', Nat.zero_add, cell_row hG, hq]) (fun u hu => List.all_eq_true.1 h1 u hu) (by unfold maxLen; omega) hbytes (Nat.zero_le _)
  unfold Oper.wp execOp
  simp [hf.ev hx, hf.ev hy, resolve, invoke, builtin, hrun]
  refine hK v' _ w' rfl (hs.set i hi (fun F h => ⟨⟨hgr.os, hgr.tape, hgr.output, hgr.size, fun q hq hn => hgr.block q hq (fun e => hn ((h.2 q).2 e.symm)), run_drawn _ _ hrun⟩, fun q => v'.ownBlock = some q, ⟨hown, fun _ => Iff.rfl⟩, fun q hq => ?_⟩))
  have hlt := (hown.lt q hq).2
  rcases hloc with hl | hl
  · exact .inl ((h.2 q).2 (by rw [← hl]; exact hq))
  · rw [hl] at hq; simp at hq; subst hq; exact .inr ⟨Nat.le_refl _, hlt⟩

/-! A literal slice. -/
theorem foldl_set (s : Nat) : ∀ (cs pre mid post : List Value) (k : Nat), mid.length = cs.length → pre.length = s + k →
    ((cs.zipIdx k).foldl (fun (a : Array Value) (x : Value × Nat) => a.setIfInBounds (s + x.2) x.1) (pre ++ mid ++ post).toArray) = (pre ++ cs ++ post).toArray
  | [], pre, mid, post, k, hm, _ => by
    obtain rfl : mid = [] := List.eq_nil_of_length_eq_zero (by simpa using hm)
    simp
  | c :: cs, pre, mid, post, k, hm, hp => by
    cases mid with
    | nil => simp at hm
    | cons m mid =>
      simp only [List.zipIdx_cons, List.foldl_cons]
      have e : ((pre ++ m :: mid ++ post).toArray.setIfInBounds (s + k) c) = ((pre ++ [c]) ++ mid ++ post).toArray := by
        simp [← hp]
      rw [e, foldl_set s cs (pre ++ [c]) mid post (k + 1) (by simpa using hm) (by simp; omega)]
      simp
def partsFrom : Nat → List Value → List (Nat × Value)
  | _, [] => []
  | k, v :: vs => (k, v) :: partsFrom (k + 1) vs
theorem fill_all (s : Nat) : ∀ (vs : List Value) (css : List (List Value)) (k : Nat) (pre post : List Value), pre.length = k * s → vs.map (fun v => v.cells.toList) = css → (∀ c ∈ css, c.length = s) → post.length = vs.length * s →
    Instr.fill (fun i => some (i * s, s)) (pre ++ post).toArray (partsFrom k vs) = some (pre ++ css.flatten).toArray
  | [], css, k, pre, post, _, hc, _, hp => by
    subst hc
    obtain rfl : post = [] := List.eq_nil_of_length_eq_zero (by simpa using hp)
    simp [partsFrom, Instr.fill]
  | v :: vs, css, k, pre, post, hpre, hc, hs, hp => by
    subst hc
    have hv : v.cells.size = s := by have := hs v.cells.toList (by simp); simpa using this
    have hle : s ≤ post.length := by rw [hp, List.length_cons, Nat.add_mul]; omega
    have e1 := foldl_set (k * s) v.cells.toList pre (post.take s) (post.drop s) 0 (by simp [hv]; omega) (by omega)
    have e2 : (pre ++ post.take s ++ post.drop s) = pre ++ post := by simp
    rw [e2] at e1
    have ih := fill_all s vs (vs.map fun v => v.cells.toList) (k + 1) (pre ++ v.cells.toList) (post.drop s) (by simp [hpre, hv, Nat.add_mul]) rfl (fun c hc => hs c (by simp at hc ⊢; exact .inr hc)) (by simp [hp, Nat.add_mul])
    unfold partsFrom Instr.fill
    have h3 : ¬ (v.cells.size ≠ s ∨ k * s + v.cells.size > (pre ++ post).toArray.size) := by simp [hv, hpre]; omega
    simp only [bne_iff_ne, ne_eq, Bool.or_eq_true, decide_eq_true_eq] at *
    rw [if_neg (by simpa using h3)]
    rw [← Array.foldl_toList, Array.toList_zipIdx]
    rw [e1, ih]
    simp
theorem buildSlice_all {t e : TypeId} {z : Value} {s by_ : Nat} (vs : List Value) (cs : List Value) (hu : P.underlying t = some (.slice e)) (hinfo : (P.info? e).map (fun i => (i.zero, i.size, i.bytes)) = some (some z, s, by_)) (hzs : z.cells.size = s) (hs0 : Nat.blt 0 s = true)
    (hv : (vs.all fun v => Nat.beq v.cells.size s) = true) (hcs : (vs.map fun v => v.cells.toList).flatten = cs) (hsmall : Nat.ble (vs.length * s) 16777216 = true) (w : World) :
    (Instr.buildSlice t vs.length (partsFrom 0 vs).toArray).run P w = .ok (.slice (some ⟨w.heap.size, 0, none⟩) vs.length vs.length) (w.alloc (.cells cs.toArray e)) := by
  obtain ⟨i, hi, hzz⟩ := Option.map_eq_some_iff.1 hinfo
  simp only [Prod.mk.injEq] at hzz
  have hs1 : 0 < s := by simpa using hs0
  have hsm : ¬ vs.length * s > 2 ^ 24 := by have := Nat.le_of_ble_eq_true hsmall; omega
  have hfill := fill_all s vs (vs.map fun v => v.cells.toList) 0 [] ((Array.range (vs.length * s)).map (z.cells[· % z.cells.size]!)).toList (by simp) rfl (fun c hc => by
    simp only [List.mem_map] at hc
    obtain ⟨v, hv1, rfl⟩ := hc
    have := List.all_eq_true.1 hv v hv1
    simpa using Nat.eq_of_beq_eq_true this) (by simp)
  simp only [List.nil_append, Array.toArray_toList] at hfill
  rw [hcs] at hfill
  by_cases hz : vs.length * s = 0
  · have : vs = [] := by
      rcases Nat.mul_eq_zero.1 hz with h | h
      · exact List.eq_nil_of_length_eq_zero h
      · omega
    subst this
    simp at hcs
    subst hcs
    simp [Instr.buildSlice, run_underlying hu, sizeOf, typeInfo, hi, partsFrom, Instr.fill, newRow, Array.range_zero']
  · simp [Instr.buildSlice, run_underlying hu, sizeOf, typeInfo, zeroValue, hi, hzz.1, hzz.2.1, hsm, hz, hfill, newRow]
/-- A literal slice, all elements in order. -/
theorem Ow.lit {t e : TypeId} {len : Nat} {z : Value} {s by_ : Nat} {ps : List (Nat × Operand)} {vs cs : List Value} (hu : P.underlying t = some (.slice e)) (hinfo : (P.info? e).map (fun i => (i.zero, i.size, i.bytes)) = some (some z, s, by_)) (hzs : z.cells.size = s) (hs0 : Nat.blt 0 s = true)
    (hp : L.parts ps = some (partsFrom 0 vs)) (hlen : vs.length = len) (hv : (vs.all fun v => Nat.beq v.cells.size s) = true) (hcs : (vs.map fun v => v.cells.toList).flatten = cs) (hsmall : Nat.ble (vs.length * s) 16777216 = true) :
    Ow P n w0 F0 ⟨dst, .buildSlice t len ps.toArray, ty, pos, aft, g⟩ L H (fun v H' => ∃ b, v = .slice (some ⟨b, 0, none⟩) len len ∧ H' = blk b cs e :: H) := by
  subst hlen
  exact Ow.buildSlice hp (buildSlice_all vs cs hu hinfo hzs hs0 hv hcs hsmall)

/-! ### Slices that are read -/
/-- n elements of s cells each lie at A: the cells xs. -/
def Rd (w : World) (A : Option Addr) (s m : Nat) (xs : List Value) : Prop :=
  xs.length = m * s ∧ m ≤ 4611686018427387904 ∧ (0 < m → ∃ b o, A = some ⟨b, o, none⟩ ∧ b < w.heap.size ∧ ∀ j u, xs[j]? = some u → w.cell? ⟨b, o + j, none⟩ = some u)
theorem Rd.below {w w' : World} {A : Option Addr} {s m : Nat} {xs : List Value} (h : Rd w A s m xs) (hb : Gr w w') : Rd w' A s m xs :=
  ⟨h.1, h.2.1, fun hm => by
    obtain ⟨b, o, hA, hlt, hc⟩ := h.2.2 hm
    exact ⟨b, o, hA, Nat.lt_of_lt_of_le hlt hb.size, fun j u hu => hb.cell (hc j u hu)⟩⟩
theorem Rd.nil (w : World) (A : Option Addr) (s : Nat) : Rd w A s 0 [] := ⟨by simp, by omega, fun h => absurd h (by omega)⟩
theorem row_rd {w : World} {F : Nat → Prop} {A : Option Addr} {c : Nat} {e : TypeId} {s m : Nat} {xs : List Value} (h : (row (.slice A m c) e s m xs).holds w F) (hm : m ≤ 4611686018427387904) : Rd w A s m xs := by
  refine ⟨h.1.1, hm, fun h0 => ?_⟩
  have h' := h
  rcases h.1.2 with ⟨h2, h3⟩ | ⟨g, cp, cur, hv, hg, hh, hn, hmx, hc, ht⟩
  · omega
  · cases hv
    exact ⟨g, 0, rfl, (Array.getElem?_eq_some_iff.1 hh).1, fun j u hu => by rw [Nat.zero_add]; exact row_cell h' hu⟩
theorem blk_rd {w : World} {F : Nat → Prop} {b s m : Nat} {cs : List Value} {e : TypeId} (h : (blk b cs e).holds w F) (hl : cs.length = m * s) (hm : m ≤ 4611686018427387904) : Rd w (some ⟨b, 0, none⟩) s m cs :=
  ⟨hl, hm, fun _ => ⟨b, 0, rfl, (Array.getElem?_eq_some_iff.1 h.1).1, fun j u hu => by rw [Nat.zero_add, cell_row h.1, hu]⟩⟩

/-- append: what is appended is read anywhere. -/
theorem Ow.appendRd {t e : TypeId} {x y : Operand} {v z : Value} {s by_ m k c : Nat} {A : Option Addr} {xs cs : List Value} (i : Nat) (hu : P.underlying t = some (.slice e)) (hinfo : (P.info? e).map (fun i => (i.zero, i.size, i.bytes)) = some (some z, s, by_)) (hzs : z.cells.size = s) (hsz : Nat.blt 0 s = true)
    (hx : L.ev x = some v) (hi : H[i]? = some (row v e s m xs)) (hy : L.ev y = some (.slice A k c)) (hA : A ≠ none) (hr : ∀ w, St w0 F0 w H → Rd w A s k cs) (h1 : ∀ u ∈ cs, u.oneCell' = true)
    (h63 : m + k ≤ 4611686018427387904) (hbytes : (m + k) * by_ ≤ 140737488355328) :
    Ow P n w0 F0 ⟨dst, .call ⟨.builtin .append, #[x, y], #[t, t]⟩, ty, pos, aft, g⟩ L H (fun u H' => H' = H.set i (row u e s (m + k) (xs ++ cs))) := by
  intro a w hf hs K Q hK
  obtain ⟨inf, hinf, hzz⟩ := Option.map_eq_some_iff.1 hinfo
  simp only [Prod.mk.injEq] at hzz
  obtain ⟨F, hF, _⟩ := hs.get i hi
  obtain ⟨hl, _, hrd⟩ := hr w hs
  obtain ⟨ad, rfl⟩ := Option.ne_none_iff_exists'.1 hA
  obtain ⟨v', w', hrun, hown, hgr, _, hloc⟩ := run_append_own_at (P := P) w 0 t ty e inf z s by_ hu hinf hzz.1 hzz.2.1 hzz.2.2 hzs (by simpa using hsz) v m xs hF.1 ad k c cs hl
    (fun q u hq => by
      have hk : 0 < k := by
        rcases Nat.eq_zero_or_pos k with h | h
        · subst h; simp at hl; subst hl; simp at hq
        · exact h
      obtain ⟨b, o, hAb, _, hc⟩ := hrd hk
      simp at hAb; subst hAb
      rw [add_plain']; exact hc q u hq) h1 (by unfold maxLen; omega) hbytes (Nat.zero_le _)
  unfold Oper.wp execOp
  simp [hf.ev hx, hf.ev hy, resolve, invoke, builtin, hrun]
  refine hK v' _ w' rfl (hs.set i hi (fun F h => ⟨⟨hgr.os, hgr.tape, hgr.output, hgr.size, fun q hq hn => hgr.block q hq (fun e => hn ((h.2 q).2 e.symm)), run_drawn _ _ hrun⟩, fun q => v'.ownBlock = some q, ⟨hown, fun _ => Iff.rfl⟩, fun q hq => ?_⟩))
  have hlt := (hown.lt q hq).2
  rcases hloc with hl | hl
  · exact .inl ((h.2 q).2 (by rw [← hl]; exact hq))
  · rw [hl] at hq; simp at hq; subst hq; exact .inr ⟨Nat.le_refl _, hlt⟩

/-! ### A part of a slice -/
theorem Ow.slice {t e : TypeId} {x : Operand} {lo hi : Operand} {k k' : IntKind} {b o len cap s : Nat} {l h : Int} (hu : P.underlying t = some (.slice e)) (hz : ∀ w, (sizeOf e).run P w = .ok s w)
    (hx : L.ev x = some (.slice (some ⟨b, o, none⟩) len cap)) (hlo : L.ev lo = some (.int k l)) (hhi : L.ev hi = some (.int k' h)) (h0 : 0 ≤ l) (h1 : l ≤ h) (h2 : h ≤ cap) :
    Ow P n w0 F0 ⟨dst, .slice t x (some lo) (some hi) none, ty, pos, aft, g⟩ L H (fun v H' => ∃ A, v = .slice A (h.toNat - l.toNat) (cap - l.toNat) ∧ (l < cap → A = some ⟨b, o + l.toNat * s, none⟩) ∧ H' = H) := by
  intro a w hf hs K Q hK
  have he : P.elem t = e := by simp [Program.elem, hu]
  have hu' : P.underlying t = some (.slice (P.elem t)) := by rw [he]; exact hu
  unfold Oper.wp execOp
  simp [hf.ev hx, hf.ev hlo, hf.ev hhi, run_sliceAt_slice w t _ _ _ _ hu', run_slice_lh w t _ len cap hu' k k' l h h0 h1 h2, he, hz, sliced]
  refine hK _ _ _ ⟨_, rfl, fun hlt => ?_, rfl⟩ hs
  rw [if_neg (by omega), add_plain']
theorem Ow.slice3 {t e : TypeId} {x : Operand} {lo hi mx : Operand} {k k' k2 : IntKind} {b o len cap s : Nat} {l h m : Int} (hu : P.underlying t = some (.slice e)) (hz : ∀ w, (sizeOf e).run P w = .ok s w)
    (hx : L.ev x = some (.slice (some ⟨b, o, none⟩) len cap)) (hlo : L.ev lo = some (.int k l)) (hhi : L.ev hi = some (.int k' h)) (hmx : L.ev mx = some (.int k2 m)) (h0 : 0 ≤ l) (h1 : l ≤ h) (h2 : h ≤ m) (h3 : m ≤ cap) :
    Ow P n w0 F0 ⟨dst, .slice t x (some lo) (some hi) (some mx), ty, pos, aft, g⟩ L H (fun v H' => ∃ A, v = .slice A (h.toNat - l.toNat) (m.toNat - l.toNat) ∧ (l < m → A = some ⟨b, o + l.toNat * s, none⟩) ∧ H' = H) := by
  intro a w hf hs K Q hK
  have he : P.elem t = e := by simp [Program.elem, hu]
  have hu' : P.underlying t = some (.slice (P.elem t)) := by rw [he]; exact hu
  unfold Oper.wp execOp
  simp [hf.ev hx, hf.ev hlo, hf.ev hhi, hf.ev hmx, run_sliceAt_slice w t _ _ _ _ hu', run_slice_lhm w t _ len cap hu' k k' k2 l h m h0 h1 h2 h3, he, hz, sliced]
  refine hK _ _ _ ⟨_, rfl, fun hlt => ?_, rfl⟩ hs
  rw [if_neg (by omega), add_plain']
/-! ### What a call hands out -/
theorem St.out {w w1 : World} {H : List Ass} (hs : St w none0 w1 H) (i : Nat) {Φ : Ass} (hi : H[i]? = some Φ) : ∃ F : Nat → Prop, Φ.holds w1 F ∧ ∀ k, F k → w.heap.size ≤ k ∧ k < w1.heap.size := by
  obtain ⟨F, h1, h2⟩ := hs.get i hi
  exact ⟨F, h1, fun k hk => ⟨((h2 k hk).1).elim (fun h => h.elim) id, (h2 k hk).2⟩⟩
theorem St.rowOf {w : World} {b m s : Nat} {cs : List Value} {e : TypeId} (hs : St w0 F0 w H) (i : Nat) (hi : H[i]? = some (blk b cs e)) (hl : cs.length = m * s) (hm : m ≤ 4611686018427387904) : St w0 F0 w (H.set i (row (.slice (some ⟨b, 0, none⟩) m m) e s m cs)) :=
  hs.conv i hi (fun F hF => Ass.row_of_blk hl (by unfold maxLen; omega) hF)
theorem St.row_eq {w : World} {v : Value} {e : TypeId} {s m m' : Nat} {xs xs' : List Value} (hs : St w0 F0 w H) (i : Nat) (hi : H[i]? = some (row v e s m xs)) (hm : m = m') (hx : xs = xs') : St w0 F0 w (H.set i (row v e s m' xs')) := by
  subst hm; subst hx; exact hs.conv i hi (fun F hF => hF)
theorem St.row_slice {w : World} (hs : St w0 F0 w H) (i : Nat) {v : Value} {e : TypeId} {s m : Nat} {xs : List Value} (hi : H[i]? = some (row v e s m xs)) : ∃ A c, v = .slice A m c := by
  rcases (hs.row_form i hi).2.2 with ⟨rfl, rfl⟩ | ⟨g, cap, rfl⟩
  · exact ⟨none, 0, rfl⟩
  · exact ⟨_, _, rfl⟩
theorem St.row_some {w : World} (hs : St w0 F0 w H) (i : Nat) {A : Option Addr} {c : Nat} {e : TypeId} {s m : Nat} {xs : List Value} (hi : H[i]? = some (row (.slice A m c) e s m xs)) (hm : 0 < m) : ∃ b, A = some ⟨b, 0, none⟩ := by
  rcases (hs.row_form i hi).2.2 with ⟨_, rfl⟩ | ⟨g, cap, h⟩
  · omega
  · cases h; exact ⟨g, rfl⟩
theorem St.row_nn {w : World} (hs : St w0 F0 w H) (i : Nat) {A : Option Addr} {c : Nat} {e : TypeId} {s m : Nat} {xs : List Value} (hi : H[i]? = some (row (.slice A m c) e s m xs)) : A = none → m = 0 := by
  intro hA
  rcases (hs.row_form i hi).2.2 with ⟨_, rfl⟩ | ⟨g, cap, h⟩
  · rfl
  · cases h; cases hA
theorem St.row_Rd {w : World} (hs : St w0 F0 w H) (i : Nat) {A : Option Addr} {c : Nat} {e : TypeId} {s m : Nat} {xs : List Value} (hi : H[i]? = some (row (.slice A m c) e s m xs)) (hm : m ≤ 4611686018427387904) : Rd w A s m xs := by
  obtain ⟨F, h, _⟩ := hs.get i hi
  exact row_rd h hm
theorem St.blk_Rd {w : World} (hs : St w0 F0 w H) (i : Nat) {b m s : Nat} {cs : List Value} {e : TypeId} (hi : H[i]? = some (blk b cs e)) (hl : cs.length = m * s) (hm : m ≤ 4611686018427387904) : Rd w (some ⟨b, 0, none⟩) s m cs := by
  obtain ⟨F, hF, _⟩ := hs.get i hi
  exact blk_rd hF hl hm
theorem bits_nonneg {op : BinOp} {x y : Int} (hop : (match op with | .and | .or | .xor => true | _ => false) = true) (hx : 0 ≤ x ∧ x ≤ 9223372036854775807) (hy : 0 ≤ y ∧ y ≤ 9223372036854775807) : 0 ≤ Go.bits op .i64 x y ∧ Go.bits op .i64 x y ≤ 9223372036854775807 := by
  have e1 : ∀ z : Int, 0 ≤ z → z ≤ 9223372036854775807 → (BitVec.ofInt IntKind.i64.bits z).toNat < 2 ^ 63 := by
    intro z h0 h1
    show (BitVec.ofInt 64 z).toNat < 2 ^ 63
    rw [BitVec.toNat_ofInt]; omega
  have a := e1 x hx.1 hx.2
  have b := e1 y hy.1 hy.2
  have key : ∀ m : Nat, m < 2 ^ 63 → 0 ≤ IntKind.i64.wrap (m : Int) ∧ IntKind.i64.wrap (m : Int) ≤ 9223372036854775807 := by
    intro m hm; rw [wrap_i64 (by omega) (by omega)]; omega
  cases op <;> simp at hop <;> unfold Go.bits <;> simp only
  · exact key _ (by rw [BitVec.toNat_and]; exact Nat.and_lt_two_pow _ b)
  · exact key _ (by rw [BitVec.toNat_or]; exact Nat.or_lt_two_pow a b)
  · exact key _ (by rw [BitVec.toNat_xor]; exact Nat.xor_lt_two_pow a b)
end
end Go.Proofs.YtipoblpnkkcpgaaGreat.B
