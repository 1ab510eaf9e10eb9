/-
  straitlaw40.ContractTells returns true, whatever the input; the input reads as it did. No condition.
-/
import Derived.Test.YtipoblpnkkcpgaaRows
import Derived.Test.YtipoblpnkkcpgaaLaw40
import Derived.Test.YtipoblpnkkcpgaaRead
import Derived.WalkKit
import Derived.ProofKit
import Derived.OpenShut
import Derived.ShutString
import Derived.ChangeOld
import Derived.Below
import Derived.SizedLaws
namespace Go.Proofs.Ytipoblpnkkcpgaa
open Go Go.RowKit Go.WideShapes Go.ChangeShapes Go.ChangeAt Go.Proofs.Ytipoblpnkkcpgaa.B
set_option linter.unusedVariables false
set_option maxRecDepth 100000 in
theorem readAsk {H : Type} {enc : TypeId × Value → H} {W : World} {r : Reach} {b0 : Nat} {sp : Nat → Bool} {held : Bool} {v : Value} {d : DataW H} {ps : List MemPlace} (hv : Value.okWide Try.prog W r b0 48 v) (h : DataW.Trod enc Try.prog W 0 sp held 48 v d ps) :
    ∃ (K : Int) (A : Option Addr) (c : Nat) (l : List Int) (U V : Int), v = .agg #[.int .i64 K, .slice A l.length c, .int .i64 U, .int .i64 V] ∧ (-9223372036854775808 ≤ K ∧ K ≤ 9223372036854775807) ∧ (-9223372036854775808 ≤ U ∧ U ≤ 9223372036854775807) ∧ (-9223372036854775808 ≤ V ∧ V ≤ 9223372036854775807) ∧ (l.length ≤ 4611686018427387904 → Rd W A 1 l.length (i64s l)) := by
  obtain ⟨cs, rfl, hsz⟩ := okWide_struct Try.underlying48 hv
  obtain ⟨f, hf⟩ := h
  obtain ⟨y0, y1, y2, y3, n, hl, t0, t1, t2, t3⟩ := trod_struct4 Try.underlying48 hf
  have c4 : Try.prog.cellsOf 48 = 4 := by kernel_rfl
  have c1 : Try.prog.cellsOf 3 = 1 := by kernel_rfl
  have cs1 : Try.prog.cellsOf 32 = 1 := by kernel_rfl
  rw [c4] at hsz
  obtain ⟨l⟩ := cs
  match l, hsz with
  | [a, b, c, e], _ =>
    simp only [c1, cs1, Value.cells] at t0 t1 t2 t3
    obtain ⟨i0, e0, _, w0⟩ := DataW.trod_int Try.underlying3 t0
    obtain ⟨A, cap, xs, e1, rd, _⟩ := readInts Try.underlying32 Try.underlying3 c1 t1
    obtain ⟨i2, e2, _, w2⟩ := DataW.trod_int Try.underlying3 t2
    obtain ⟨i3, e3, _, w3⟩ := DataW.trod_int Try.underlying3 t3
    simp at e0 e1 e2 e3
    subst e0; subst e1; subst e2; subst e3
    exact ⟨i0, A, cap, xs, i2, i3, rfl, bd_i64 w0, bd_i64 w2, bd_i64 w3, rd⟩

end Go.Proofs.Ytipoblpnkkcpgaa
namespace Go.Proofs.Ytipoblpnkkcpgaa.contractTells
open Go.ChangeShapes Go.WideShapes Go.ChangeAt Go.RowKit
set_option linter.unusedVariables false
theorem own : ownKnob Try.prog.godebug = none := by kernel_rfl
theorem laidOut : laidOutB Try.prog = true := by kernel_rfl
set_option maxRecDepth 100000 in
theorem lifted (os : Os) (started : os.Started) (H : Type) (enc : TypeId × Value → H) :
    ReturnsInHanded {} Try.checked os 5 .any (Rows.contractTellsSpec.pre6 enc Try.prog Try.f5 Rows.contractTellsRow.domain false) (Rows.contractTellsSpec.post enc Try.prog Try.f5 false true false false) := by
  refine returnsInHanded_of_change_sized (C := Try.checked) own started (by kernel_rfl) Try.func5
    (ChangeSpec.witness6 (enc := enc) (C := Try.checked) false ⟨#[], #[.int .u8 0, .slice none 0 0, .agg #[.int .i64 0, .slice none 0 0, .int .i64 0, .int .i64 0]], []⟩ 8 (by kernel_rfl) (by kernel_rfl) (by kernel_rfl) (by kernel_rfl)) ?_
  intro W base args ds gs before hval0 hW hcnd hsz0 _
  have hval : ∀ (j : Nat) t v, Try.f5.params[j]? = some t → args[j]? = some v → Value.okWide Try.prog W .any base t v := hval0
  have hW' := hW
  obtain ⟨p, q, hA0, hV, rfl, hfz, hnd⟩ := hW
  have hA : DataW.TrodAll enc Try.prog W 0 (fun _ => true) true Try.f5.params.toList args.toList ds p := hA0
  rw [Try.params5] at hA hval
  obtain ⟨v0, vs0, d0, ds0, p0, q0, hargs, rfl, rfl, h0, r0⟩ := trodAll_cons hA
  obtain ⟨v1, vs1, d1, ds1, p1, q1, rfl, rfl, rfl, h1, r1⟩ := trodAll_cons r0
  obtain ⟨v2, vs2, d2, ds2, p2, q2, rfl, rfl, rfl, h2, r2⟩ := trodAll_cons r1
  obtain ⟨rfl, rfl, rfl⟩ := trodAll_nil r2
  obtain rfl : args = #[v0, v1, v2] := by cases args; simp_all
  obtain ⟨rfl, rfl⟩ := trodVars_none hV
  have k0 := h0
  have lt0 : ∀ x ∈ p0, x.block < W.heap.size := by obtain ⟨m, hm⟩ := k0; exact DataW.trod_lt m _ _ _ hm
  have k1 := h1
  have lt1 : ∀ x ∈ p1, x.block < W.heap.size := by obtain ⟨m, hm⟩ := k1; exact DataW.trod_lt m _ _ _ hm
  have k2 := h2
  have lt2 : ∀ x ∈ p2, x.block < W.heap.size := by obtain ⟨m, hm⟩ := k2; exact DataW.trod_lt m _ _ _ hm
  obtain ⟨n, rfl, rfl, rfl, wn⟩ := open_int Try.underlying5 (hval 0 5 v0 rfl rfl) h0
  replace wn := bd_u8 wn
  obtain ⟨a1, len1, cap1, rfl⟩ := okWide_slice Try.underlying22 (hval 1 22 v1 rfl rfl)
  obtain ⟨f1, hf1⟩ := h1
  obtain ⟨A1, c1, l1, e1, rd1, we1⟩ := readE hf1
  simp [Value.cells] at e1
  obtain ⟨rfl, rfl, rfl⟩ := e1
  obtain ⟨K, B, dB, lB, U, V, rfl, wK, wU, wV, rdB⟩ := readAsk (hval 2 48 v2 rfl rfl) h2
  clear hA0 hval0 hsz0
  refine (contractTellsLaw n wn a1 cap1 l1 K U V wK wU wV B dB lB W rd1 rdB).mono fun e W' ⟨he, gr⟩ => ?_
  have bel := gr.below
  subst he
  exact ⟨_, rfl, _, _, _, [], _, [], hW', trodAll_mk1 (shut_bool Try.underlying4 _), (trodAll_cons_mk (Below.trod laidOut (by kernel_rfl) (of_decide_eq_true (by kernel_rfl)) k0 bel lt0) (trodAll_cons_mk (Below.trod laidOut (by kernel_rfl) (of_decide_eq_true (by kernel_rfl)) k1 bel lt1) (trodAll_cons_mk (Below.trod laidOut (by kernel_rfl) (of_decide_eq_true (by kernel_rfl)) k2 bel lt2) trodAll_mk0))), rfl, bel.frame _, fun h => by cases h⟩
theorem over : Rows.contractTellsRow.holds Try.pinned (OpenSpec.ofChange Rows.contractTellsSpec) :=
  OpenClaim.holds_of_wide 5 Try.f5 rfl rfl rfl rfl rfl rfl rfl ⟨rfl, rfl, rfl, rfl, rfl⟩ rfl rfl rfl rfl rfl (by kernel_rfl) Try.func5 (by kernel_rfl)
    (of_decide_eq_true (by kernel_rfl)) (by unfold Func.isWrapper; first | (rw [if_pos (by decide +kernel)]; kernel_rfl) | (rw [if_neg (by decide +kernel)]; exact ⟨rfl, rfl⟩))
    (fun os started H enc _ => lifted os started H enc)
theorem proved : Rows.ContractTellsSaid := over
#print axioms proved
end Go.Proofs.Ytipoblpnkkcpgaa.contractTells
namespace Go.Proofs.Ytipoblpnkkcpgaa
/-- The row, under a short name, for the claim. -/
theorem contractTells_holds : Rows.ContractTellsSaid := contractTells.proved
end Go.Proofs.Ytipoblpnkkcpgaa
