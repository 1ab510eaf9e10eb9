/-
  straitlaw24.LevelFalls returns true, whatever the input; the input reads as it did. No condition.
-/
import Derived.Test.YtipoblpnkkcpgaaGreatRows
import Derived.Test.YtipoblpnkkcpgaaGreatLaw24
import Derived.Test.YtipoblpnkkcpgaaGreatRead
import Derived.WalkKit
import Derived.ProofKit
import Derived.OpenShut
import Derived.ShutString
import Derived.ChangeOld
import Derived.Below
import Derived.SizedLaws
namespace Go.Proofs.YtipoblpnkkcpgaaGreat
open Go Go.RowKit Go.WideShapes Go.ChangeShapes Go.ChangeAt Go.Proofs.YtipoblpnkkcpgaaGreat.B
set_option linter.unusedVariables false
set_option maxRecDepth 100000 in
theorem readOps {H : Type} {enc : TypeId × Value → H} {w : World} {base : Nat} {spare : Nat → Bool} {held : Bool} {fuel : Nat} {cs : List Value} {x : DataW H × List MemPlace}
    (h : DataW.trod enc Tryz.prog w base spare held fuel 23 cs = some x) : ∃ (A : Option Addr) (c : Nat) (l : List (Int × Int)), cs = [.slice A l.length c] ∧ (l.length ≤ 4611686018427387904 → Rd w A 2 l.length (cellsA l)) ∧ ∀ o ∈ l, (-9223372036854775808 ≤ o.1 ∧ o.1 ≤ 9223372036854775807) ∧ -9223372036854775808 ≤ o.2 ∧ o.2 ≤ 9223372036854775807 := by
  have c2 : Tryz.prog.cellsOf 45 = 2 := by kernel_rfl
  have c1 : Tryz.prog.cellsOf 3 = 1 := by kernel_rfl
  have c1' : Tryz.prog.cellsOf 2 = 1 := by kernel_rfl
  rcases Deep.open_slice_pairs Tryz.underlying23 Tryz.underlying45 c2 rfl rfl c1 c1' h with ⟨rfl, _⟩ | ⟨a, len, cap, m, n, V0, V1, D0, D1, P0, P1, rfl, hb, hl, hm, hmm, _, hx⟩
  · exact ⟨none, 0, [], rfl, fun _ => Rd.nil _ _ _, by simp⟩
  · have hlm : len ≤ m := by rw [hmm]; split <;> omega
    have hall : ∀ i, i < len → ∃ e : Int × Int, w.cell? (a.add (i * 2)) = some (.int .i64 e.1) ∧ w.cell? (a.add (i * 2 + 1)) = some (.int .i64 e.2) ∧ (-9223372036854775808 ≤ e.1 ∧ e.1 ≤ 9223372036854775807) ∧ -9223372036854775808 ≤ e.2 ∧ e.2 ≤ 9223372036854775807 := by
      intro i hi
      obtain ⟨h0, h1, t0, t1⟩ := hx i (by omega)
      obtain ⟨i0, e0, _, w0⟩ := DataW.trod_int Tryz.underlying3 t0
      obtain ⟨i1, e1, _, w1⟩ := DataW.trod_int Tryz.underlying2 t1
      simp at e0 e1
      exact ⟨(i0, i1), by rw [h0, e0], by rw [h1, e1], bd_i64 w0, bd_i64 w1⟩
    obtain ⟨l, hl', hp⟩ := exists_list _ len hall
    subst hl'
    refine ⟨some a, cap, l, rfl, fun hle => ⟨cellsA_length l, hle, fun h0 => ?_⟩, fun e he => ?_⟩
    case refine_2 =>
      obtain ⟨i, hi, rfl⟩ := List.mem_iff_getElem.1 he
      exact (hp i _ (List.getElem?_eq_getElem hi)).2.2
    obtain ⟨e0, he0⟩ : ∃ e, l[0]? = some e := ⟨_, List.getElem?_eq_getElem h0⟩
    have hc0 := (hp 0 e0 he0).1
    obtain ⟨bb, oo, ss⟩ := a
    have hss : ss = none := by
      cases ss with
      | none => rfl
      | some q => simp [Addr.add, World.cell?] at hc0; split at hc0 <;> simp_all
    subst hss
    refine ⟨bb, oo, rfl, ?_, fun j u hj => ?_⟩
    · rw [add_plain'] at hc0
      unfold World.cell? at hc0
      split at hc0
      · rename_i hq; exact (Array.getElem?_eq_some_iff.1 hq).1
      · cases hc0
    · have hjl : j < l.length * 2 := by rw [← cellsA_length]; exact (List.getElem?_eq_some_iff.1 hj).1
      obtain ⟨e, he⟩ : ∃ e, l[j / 2]? = some e := ⟨_, List.getElem?_eq_getElem (by omega)⟩
      obtain ⟨g0, g1⟩ := cellsA_get l (j / 2) e he
      obtain ⟨p0, p1, _⟩ := hp (j / 2) e he
      rw [add_plain'] at p0 p1
      rcases Nat.mod_two_eq_zero_or_one j with hm2 | hm2
      · rw [show j / 2 * 2 + 0 = j by omega, hj] at g0; cases g0
        rwa [show j / 2 * 2 = j by omega] at p0
      · rw [show j / 2 * 2 + 1 = j by omega, hj] at g1; cases g1
        rwa [show j / 2 * 2 + 1 = j by omega] at p1

section
variable {H : Type} {enc : TypeId × Value → H} {P : Program} {w : World} {base : Nat} {spare : Nat → Bool} {held : Bool}
theorem trod_struct5 {t : TypeId} {f0 f1 f2 f3 f4 : Field} {fuel : Nat} {cs : List Value} {x : DataW H × List MemPlace} (ht : P.underlying t = some (.struct #[f0, f1, f2, f3, f4])) (h : DataW.trod enc P w base spare held fuel t cs = some x) :
    ∃ y0 y1 y2 n, cs.length = P.cellsOf t ∧ DataW.trod enc P w base spare held n f0.type ((cs.drop f0.offset).take (P.cellsOf f0.type)) = some y0 ∧
      DataW.trod enc P w base spare held n f1.type ((cs.drop f1.offset).take (P.cellsOf f1.type)) = some y1 ∧ DataW.trod enc P w base spare held n f2.type ((cs.drop f2.offset).take (P.cellsOf f2.type)) = some y2 := by
  obtain ⟨xs, n, _, rfl, hl, hlen, hf⟩ := DataW.trod_struct ht h
  match xs, hlen with
  | [y0, y1, y2, y3, y4], _ => exact ⟨y0, y1, y2, n, hl, by simpa using hf 0 f0 rfl, by simpa using hf 1 f1 rfl, by simpa using hf 2 f2 rfl⟩
end
set_option maxRecDepth 100000 in
theorem readWhere {H : Type} {enc : TypeId × Value → H} {W : World} {r : Reach} {b0 : Nat} {sp : Nat → Bool} {held : Bool} {v : Value} {d : DataW H} {ps : List MemPlace} (hv : Value.okWide Tryz.prog W r b0 69 v) (h : DataW.Trod enc Tryz.prog W 0 sp held 69 v d ps) :
    ∃ (A : Option Addr) (c : Nat) (l : List (Int × Int)) (S T : Int) (V3 V4 : Value), v = .agg #[.slice A l.length c, .int .i64 S, .int .i64 T, V3, V4] ∧ (l.length ≤ 4611686018427387904 → Rd W A 2 l.length (cellsA l)) ∧ ∀ o ∈ l, (-9223372036854775808 ≤ o.1 ∧ o.1 ≤ 9223372036854775807) ∧ -9223372036854775808 ≤ o.2 ∧ o.2 ≤ 9223372036854775807 := by
  obtain ⟨cs, rfl, hsz⟩ := okWide_struct Tryz.underlying69 hv
  obtain ⟨f, hf⟩ := h
  obtain ⟨y0, y1, y2, n, hl, t0, t1, t2⟩ := trod_struct5 Tryz.underlying69 hf
  have c5 : Tryz.prog.cellsOf 69 = 5 := by kernel_rfl
  have c1 : Tryz.prog.cellsOf 3 = 1 := by kernel_rfl
  have cs1 : Tryz.prog.cellsOf 23 = 1 := by kernel_rfl
  rw [c5] at hsz
  obtain ⟨l⟩ := cs
  match l, hsz with
  | [a, b, c, e, g], _ =>
    simp only [c1, cs1, Value.cells] at t0 t1 t2
    obtain ⟨A, cap, xs, e0, rd, bd⟩ := readOps t0
    obtain ⟨i1, e1, _, _⟩ := DataW.trod_int Tryz.underlying3 t1
    obtain ⟨i2, e2, _, _⟩ := DataW.trod_int Tryz.underlying3 t2
    simp at e0 e1 e2
    subst e0; subst e1; subst e2
    exact ⟨A, cap, xs, i1, i2, e, g, rfl, rd, bd⟩

end Go.Proofs.YtipoblpnkkcpgaaGreat
namespace Go.Proofs.YtipoblpnkkcpgaaGreat.levelFalls
open Go.ChangeShapes Go.WideShapes Go.ChangeAt Go.RowKit
set_option linter.unusedVariables false
theorem own : ownKnob Tryz.prog.godebug = none := by kernel_rfl
theorem laidOut : laidOutB Tryz.prog = true := by kernel_rfl
set_option maxRecDepth 100000 in
theorem lifted (os : Os) (started : os.Started) (H : Type) (enc : TypeId × Value → H) :
    ReturnsInHanded {} Tryz.checked os 5 .any (Rows.levelFallsSpec.pre6 enc Tryz.prog Tryz.f5 Rows.levelFallsRow.domain false) (Rows.levelFallsSpec.post enc Tryz.prog Tryz.f5 false true false false) := by
  refine returnsInHanded_of_change_sized (C := Tryz.checked) own started (by kernel_rfl) Tryz.func5
    (ChangeSpec.witness6 (enc := enc) (C := Tryz.checked) false ⟨#[], #[.int .u8 0, .slice none 0 0, .agg #[.slice none 0 0, .int .i64 0, .int .i64 0, .slice none 0 0, .slice none 0 0]], []⟩ 8 (by kernel_rfl) (by kernel_rfl) (by kernel_rfl) (by kernel_rfl)) ?_
  intro W base args ds gs before hval0 hW hcnd hsz0 _
  have hval : ∀ (j : Nat) t v, Tryz.f5.params[j]? = some t → args[j]? = some v → Value.okWide Tryz.prog W .any base t v := hval0
  have hW' := hW
  obtain ⟨p, q, hA0, hV, rfl, hfz, hnd⟩ := hW
  have hA : DataW.TrodAll enc Tryz.prog W 0 (fun _ => true) true Tryz.f5.params.toList args.toList ds p := hA0
  rw [Tryz.params5] at hA hval
  obtain ⟨v0, vs0, d0, ds0, p0, q0, hargs, rfl, rfl, h0, r0⟩ := trodAll_cons hA
  obtain ⟨v1, vs1, d1, ds1, p1, q1, rfl, rfl, rfl, h1, r1⟩ := trodAll_cons r0
  obtain ⟨v2, vs2, d2, ds2, p2, q2, rfl, rfl, rfl, h2, r2⟩ := trodAll_cons r1
  obtain ⟨rfl, rfl, rfl⟩ := trodAll_nil r2
  obtain rfl : args = #[v0, v1, v2] := by cases args; simp_all
  obtain ⟨rfl, rfl⟩ := trodVars_none hV
  have k0 := h0
  have lt0 : ∀ x ∈ p0, x.block < W.heap.size := by obtain ⟨m, hm⟩ := k0; exact DataW.trod_lt m _ _ _ hm
  have k1 := h1
  have lt1 : ∀ x ∈ p1, x.block < W.heap.size := by obtain ⟨m, hm⟩ := k1; exact DataW.trod_lt m _ _ _ hm
  have k2 := h2
  have lt2 : ∀ x ∈ p2, x.block < W.heap.size := by obtain ⟨m, hm⟩ := k2; exact DataW.trod_lt m _ _ _ hm
  obtain ⟨n, rfl, rfl, rfl, wn⟩ := open_int Tryz.underlying5 (hval 0 5 v0 rfl rfl) h0
  replace wn := bd_u8 wn
  obtain ⟨a1, len1, cap1, rfl⟩ := okWide_slice Tryz.underlying22 (hval 1 22 v1 rfl rfl)
  obtain ⟨f1, hf1⟩ := h1
  obtain ⟨A1, c1, l1, e1, rd1, we1⟩ := readE hf1
  simp [Value.cells] at e1
  obtain ⟨rfl, rfl, rfl⟩ := e1
  obtain ⟨B, dB, lB, yS, yT, V3, V4, rfl, rdB, bdB⟩ := readWhere (hval 2 69 v2 rfl rfl) h2
  clear hA0 hval0 hsz0
  refine (levelFallsLaw n wn a1 cap1 l1 B dB lB yS yT V3 V4 W rd1 rdB bdB).mono fun e W' ⟨he, gr⟩ => ?_
  have bel := gr.below
  subst he
  exact ⟨_, rfl, _, _, _, [], _, [], hW', trodAll_mk1 (shut_bool Tryz.underlying4 _), (trodAll_cons_mk (Below.trod laidOut (by kernel_rfl) (of_decide_eq_true (by kernel_rfl)) k0 bel lt0) (trodAll_cons_mk (Below.trod laidOut (by kernel_rfl) (of_decide_eq_true (by kernel_rfl)) k1 bel lt1) (trodAll_cons_mk (Below.trod laidOut (by kernel_rfl) (of_decide_eq_true (by kernel_rfl)) k2 bel lt2) trodAll_mk0))), rfl, bel.frame _, fun h => by cases h⟩
theorem over : Rows.levelFallsRow.holds Tryz.pinned (OpenSpec.ofChange Rows.levelFallsSpec) :=
  OpenClaim.holds_of_wide 5 Tryz.f5 rfl rfl rfl rfl rfl rfl rfl ⟨rfl, rfl, rfl, rfl, rfl⟩ rfl rfl rfl rfl rfl (by kernel_rfl) Tryz.func5 (by kernel_rfl)
    (of_decide_eq_true (by kernel_rfl)) (by unfold Func.isWrapper; first | (rw [if_pos (by decide +kernel)]; kernel_rfl) | (rw [if_neg (by decide +kernel)]; exact ⟨rfl, rfl⟩))
    (fun os started H enc _ => lifted os started H enc)
theorem proved : Rows.LevelFallsSaid := over
#print axioms proved
end Go.Proofs.YtipoblpnkkcpgaaGreat.levelFalls
namespace Go.Proofs.YtipoblpnkkcpgaaGreat
/-- The row, under a short name, for the claim. -/
theorem levelFalls_holds : Rows.LevelFallsSaid := levelFalls.proved
end Go.Proofs.YtipoblpnkkcpgaaGreat
