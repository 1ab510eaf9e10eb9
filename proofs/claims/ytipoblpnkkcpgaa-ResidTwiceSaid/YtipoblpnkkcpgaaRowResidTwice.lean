/-
  straitlaw23.ResidTwice returns true, whatever the input; the input reads as it did. No condition.
-/
import Derived.Test.YtipoblpnkkcpgaaRows
import Derived.Test.YtipoblpnkkcpgaaLaw23b
import Derived.Test.YtipoblpnkkcpgaaRead
import Derived.WalkKit
import Derived.ProofKit
import Derived.OpenShut
import Derived.ShutString
import Derived.ChangeOld
import Derived.Below
import Derived.SizedLaws
namespace Go.Proofs.Ytipoblpnkkcpgaa
open Go Go.RowKit Go.WideShapes Go.ChangeShapes Go.ChangeAt Go.Proofs.Ytipoblpnkkcpgaa.B
set_option linter.unusedVariables false
set_option maxRecDepth 100000 in
theorem readOps {H : Type} {enc : TypeId × Value → H} {w : World} {base : Nat} {spare : Nat → Bool} {held : Bool} {fuel : Nat} {cs : List Value} {x : DataW H × List MemPlace}
    (h : DataW.trod enc Try.prog w base spare held fuel 61 cs = some x) : ∃ (A : Option Addr) (c : Nat) (l : List (Int × Int)), cs = [.slice A l.length c] ∧ (l.length ≤ 4611686018427387904 → Rd w A 2 l.length (cellsA l)) := by
  have c2 : Try.prog.cellsOf 70 = 2 := by kernel_rfl
  have c1 : Try.prog.cellsOf 3 = 1 := by kernel_rfl
  have c1' : Try.prog.cellsOf 2 = 1 := by kernel_rfl
  rcases Deep.open_slice_pairs Try.underlying61 Try.underlying70 c2 rfl rfl c1 c1' h with ⟨rfl, _⟩ | ⟨a, len, cap, m, n, V0, V1, D0, D1, P0, P1, rfl, hb, hl, hm, hmm, _, hx⟩
  · exact ⟨none, 0, [], rfl, fun _ => Rd.nil _ _ _⟩
  · have hlm : len ≤ m := by rw [hmm]; split <;> omega
    have hall : ∀ i, i < len → ∃ e : Int × Int, w.cell? (a.add (i * 2)) = some (.int .i64 e.1) ∧ w.cell? (a.add (i * 2 + 1)) = some (.int .i64 e.2) := by
      intro i hi
      obtain ⟨h0, h1, t0, t1⟩ := hx i (by omega)
      obtain ⟨i0, e0, _, _⟩ := DataW.trod_int Try.underlying3 t0
      obtain ⟨i1, e1, _, _⟩ := DataW.trod_int Try.underlying2 t1
      simp at e0 e1
      exact ⟨(i0, i1), by rw [h0, e0], by rw [h1, e1]⟩
    obtain ⟨l, hl', hp⟩ := exists_list _ len hall
    subst hl'
    refine ⟨some a, cap, l, rfl, fun hle => ⟨cellsA_length l, hle, fun h0 => ?_⟩⟩
    obtain ⟨e0, he0⟩ : ∃ e, l[0]? = some e := ⟨_, List.getElem?_eq_getElem h0⟩
    have hc0 := (hp 0 e0 he0).1
    obtain ⟨bb, oo, ss⟩ := a
    have hss : ss = none := by
      cases ss with
      | none => rfl
      | some q => simp [Addr.add, World.cell?] at hc0; split at hc0 <;> simp_all
    subst hss
    refine ⟨bb, oo, rfl, ?_, fun j u hj => ?_⟩
    · rw [add_plain'] at hc0
      unfold World.cell? at hc0
      split at hc0
      · rename_i hq; exact (Array.getElem?_eq_some_iff.1 hq).1
      · cases hc0
    · have hjl : j < l.length * 2 := by rw [← cellsA_length]; exact (List.getElem?_eq_some_iff.1 hj).1
      obtain ⟨e, he⟩ : ∃ e, l[j / 2]? = some e := ⟨_, List.getElem?_eq_getElem (by omega)⟩
      obtain ⟨g0, g1⟩ := cellsA_get l (j / 2) e he
      obtain ⟨p0, p1⟩ := hp (j / 2) e he
      rw [add_plain'] at p0 p1
      rcases Nat.mod_two_eq_zero_or_one j with hm2 | hm2
      · rw [show j / 2 * 2 + 0 = j by omega, hj] at g0; cases g0
        rwa [show j / 2 * 2 = j by omega] at p0
      · rw [show j / 2 * 2 + 1 = j by omega, hj] at g1; cases g1
        rwa [show j / 2 * 2 + 1 = j by omega] at p1

end Go.Proofs.Ytipoblpnkkcpgaa
namespace Go.Proofs.Ytipoblpnkkcpgaa.residTwice
open Go.ChangeShapes Go.WideShapes Go.ChangeAt Go.RowKit
set_option linter.unusedVariables false
theorem own : ownKnob Try.prog.godebug = none := by kernel_rfl
theorem laidOut : laidOutB Try.prog = true := by kernel_rfl
set_option maxRecDepth 100000 in
theorem lifted (os : Os) (started : os.Started) (H : Type) (enc : TypeId × Value → H) :
    ReturnsInHanded {} Try.checked os 6 .any (Rows.residTwiceSpec.pre6 enc Try.prog Try.f6 Rows.residTwiceRow.domain false) (Rows.residTwiceSpec.post enc Try.prog Try.f6 false true false false) := by
  refine returnsInHanded_of_change_sized (C := Try.checked) own started (by kernel_rfl) Try.func6
    (ChangeSpec.witness6 (enc := enc) (C := Try.checked) false ⟨#[], #[.int .u8 0, .slice none 0 0, .slice none 0 0], []⟩ 8 (by kernel_rfl) (by kernel_rfl) (by kernel_rfl) (by kernel_rfl)) ?_
  intro W base args ds gs before hval0 hW hcnd hsz0 _
  have hval : ∀ (j : Nat) t v, Try.f6.params[j]? = some t → args[j]? = some v → Value.okWide Try.prog W .any base t v := hval0
  have hW' := hW
  obtain ⟨p, q, hA0, hV, rfl, hfz, hnd⟩ := hW
  have hA : DataW.TrodAll enc Try.prog W 0 (fun _ => true) true Try.f6.params.toList args.toList ds p := hA0
  rw [Try.params6] at hA hval
  obtain ⟨v0, vs0, d0, ds0, p0, q0, hargs, rfl, rfl, h0, r0⟩ := trodAll_cons hA
  obtain ⟨v1, vs1, d1, ds1, p1, q1, rfl, rfl, rfl, h1, r1⟩ := trodAll_cons r0
  obtain ⟨v2, vs2, d2, ds2, p2, q2, rfl, rfl, rfl, h2, r2⟩ := trodAll_cons r1
  obtain ⟨rfl, rfl, rfl⟩ := trodAll_nil r2
  obtain rfl : args = #[v0, v1, v2] := by cases args; simp_all
  obtain ⟨rfl, rfl⟩ := trodVars_none hV
  have k0 := h0
  have lt0 : ∀ x ∈ p0, x.block < W.heap.size := by obtain ⟨m, hm⟩ := k0; exact DataW.trod_lt m _ _ _ hm
  have k1 := h1
  have lt1 : ∀ x ∈ p1, x.block < W.heap.size := by obtain ⟨m, hm⟩ := k1; exact DataW.trod_lt m _ _ _ hm
  have k2 := h2
  have lt2 : ∀ x ∈ p2, x.block < W.heap.size := by obtain ⟨m, hm⟩ := k2; exact DataW.trod_lt m _ _ _ hm
  obtain ⟨n, rfl, rfl, rfl, wn⟩ := open_int Try.underlying5 (hval 0 5 v0 rfl rfl) h0
  replace wn := bd_u8 wn
  obtain ⟨a1, len1, cap1, rfl⟩ := okWide_slice Try.underlying22 (hval 1 22 v1 rfl rfl)
  obtain ⟨f1, hf1⟩ := h1
  obtain ⟨A1, c1, l1, e1, rd1, we1⟩ := readE hf1
  simp [Value.cells] at e1
  obtain ⟨rfl, rfl, rfl⟩ := e1
  obtain ⟨a2, len2, cap2, rfl⟩ := okWide_slice Try.underlying61 (hval 2 61 v2 rfl rfl)
  obtain ⟨f2, hf2⟩ := h2
  obtain ⟨A2, c2, l2, e2, rd2⟩ := readOps hf2
  simp [Value.cells] at e2
  obtain ⟨rfl, rfl, rfl⟩ := e2
  clear hA0 hval0 hsz0
  refine (residTwiceLaw n wn a1 cap1 l1 a2 cap2 l2 W rd1 rd2).mono fun e W' ⟨he, gr⟩ => ?_
  have bel := gr.below
  subst he
  exact ⟨_, rfl, _, _, _, [], _, [], hW', trodAll_mk1 (shut_bool Try.underlying4 _), (trodAll_cons_mk (Below.trod laidOut (by kernel_rfl) (of_decide_eq_true (by kernel_rfl)) k0 bel lt0) (trodAll_cons_mk (Below.trod laidOut (by kernel_rfl) (of_decide_eq_true (by kernel_rfl)) k1 bel lt1) (trodAll_cons_mk (Below.trod laidOut (by kernel_rfl) (of_decide_eq_true (by kernel_rfl)) k2 bel lt2) trodAll_mk0))), rfl, bel.frame _, fun h => by cases h⟩
theorem over : Rows.residTwiceRow.holds Try.pinned (OpenSpec.ofChange Rows.residTwiceSpec) :=
  OpenClaim.holds_of_wide 6 Try.f6 rfl rfl rfl rfl rfl rfl rfl ⟨rfl, rfl, rfl, rfl, rfl⟩ rfl rfl rfl rfl rfl (by kernel_rfl) Try.func6 (by kernel_rfl)
    (of_decide_eq_true (by kernel_rfl)) (by unfold Func.isWrapper; first | (rw [if_pos (by decide +kernel)]; kernel_rfl) | (rw [if_neg (by decide +kernel)]; exact ⟨rfl, rfl⟩))
    (fun os started H enc _ => lifted os started H enc)
theorem proved : Rows.ResidTwiceSaid := over
#print axioms proved
end Go.Proofs.Ytipoblpnkkcpgaa.residTwice
namespace Go.Proofs.Ytipoblpnkkcpgaa
/-- The row, under a short name, for the claim. -/
theorem residTwice_holds : Rows.ResidTwiceSaid := residTwice.proved
end Go.Proofs.Ytipoblpnkkcpgaa
