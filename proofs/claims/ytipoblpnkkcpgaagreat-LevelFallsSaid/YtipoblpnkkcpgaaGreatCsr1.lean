/- Walks, written by a program of this session (gen.py) out of a spec. -/
import Derived.Test.YtipoblpnkkcpgaaGreatCsr0
import Derived.Test.YtipoblpnkkcpgaaGreatRefCsr
import Derived.Test.YtipoblpnkkcpgaaGreatCmp0
set_option linter.unusedVariables false
set_option linter.unusedSimpArgs false
namespace Go.Proofs.YtipoblpnkkcpgaaGreat
open Go Go.RowKit Go.Proofs.YtipoblpnkkcpgaaGreat.B

/-- The arcs are there; what else stands in the block is of no matter. -/
structure HasArcs (w : World) (b : Nat) (l : List Edg) : Prop where
  ex : ∃ Aa ca v2 v3, w.heap[b]? = some (.cells [Value.slice Aa (2 * l.length) ca, v2, v3].toArray 106 (0, 0)) ∧ Rd w Aa 2 (2 * l.length) (cellsA (arcsOf l))
  hl : l.length ≤ 1048576
theorem HasArcs.below {w w' : World} {b : Nat} {l : List Edg} (h : HasArcs w b l) (hb : Gr w w') : HasArcs w' b l := by
  obtain ⟨⟨Aa, ca, v2, v3, h1, h2⟩, hl⟩ := h
  refine ⟨⟨Aa, ca, v2, v3, ?_, h2.below hb⟩, hl⟩
  rw [hb.block b (Array.getElem?_eq_some_iff.1 h1).1]; exact h1

set_option maxRecDepth 100000 in
theorem hasLen (b : Nat) (l : List Edg) (w : World) (hA : HasArcs w b l) : Calls Tryz.prog 16 #[.pointer (some ⟨b, 0, none⟩)] w fun e w1 => e = .returned (.int .i64 ((2 * l.length : Nat) : Int)) ∧ Gr w w1 := by
  have hA' := hA
  obtain ⟨⟨Aa, ca, v2, v3, h1, h2⟩, hl⟩ := hA
  refine CW.enter (P := Tryz.prog) (F0 := none0) (L := [(0, _)]) 10 [] Tryz.func16 rfl Tryz.ntmps16 (Nat.le_of_ble_eq_true rfl) (St.start w none0) rfl ?_
  refine CW.seq ?_
  refine CW.region ?_
  refine RW.y (.inl rfl) rfl (Yv.assign rfl) ?_
  refine RW.nil ?_
  refine PW.go ?_
  refine CW.seq ?_
  refine CW.seq ?_
  refine CW.region ?_
  refine RW.y (.inl rfl) rfl (Yv.move rfl) ?_
  refine RW.y (.inl rfl) rfl (Yv.ptrNil Tryz.underlying47 rfl rfl) ?_
  refine RW.nil ?_
  refine PW.go ?_
  refine CW.cond rfl (fun hc4 => ?_) (fun hc4 => ?_)
  ·
    cases hc4
  ·
    refine CW.skip ?_
    refine PW.go ?_
    refine CW.seq ?_
    refine CW.region ?_
    refine RW.y (.inl rfl) rfl (Yv.move rfl) ?_
    refine RW.y (.inl rfl) rfl (Yv.nilCheck rfl) ?_
    refine RW.y (.inl rfl) rfl (Yv.fieldAddr Tryz.underlying106 rfl Tryz.sizeOf104 rfl rfl) ?_
    refine RW.y (.inl rfl) rfl (Yv.load1 Tryz.isAgg104 rfl (CF.old (cell_of h1 rfl) (not_none0 _))) ?_
    refine RW.y (.inl rfl) rfl (Yv.len Tryz.underlying104 rfl) ?_
    refine RW.y (.inl rfl) rfl (Yv.assign rfl) ?_
    refine RW.nil ?_
    refine PW.go ?_
    refine CW.ret ?_
    refine PW.ret1 Tryz.results16 rfl (fun w1 hs => ?_)
    exact ⟨rfl, hs.mod.below⟩

set_option maxRecDepth 100000 in
theorem hasHead (b : Nat) (l : List Edg) (i : Int) (w : World) (hA : HasArcs w b l) : Calls Tryz.prog 31 #[.pointer (some ⟨b, 0, none⟩), .int .i64 i] w fun e w1 => e = .returned (.int .i64 (headOf l i)) ∧ Gr w w1 := by
  have hA' := hA
  obtain ⟨⟨Aa, ca, v2, v3, h1, h2⟩, hl⟩ := hA
  have hlen := arcsOf_length l
  refine CW.enter (P := Tryz.prog) (F0 := none0) (L := [(0, _), (1, _)]) 21 [] Tryz.func31 rfl Tryz.ntmps31 (Nat.le_of_ble_eq_true rfl) (St.start w none0) rfl ?_
  refine CW.seq ?_
  refine CW.region ?_
  refine RW.y (.inl rfl) rfl (Yv.assign rfl) ?_
  refine RW.nil ?_
  refine PW.go ?_
  refine CW.seq ?_
  refine CW.seq ?_
  refine CW.region ?_
  refine RW.y (.inl rfl) rfl (Yv.move rfl) ?_
  refine RW.y (.inl rfl) rfl (Yv.lt rfl rfl) ?_
  refine RW.y (.inl rfl) rfl (Yv.move rfl) ?_
  refine RW.splitD 7 rfl (fun hc7 => ?_) (fun hc7 => ?_)
  ·
    refine RW.no ⟨_, _, 7, _, rfl, rfl, rfl, fun h => by simp [undef] at h⟩ rfl ?_
    refine RW.no ⟨_, _, 7, _, rfl, rfl, rfl, fun h => by simp [undef] at h⟩ rfl ?_
    refine RW.no ⟨_, _, 7, _, rfl, rfl, rfl, fun h => by simp [undef] at h⟩ rfl ?_
    refine RW.no ⟨_, _, 7, _, rfl, rfl, rfl, fun h => by simp [undef] at h⟩ rfl ?_
    refine RW.y (.inl rfl) rfl (Yv.pickT rfl rfl) ?_
    refine RW.nil ?_
    refine PW.go ?_
    refine CW.condT rfl ?_
    refine CW.seq ?_
    refine CW.region ?_
    refine RW.y (.inl rfl) rfl (Yv.assign rfl) ?_
    refine RW.nil ?_
    refine PW.go ?_
    refine CW.ret ?_
    refine PW.then_ret ?_
    refine PW.ret1 Tryz.results31 rfl (fun w1 hs => ?_)
    exact ⟨by rw [headOf_out (by omega)], hs.mod.below⟩
  ·
    refine RW.y (.inr ⟨_, _, 7, rfl, rfl, rfl⟩) rfl (Yv.move rfl) ?_
    refine RW.y (.inr ⟨_, _, 7, rfl, rfl, rfl⟩) rfl (Yv.move rfl) ?_
    refine RW.o _ (.inr ⟨_, _, 7, rfl, rfl, rfl⟩) rfl (Ow.call e16 rfl (C.val (fun w hs => hasLen b l w (hA'.below hs.mod.below)))) ?_
    rintro _ _ ⟨rfl, rfl⟩
    refine RW.y (.inr ⟨_, _, 7, rfl, rfl, rfl⟩) rfl (Yv.ge rfl rfl) ?_
    refine RW.y (.inl rfl) rfl (Yv.pickF rfl rfl) ?_
    refine RW.nil ?_
    refine PW.go ?_
    refine CW.condD rfl (fun hc12 => ?_) (fun hc12 => ?_)
    ·
      refine CW.seq ?_
      refine CW.region ?_
      refine RW.y (.inl rfl) rfl (Yv.assign rfl) ?_
      refine RW.nil ?_
      refine PW.go ?_
      refine CW.ret ?_
      refine PW.then_ret ?_
      refine PW.ret1 Tryz.results31 rfl (fun w1 hs => ?_)
      exact ⟨by rw [headOf_out (by omega)], hs.mod.below⟩
    ·
      refine CW.skip ?_
      refine PW.go ?_
      refine CW.seq ?_
      have hi0 : 0 ≤ i := by omega
      have hlt : i.toNat < (arcsOf l).length := by omega
      obtain ⟨ba, oa, rfl, hba, hca⟩ := h2.2.2 (by omega)
      obtain ⟨x, hx⟩ : ∃ x, (arcsOf l)[i.toNat]? = some x := ⟨_, List.getElem?_eq_getElem hlt⟩
      have hcx := cellsA_get _ _ x hx
      refine CW.region ?_
      refine RW.y (.inl rfl) rfl (Yv.move rfl) ?_
      refine RW.y (.inl rfl) rfl (Yv.nilCheck rfl) ?_
      refine RW.y (.inl rfl) rfl (Yv.fieldAddr Tryz.underlying106 rfl Tryz.sizeOf104 rfl rfl) ?_
      refine RW.y (.inl rfl) rfl (Yv.load1 Tryz.isAgg104 rfl (CF.old (cell_of h1 rfl) (not_none0 _))) ?_
      refine RW.y (.inl rfl) rfl (Yv.move rfl) ?_
      refine RW.y (.inl rfl) rfl (Yv.indexK Tryz.underlying104 Tryz.sizeOf126 rfl rfl (by omega) (by omega)) ?_
      refine RW.y (.inl rfl) rfl (Yv.fieldAddr Tryz.underlying126 rfl Tryz.sizeOf3 rfl rfl) ?_
      refine RW.y (.inl rfl) rfl (Yv.load1 Tryz.isAgg3 rfl (CF.old (hca _ _ hcx.1) (not_none0 _))) ?_
      refine RW.y (.inl rfl) rfl (Yv.assign rfl) ?_
      refine RW.nil ?_
      refine PW.go ?_
      refine CW.ret ?_
      refine PW.ret1 Tryz.results31 rfl (fun w1 hs => ?_)
      refine ⟨?_, hs.mod.below⟩
      unfold headOf
      rw [if_pos hi0, hx]; rfl

set_option maxRecDepth 100000 in
theorem hasTail (b : Nat) (l : List Edg) (i : Int) (hi : -9223372036854775808 ≤ i ∧ i ≤ 9223372036854775807) (w : World) (hA : HasArcs w b l) : Calls Tryz.prog 30 #[.pointer (some ⟨b, 0, none⟩), .int .i64 i] w fun e w1 => e = .returned (.int .i64 (tailOf l i)) ∧ Gr w w1 := by
  refine CW.enter (P := Tryz.prog) (F0 := none0) (L := [(0, _), (1, _)]) 9 [] Tryz.func30 rfl Tryz.ntmps30 (Nat.le_of_ble_eq_true rfl) (St.start w none0) rfl ?_
  refine CW.seq ?_
  refine CW.region ?_
  refine RW.y (.inl rfl) rfl (Yv.assign rfl) ?_
  refine RW.nil ?_
  refine PW.go ?_
  refine CW.seq ?_
  refine CW.region ?_
  refine RW.y (.inl rfl) rfl (Yv.move rfl) ?_
  refine RW.y (.inl rfl) rfl (Yv.move rfl) ?_
  refine RW.o _ (.inl rfl) rfl (Ow.call e53 rfl (C.val (fun w hs => csrBack i hi _))) ?_
  rintro _ _ ⟨rfl, rfl⟩
  refine RW.o _ (.inl rfl) rfl (Ow.call e31 rfl (C.val (fun w hs => hasHead b l (backOf i) w (hA.below hs.mod.below)))) ?_
  rintro _ _ ⟨rfl, rfl⟩
  refine RW.y (.inl rfl) rfl (Yv.assign rfl) ?_
  refine RW.nil ?_
  refine PW.go ?_
  refine CW.ret ?_
  refine PW.ret1 Tryz.results30 rfl (fun w1 hs => ?_)
  exact ⟨rfl, hs.mod.below⟩

end Go.Proofs.YtipoblpnkkcpgaaGreat
