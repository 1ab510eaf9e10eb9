/- Walks, written by a program of this session (gen.py) out of a spec. -/
import Derived.Test.YtipoblpnkkcpgaaNet0
import Derived.Test.YtipoblpnkkcpgaaCmp0
set_option linter.unusedVariables false
set_option linter.unusedSimpArgs false
namespace Go.Proofs.Ytipoblpnkkcpgaa
open Go Go.RowKit Go.Proofs.Ytipoblpnkkcpgaa.B

set_option maxRecDepth 100000 in
theorem ref15Same (w : World) (A1 : Option Addr) (c1 : Nat) (l1 : List Edg) (hr1 : Rd w A1 3 l1.length (cellsE l1)) (A2 : Option Addr) (c2 : Nat) (l2 : List Edg) (hr2 : Rd w A2 3 l2.length (cellsE l2)) : Calls Try.prog 32 #[.slice A1 l1.length c1, .slice A2 l2.length c2] w fun e w1 => e = .returned (.bool (decide (l1 = l2))) ∧ Gr w w1 := by
  have hlen1 := hr1.2.1
  have hlen2 := hr2.2.1
  refine CW.enter (P := Try.prog) (F0 := none0) (L := [(0, _), (1, _)]) 26 [] Try.func32 rfl Try.ntmps32 (Nat.le_of_ble_eq_true rfl) (St.start w none0) rfl ?_
  refine CW.seq ?_
  refine CW.region ?_
  refine RW.y (.inl rfl) rfl (Yv.assign rfl) ?_
  refine RW.nil ?_
  refine PW.go ?_
  refine CW.seq ?_
  refine CW.seq ?_
  refine CW.region ?_
  refine RW.y (.inl rfl) rfl (Yv.move rfl) ?_
  refine RW.y (.inl rfl) rfl (Yv.len Try.underlying22 rfl) ?_
  refine RW.y (.inl rfl) rfl (Yv.move rfl) ?_
  refine RW.y (.inl rfl) rfl (Yv.len Try.underlying22 rfl) ?_
  refine RW.y (.inl rfl) rfl (Yv.ne rfl rfl) ?_
  refine RW.nil ?_
  refine PW.go ?_
  refine CW.condD rfl (fun hc10 => ?_) (fun hc10 => ?_)
  ·
    refine CW.seq ?_
    refine CW.region ?_
    refine RW.y (.inl rfl) rfl (Yv.assign rfl) ?_
    refine RW.nil ?_
    refine PW.go ?_
    refine CW.ret ?_
    refine PW.then_ret ?_
    refine PW.ret1 Try.results32 rfl (fun w1 hs => ?_)
    refine ⟨?_, hs.mod.below⟩
    rw [decide_eq_false (fun h => by subst h; omega)]
  ·
    refine CW.skip ?_
    refine PW.go ?_
    refine CW.seq ?_
    refine CW.seq ?_
    refine CW.region ?_
    refine RW.y (.inl rfl) rfl (Yv.assign rfl) ?_
    refine RW.nil ?_
    refine PW.go ?_
    refine CW.block ?_
    refine CW.loop (σ := Nat) (fun k => k ≤ l1.length ∧ ∀ j, j < k → l1[j]? = l2[j]?) (fun k => [(0, .slice A1 l1.length c1), (1, .slice A2 l2.length c2), (5, .int .i64 (k : Nat))]) (fun k => []) (fun k => l1.length - k) 0 (⟨by omega, fun j hj => by omega⟩) ⟨rfl, rfl, rfl, trivial⟩ (fun w h => h) ?_
    intro k hk
    obtain ⟨hk, hok⟩ := hk
    refine CW.seq ?_
    refine CW.seq ?_
    refine CW.region ?_
    refine RW.y (.inl rfl) rfl (Yv.move rfl) ?_
    refine RW.y (.inl rfl) rfl (Yv.move rfl) ?_
    refine RW.y (.inl rfl) rfl (Yv.len Try.underlying22 rfl) ?_
    refine RW.y (.inl rfl) rfl (Yv.lt rfl rfl) ?_
    refine RW.nil ?_
    refine PW.go ?_
    refine CW.condD rfl (fun hc14 => ?_) (fun hc14 => ?_)
    ·
      refine CW.skip ?_
      refine PW.go ?_
      refine CW.seq ?_
      refine CW.block ?_
      refine CW.seq ?_
      have hk1 : k < l1.length := by omega
      have hk2 : k < l2.length := by omega
      obtain ⟨b1, o1, rfl, hb1, hcc1⟩ := hr1.2.2 (by omega)
      obtain ⟨b2, o2, rfl, hb2, hcc2⟩ := hr2.2.2 (by omega)
      obtain ⟨x1, hx1⟩ : ∃ x, l1[k]? = some x := ⟨_, List.getElem?_eq_getElem hk1⟩
      obtain ⟨x2, hx2⟩ : ∃ x, l2[k]? = some x := ⟨_, List.getElem?_eq_getElem hk2⟩
      refine CW.draw0 mixed ?_
      refine HW.take 0 rfl (by kernel_rfl) (by kernel_rfl) (by kernel_rfl) (fun _ _ _ h => h) (.inl rfl) rfl (fun _ h => h) (Yv.move rfl) ?_
      refine HW.take 1 rfl (by kernel_rfl) (by kernel_rfl) (by kernel_rfl) (fun _ _ _ h => h) (.inl rfl) rfl (fun _ h => h) (Yv.move rfl) ?_
      refine HW.take 2 rfl (by kernel_rfl) (by kernel_rfl) (by kernel_rfl) (fun _ _ _ h => h) (.inl rfl) rfl (fun _ h => h) (Yv.indexK Try.underlying22 Try.sizeOf72 rfl rfl (by omega) (by omega)) ?_
      refine HW.take 3 rfl (by kernel_rfl) (by kernel_rfl) (by kernel_rfl) (fun _ _ _ h => h) (.inl rfl) rfl (fun _ h => h) (Yv.loadK (vs := [_, _, _]) Try.isAgg72 Try.sizeOf72 rfl (CFs.old (vs := encE x1) (fun j v hj => by rw [add_plain', Nat.add_assoc]; exact hcc1 _ v (cellsE_get l1 k x1 hx1 j v hj)) (fun _ _ _ => not_none0 _))) ?_
      refine HW.take 4 rfl (by kernel_rfl) (by kernel_rfl) (by kernel_rfl) (fun _ _ _ h => h) (.inl rfl) rfl (fun _ h => h) (Yv.move rfl) ?_
      refine HW.take 5 rfl (by kernel_rfl) (by kernel_rfl) (by kernel_rfl) (fun _ _ _ h => h) (.inl rfl) rfl (fun _ h => h) (Yv.move rfl) ?_
      refine HW.take 6 rfl (by kernel_rfl) (by kernel_rfl) (by kernel_rfl) (fun _ _ _ h => h) (.inl rfl) rfl (fun _ h => h) (Yv.indexK Try.underlying22 Try.sizeOf72 rfl rfl (by omega) (by omega)) ?_
      refine HW.take 7 rfl (by kernel_rfl) (by kernel_rfl) (by kernel_rfl) (fun _ _ _ h => h) (.inl rfl) rfl (fun _ h => h) (Yv.loadK (vs := [_, _, _]) Try.isAgg72 Try.sizeOf72 rfl (CFs.old (vs := encE x2) (fun j v hj => by rw [add_plain', Nat.add_assoc]; exact hcc2 _ v (cellsE_get l2 k x2 hx2 j v hj)) (fun _ _ _ => not_none0 _))) ?_
      refine HW.take 8 rfl (by kernel_rfl) (by kernel_rfl) (by kernel_rfl) (fun _ _ _ h => h) (.inl rfl) rfl (fun _ h => h) (Yv.structNe (xs := encE x1) (ys := encE x2) eqGuardE (equalE x1 x2) rfl rfl) ?_
      refine HW.done (by kernel_rfl) ?_
      refine PW.go ?_
      refine CW.cond rfl (fun hc25 => ?_) (fun hc25 => ?_)
      ·
        refine CW.seq ?_
        refine CW.region ?_
        refine RW.y (.inl rfl) rfl (Yv.assign rfl) ?_
        refine RW.nil ?_
        refine PW.go ?_
        refine CW.ret ?_
        refine PW.block_ret ?_
        refine PW.then_ret ?_
        refine PW.then_ret ?_
        refine PW.block_ret ?_
        refine PW.then_ret ?_
        refine PW.ret1 Try.results32 rfl (fun w1 hs => ?_)
        refine ⟨?_, hs.mod.below⟩
        rw [decide_eq_false (fun h => by subst h; rw [hx1] at hx2; cases hx2; simp at hc25)]
      ·
        refine CW.skip ?_
        refine PW.block ?_
        refine PW.go ?_
        refine CW.region ?_
        refine RW.y (.inl rfl) rfl (Yv.move rfl) ?_
        refine RW.y (.inl rfl) rfl (Yv.add rfl rfl (by omega)) ?_
        refine RW.y (.inl rfl) rfl (Yv.assign rfl) ?_
        refine RW.nil ?_
        exact PW.next (k + 1) (⟨by omega, fun j hj => by
              rcases Nat.lt_or_ge j k with h | h
              · exact hok j h
              · obtain rfl : j = k := by omega
                rw [hx1, hx2]; simpa using hc25⟩) ⟨rfl, rfl, rfl, trivial⟩ (fun w h => h) (by omega)
    ·
      refine CW.exit ?_
      refine PW.then_exit ?_
      refine PW.then_exit ?_
      refine PW.block_exit ?_
      refine PW.go ?_
      refine CW.seq ?_
      refine CW.region ?_
      refine RW.y (.inl rfl) rfl (Yv.assign rfl) ?_
      refine RW.nil ?_
      refine PW.go ?_
      refine CW.ret ?_
      refine PW.ret1 Try.results32 rfl (fun w1 hs => ?_)
      refine ⟨?_, hs.mod.below⟩
      rw [decide_eq_true]
      apply List.ext_getElem?
      intro j
      rcases Nat.lt_or_ge j k with h | h
      · exact hok j h
      · rw [List.getElem?_eq_none (by omega), List.getElem?_eq_none (by omega)]

set_option maxRecDepth 100000 in
theorem netWeight_nil (i j : Int) (w : World) : Calls Try.prog 57 #[.pointer none, .int .i64 i, .int .i64 j] w fun e w1 => e = .returned (.int .i64 0) ∧ Gr w w1 := by
  refine CW.enter (P := Try.prog) (F0 := none0) (L := [(0, _), (1, _), (2, _)]) 35 [] Try.func57 rfl Try.ntmps57 (Nat.le_of_ble_eq_true rfl) (St.start w none0) rfl ?_
  refine CW.seq ?_
  refine CW.region ?_
  refine RW.y (.inl rfl) rfl (Yv.assign rfl) ?_
  refine RW.nil ?_
  refine PW.go ?_
  refine CW.seq ?_
  refine CW.seq ?_
  refine CW.region ?_
  refine RW.y (.inl rfl) rfl (Yv.move rfl) ?_
  refine RW.y (.inl rfl) rfl (Yv.ptrNil Try.underlying25 rfl rfl) ?_
  refine RW.nil ?_
  refine PW.go ?_
  refine CW.cond rfl (fun hc11 => ?_) (fun hc11 => ?_)
  ·
    refine CW.seq ?_
    refine CW.region ?_
    refine RW.y (.inl rfl) rfl (Yv.assign rfl) ?_
    refine RW.nil ?_
    refine PW.go ?_
    refine CW.ret ?_
    refine PW.then_ret ?_
    refine PW.ret1 Try.results57 rfl (fun w1 hs => ?_)
    exact ⟨rfl, hs.mod.below⟩
  ·
    cases hc11

end Go.Proofs.Ytipoblpnkkcpgaa
