/- Walks, written by a program of this session (gen.py) out of a spec. -/
import Derived.Test.YtpkjbbhkkhpafaaNet0
import Derived.Test.YtpkjbbhkkhpafaaCmp0
set_option linter.unusedVariables false
set_option linter.unusedSimpArgs false
namespace Go.Proofs.Ytpkjbbhkkhpafaa
open Go Go.RowKit Go.Proofs.Ytpkjbbhkkhpafaa.B

set_option maxRecDepth 100000 in
theorem equalsE (w : World) (A1 : Option Addr) (c1 : Nat) (l1 : List Edg) (hr1 : Rd w A1 3 l1.length (cellsE l1)) (A2 : Option Addr) (c2 : Nat) (l2 : List Edg) (hr2 : Rd w A2 3 l2.length (cellsE l2)) : Calls Try.prog 70 #[.slice A1 l1.length c1, .slice A2 l2.length c2] w fun e w1 => e = .returned (.bool (decide (l1 = l2))) ∧ Gr w w1 := by
  have hlen1 := hr1.2.1
  have hlen2 := hr2.2.1
  refine CW.enter (P := Try.prog) (F0 := none0) (L := [(0, _), (1, _)]) 26 [] Try.func70 rfl Try.ntmps70 (Nat.le_of_ble_eq_true rfl) (St.start w none0) rfl ?_
  refine CW.seq ?_
  refine CW.region ?_
  refine RW.y (.inl rfl) rfl (Yv.assign rfl) ?_
  refine RW.nil ?_
  refine PW.go ?_
  refine CW.seq ?_
  refine CW.seq ?_
  refine CW.region ?_
  refine RW.y (.inl rfl) rfl (Yv.move rfl) ?_
  refine RW.y (.inl rfl) rfl (Yv.len Try.underlying22 rfl) ?_
  refine RW.y (.inl rfl) rfl (Yv.move rfl) ?_
  refine RW.y (.inl rfl) rfl (Yv.len Try.underlying22 rfl) ?_
  refine RW.y (.inl rfl) rfl (Yv.ne rfl rfl) ?_
  refine RW.nil ?_
  refine PW.go ?_
  refine CW.condD rfl (fun hc10 => ?_) (fun hc10 => ?_)
  ·
    refine CW.seq ?_
    refine CW.region ?_
    refine RW.y (.inl rfl) rfl (Yv.assign rfl) ?_
    refine RW.nil ?_
    refine PW.go ?_
    refine CW.ret ?_
    refine PW.then_ret ?_
    refine PW.ret1 Try.results70 rfl (fun w1 hs => ?_)
    refine ⟨?_, hs.mod.below⟩
    rw [decide_eq_false (fun h => by subst h; omega)]
  ·
    refine CW.skip ?_
    refine PW.go ?_
    refine CW.seq ?_
    refine CW.seq ?_
    refine CW.region ?_
    refine RW.y (.inl rfl) rfl (Yv.move rfl) ?_
    refine RW.y (.inl rfl) rfl (Yv.len Try.underlying22 rfl) ?_
    refine RW.y (.inl rfl) rfl (Yv.move rfl) ?_
    refine RW.nil ?_
    refine PW.go ?_
    refine CW.block ?_
    refine CW.loop (σ := Nat) (fun k => k ≤ l1.length ∧ ∀ j, j < k → l1[j]? = l2[j]?) (fun k => [(0, .slice A1 l1.length c1), (1, .slice A2 l2.length c2), (13, .int .i64 (k : Nat)), (12, .int .i64 l1.length)]) (fun k => []) (fun k => l1.length - k) 0 (⟨by omega, fun j hj => by omega⟩) ⟨rfl, rfl, rfl, rfl, trivial⟩ (fun w h => h) ?_
    intro k hk
    obtain ⟨hk, hok⟩ := hk
    refine CW.seq ?_
    refine CW.region ?_
    refine RW.y (.inl rfl) rfl (Yv.lt rfl rfl) ?_
    refine RW.nil ?_
    refine PW.go ?_
    refine CW.seq ?_
    refine CW.condD rfl (fun hc14 => ?_) (fun hc14 => ?_)
    ·
      refine CW.skip ?_
      refine PW.go ?_
      refine CW.seq ?_
      refine CW.block ?_
      refine CW.seq ?_
      refine CW.region ?_
      refine RW.y (.inl rfl) rfl (Yv.move rfl) ?_
      refine RW.y (.inl rfl) rfl (Yv.assign rfl) ?_
      refine RW.nil ?_
      refine PW.go ?_
      refine CW.seq ?_
      have hk1 : k < l1.length := by omega
      have hk2 : k < l2.length := by omega
      obtain ⟨b1, o1, rfl, hb1, hcc1⟩ := hr1.2.2 (by omega)
      obtain ⟨b2, o2, rfl, hb2, hcc2⟩ := hr2.2.2 (by omega)
      obtain ⟨x1, hx1⟩ : ∃ x, l1[k]? = some x := ⟨_, List.getElem?_eq_getElem hk1⟩
      obtain ⟨x2, hx2⟩ : ∃ x, l2[k]? = some x := ⟨_, List.getElem?_eq_getElem hk2⟩
      refine CW.draw0 mixed ?_
      refine HW.take 0 rfl (by kernel_rfl) (by kernel_rfl) (by kernel_rfl) (fun _ _ _ h => h) (.inl rfl) rfl (fun _ h => h) (Yv.move rfl) ?_
      refine HW.take 1 rfl (by kernel_rfl) (by kernel_rfl) (by kernel_rfl) (fun _ _ _ h => h) (.inl rfl) rfl (fun _ h => h) (Yv.move rfl) ?_
      refine HW.take 2 rfl (by kernel_rfl) (by kernel_rfl) (by kernel_rfl) (fun _ _ _ h => h) (.inl rfl) rfl (fun _ h => h) (Yv.indexK Try.underlying22 Try.sizeOf48 rfl rfl (by omega) (by omega)) ?_
      refine HW.take 3 rfl (by kernel_rfl) (by kernel_rfl) (by kernel_rfl) (fun _ _ _ h => h) (.inl rfl) rfl (fun _ h => h) (Yv.loadK (vs := [_, _, _]) Try.isAgg48 Try.sizeOf48 rfl (CFs.old (vs := encE x1) (fun j v hj => by rw [add_plain', Nat.add_assoc]; exact hcc1 _ v (cellsE_get l1 k x1 hx1 j v hj)) (fun _ _ _ => not_none0 _))) ?_
      refine HW.take 4 rfl (by kernel_rfl) (by kernel_rfl) (by kernel_rfl) (fun _ _ _ h => h) (.inl rfl) rfl (fun _ h => h) (Yv.move rfl) ?_
      refine HW.take 5 rfl (by kernel_rfl) (by kernel_rfl) (by kernel_rfl) (fun _ _ _ h => h) (.inl rfl) rfl (fun _ h => h) (Yv.move rfl) ?_
      refine HW.take 6 rfl (by kernel_rfl) (by kernel_rfl) (by kernel_rfl) (fun _ _ _ h => h) (.inl rfl) rfl (fun _ h => h) (Yv.indexK Try.underlying22 Try.sizeOf48 rfl rfl (by omega) (by omega)) ?_
      refine HW.take 7 rfl (by kernel_rfl) (by kernel_rfl) (by kernel_rfl) (fun _ _ _ h => h) (.inl rfl) rfl (fun _ h => h) (Yv.loadK (vs := [_, _, _]) Try.isAgg48 Try.sizeOf48 rfl (CFs.old (vs := encE x2) (fun j v hj => by rw [add_plain', Nat.add_assoc]; exact hcc2 _ v (cellsE_get l2 k x2 hx2 j v hj)) (fun _ _ _ => not_none0 _))) ?_
      refine HW.take 8 rfl (by kernel_rfl) (by kernel_rfl) (by kernel_rfl) (fun _ _ _ h => h) (.inl rfl) rfl (fun _ h => h) (Yv.structNe (xs := encE x1) (ys := encE x2) eqGuardE (equalE x1 x2) rfl rfl) ?_
      refine HW.done (by kernel_rfl) ?_
      refine PW.go ?_
      refine CW.cond rfl (fun hc24 => ?_) (fun hc24 => ?_)
      ·
        refine CW.seq ?_
        refine CW.region ?_
        refine RW.y (.inl rfl) rfl (Yv.assign rfl) ?_
        refine RW.nil ?_
        refine PW.go ?_
        refine CW.ret ?_
        refine PW.block_ret ?_
        refine PW.then_ret ?_
        refine PW.then_ret ?_
        refine PW.block_ret ?_
        refine PW.then_ret ?_
        refine PW.ret1 Try.results70 rfl (fun w1 hs => ?_)
        refine ⟨?_, hs.mod.below⟩
        rw [decide_eq_false (fun h => by subst h; rw [hx1] at hx2; cases hx2; simp at hc24)]
      ·
        refine CW.skip ?_
        refine PW.block ?_
        refine PW.go ?_
        refine CW.region ?_
        refine RW.y (.inl rfl) rfl (Yv.add rfl rfl (by omega)) ?_
        refine RW.y (.inl rfl) rfl (Yv.move rfl) ?_
        refine RW.nil ?_
        exact PW.next (k + 1) (⟨by omega, fun j hj => by
              rcases Nat.lt_or_ge j k with h | h
              · exact hok j h
              · obtain rfl : j = k := by omega
                rw [hx1, hx2]; simpa using hc24⟩) ⟨rfl, rfl, rfl, rfl, trivial⟩ (fun w h => h) (by omega)
    ·
      refine CW.exit ?_
      refine PW.then_exit ?_
      refine PW.then_exit ?_
      refine PW.block_exit ?_
      refine PW.go ?_
      refine CW.seq ?_
      refine CW.region ?_
      refine RW.y (.inl rfl) rfl (Yv.assign rfl) ?_
      refine RW.nil ?_
      refine PW.go ?_
      refine CW.ret ?_
      refine PW.ret1 Try.results70 rfl (fun w1 hs => ?_)
      refine ⟨?_, hs.mod.below⟩
      rw [decide_eq_true]
      apply List.ext_getElem?
      intro j
      rcases Nat.lt_or_ge j k with h | h
      · exact hok j h
      · rw [List.getElem?_eq_none (by omega), List.getElem?_eq_none (by omega)]

set_option maxRecDepth 100000 in
theorem ref15Same (w : World) (A1 : Option Addr) (c1 : Nat) (l1 : List Edg) (hr1 : Rd w A1 3 l1.length (cellsE l1)) (A2 : Option Addr) (c2 : Nat) (l2 : List Edg) (hr2 : Rd w A2 3 l2.length (cellsE l2)) : Calls Try.prog 37 #[.slice A1 l1.length c1, .slice A2 l2.length c2] w fun e w1 => e = .returned (.bool (decide (l1 = l2))) ∧ Gr w w1 := by
  have hlen1 := hr1.2.1
  have hlen2 := hr2.2.1
  refine CW.enter (P := Try.prog) (F0 := none0) (L := [(0, _), (1, _)]) 26 [] Try.func37 rfl Try.ntmps37 (Nat.le_of_ble_eq_true rfl) (St.start w none0) rfl ?_
  refine CW.seq ?_
  refine CW.region ?_
  refine RW.y (.inl rfl) rfl (Yv.assign rfl) ?_
  refine RW.nil ?_
  refine PW.go ?_
  refine CW.seq ?_
  refine CW.seq ?_
  refine CW.region ?_
  refine RW.y (.inl rfl) rfl (Yv.move rfl) ?_
  refine RW.y (.inl rfl) rfl (Yv.len Try.underlying22 rfl) ?_
  refine RW.y (.inl rfl) rfl (Yv.move rfl) ?_
  refine RW.y (.inl rfl) rfl (Yv.len Try.underlying22 rfl) ?_
  refine RW.y (.inl rfl) rfl (Yv.ne rfl rfl) ?_
  refine RW.nil ?_
  refine PW.go ?_
  refine CW.condD rfl (fun hc10 => ?_) (fun hc10 => ?_)
  ·
    refine CW.seq ?_
    refine CW.region ?_
    refine RW.y (.inl rfl) rfl (Yv.assign rfl) ?_
    refine RW.nil ?_
    refine PW.go ?_
    refine CW.ret ?_
    refine PW.then_ret ?_
    refine PW.ret1 Try.results37 rfl (fun w1 hs => ?_)
    refine ⟨?_, hs.mod.below⟩
    rw [decide_eq_false (fun h => by subst h; omega)]
  ·
    refine CW.skip ?_
    refine PW.go ?_
    refine CW.seq ?_
    refine CW.seq ?_
    refine CW.region ?_
    refine RW.y (.inl rfl) rfl (Yv.assign rfl) ?_
    refine RW.nil ?_
    refine PW.go ?_
    refine CW.block ?_
    refine CW.loop (σ := Nat) (fun k => k ≤ l1.length ∧ ∀ j, j < k → l1[j]? = l2[j]?) (fun k => [(0, .slice A1 l1.length c1), (1, .slice A2 l2.length c2), (5, .int .i64 (k : Nat))]) (fun k => []) (fun k => l1.length - k) 0 (⟨by omega, fun j hj => by omega⟩) ⟨rfl, rfl, rfl, trivial⟩ (fun w h => h) ?_
    intro k hk
    obtain ⟨hk, hok⟩ := hk
    refine CW.seq ?_
    refine CW.seq ?_
    refine CW.region ?_
    refine RW.y (.inl rfl) rfl (Yv.move rfl) ?_
    refine RW.y (.inl rfl) rfl (Yv.move rfl) ?_
    refine RW.y (.inl rfl) rfl (Yv.len Try.underlying22 rfl) ?_
    refine RW.y (.inl rfl) rfl (Yv.lt rfl rfl) ?_
    refine RW.nil ?_
    refine PW.go ?_
    refine CW.condD rfl (fun hc14 => ?_) (fun hc14 => ?_)
    ·
      refine CW.skip ?_
      refine PW.go ?_
      refine CW.seq ?_
      refine CW.block ?_
      refine CW.seq ?_
      have hk1 : k < l1.length := by omega
      have hk2 : k < l2.length := by omega
      obtain ⟨b1, o1, rfl, hb1, hcc1⟩ := hr1.2.2 (by omega)
      obtain ⟨b2, o2, rfl, hb2, hcc2⟩ := hr2.2.2 (by omega)
      obtain ⟨x1, hx1⟩ : ∃ x, l1[k]? = some x := ⟨_, List.getElem?_eq_getElem hk1⟩
      obtain ⟨x2, hx2⟩ : ∃ x, l2[k]? = some x := ⟨_, List.getElem?_eq_getElem hk2⟩
      refine CW.draw0 mixed ?_
      refine HW.take 0 rfl (by kernel_rfl) (by kernel_rfl) (by kernel_rfl) (fun _ _ _ h => h) (.inl rfl) rfl (fun _ h => h) (Yv.move rfl) ?_
      refine HW.take 1 rfl (by kernel_rfl) (by kernel_rfl) (by kernel_rfl) (fun _ _ _ h => h) (.inl rfl) rfl (fun _ h => h) (Yv.move rfl) ?_
      refine HW.take 2 rfl (by kernel_rfl) (by kernel_rfl) (by kernel_rfl) (fun _ _ _ h => h) (.inl rfl) rfl (fun _ h => h) (Yv.indexK Try.underlying22 Try.sizeOf48 rfl rfl (by omega) (by omega)) ?_
      refine HW.take 3 rfl (by kernel_rfl) (by kernel_rfl) (by kernel_rfl) (fun _ _ _ h => h) (.inl rfl) rfl (fun _ h => h) (Yv.loadK (vs := [_, _, _]) Try.isAgg48 Try.sizeOf48 rfl (CFs.old (vs := encE x1) (fun j v hj => by rw [add_plain', Nat.add_assoc]; exact hcc1 _ v (cellsE_get l1 k x1 hx1 j v hj)) (fun _ _ _ => not_none0 _))) ?_
      refine HW.take 4 rfl (by kernel_rfl) (by kernel_rfl) (by kernel_rfl) (fun _ _ _ h => h) (.inl rfl) rfl (fun _ h => h) (Yv.move rfl) ?_
      refine HW.take 5 rfl (by kernel_rfl) (by kernel_rfl) (by kernel_rfl) (fun _ _ _ h => h) (.inl rfl) rfl (fun _ h => h) (Yv.move rfl) ?_
      refine HW.take 6 rfl (by kernel_rfl) (by kernel_rfl) (by kernel_rfl) (fun _ _ _ h => h) (.inl rfl) rfl (fun _ h => h) (Yv.indexK Try.underlying22 Try.sizeOf48 rfl rfl (by omega) (by omega)) ?_
      refine HW.take 7 rfl (by kernel_rfl) (by kernel_rfl) (by kernel_rfl) (fun _ _ _ h => h) (.inl rfl) rfl (fun _ h => h) (Yv.loadK (vs := [_, _, _]) Try.isAgg48 Try.sizeOf48 rfl (CFs.old (vs := encE x2) (fun j v hj => by rw [add_plain', Nat.add_assoc]; exact hcc2 _ v (cellsE_get l2 k x2 hx2 j v hj)) (fun _ _ _ => not_none0 _))) ?_
      refine HW.take 8 rfl (by kernel_rfl) (by kernel_rfl) (by kernel_rfl) (fun _ _ _ h => h) (.inl rfl) rfl (fun _ h => h) (Yv.structNe (xs := encE x1) (ys := encE x2) eqGuardE (equalE x1 x2) rfl rfl) ?_
      refine HW.done (by kernel_rfl) ?_
      refine PW.go ?_
      refine CW.cond rfl (fun hc25 => ?_) (fun hc25 => ?_)
      ·
        refine CW.seq ?_
        refine CW.region ?_
        refine RW.y (.inl rfl) rfl (Yv.assign rfl) ?_
        refine RW.nil ?_
        refine PW.go ?_
        refine CW.ret ?_
        refine PW.block_ret ?_
        refine PW.then_ret ?_
        refine PW.then_ret ?_
        refine PW.block_ret ?_
        refine PW.then_ret ?_
        refine PW.ret1 Try.results37 rfl (fun w1 hs => ?_)
        refine ⟨?_, hs.mod.below⟩
        rw [decide_eq_false (fun h => by subst h; rw [hx1] at hx2; cases hx2; simp at hc25)]
      ·
        refine CW.skip ?_
        refine PW.block ?_
        refine PW.go ?_
        refine CW.region ?_
        refine RW.y (.inl rfl) rfl (Yv.move rfl) ?_
        refine RW.y (.inl rfl) rfl (Yv.add rfl rfl (by omega)) ?_
        refine RW.y (.inl rfl) rfl (Yv.assign rfl) ?_
        refine RW.nil ?_
        exact PW.next (k + 1) (⟨by omega, fun j hj => by
              rcases Nat.lt_or_ge j k with h | h
              · exact hok j h
              · obtain rfl : j = k := by omega
                rw [hx1, hx2]; simpa using hc25⟩) ⟨rfl, rfl, rfl, trivial⟩ (fun w h => h) (by omega)
    ·
      refine CW.exit ?_
      refine PW.then_exit ?_
      refine PW.then_exit ?_
      refine PW.block_exit ?_
      refine PW.go ?_
      refine CW.seq ?_
      refine CW.region ?_
      refine RW.y (.inl rfl) rfl (Yv.assign rfl) ?_
      refine RW.nil ?_
      refine PW.go ?_
      refine CW.ret ?_
      refine PW.ret1 Try.results37 rfl (fun w1 hs => ?_)
      refine ⟨?_, hs.mod.below⟩
      rw [decide_eq_true]
      apply List.ext_getElem?
      intro j
      rcases Nat.lt_or_ge j k with h | h
      · exact hok j h
      · rw [List.getElem?_eq_none (by omega), List.getElem?_eq_none (by omega)]

set_option maxRecDepth 100000 in
theorem netEdge_nil (i : Int) (w : World) : Calls Try.prog 29 #[.pointer none, .int .i64 i] w fun e w1 => e = .returned (.tuple #[.agg #[.int .i64 0, .int .i64 0, .int .i64 0], .bool false]) ∧ Gr w w1 := by
  refine CW.enter (P := Try.prog) (F0 := none0) (L := [(0, _), (1, _)]) 22 [] Try.func29 rfl Try.ntmps29 (Nat.le_of_ble_eq_true rfl) (St.start w none0) rfl ?_
  refine CW.seq ?_
  refine CW.region ?_
  refine RW.o _ (.inl rfl) rfl (Ow.alloc (cs := [_, _, _]) Try.zeroValue48 rfl) ?_
  rintro _ _ ⟨b4, rfl, rfl⟩
  refine RW.y (.inl rfl) rfl (Yv.assign rfl) ?_
  refine RW.nil ?_
  refine PW.go ?_
  refine CW.seq ?_
  refine CW.seq ?_
  refine CW.region ?_
  refine RW.y (.inl rfl) rfl (Yv.move rfl) ?_
  refine RW.y (.inl rfl) rfl (Yv.lt rfl rfl) ?_
  refine RW.y (.inl rfl) rfl (Yv.move rfl) ?_
  refine RW.splitD 8 rfl (fun hc8 => ?_) (fun hc8 => ?_)
  ·
    refine RW.no ⟨_, _, 8, _, rfl, rfl, rfl, fun h => by simp [undef] at h⟩ rfl ?_
    refine RW.no ⟨_, _, 8, _, rfl, rfl, rfl, fun h => by simp [undef] at h⟩ rfl ?_
    refine RW.no ⟨_, _, 8, _, rfl, rfl, rfl, fun h => by simp [undef] at h⟩ rfl ?_
    refine RW.no ⟨_, _, 8, _, rfl, rfl, rfl, fun h => by simp [undef] at h⟩ rfl ?_
    refine RW.y (.inl rfl) rfl (Yv.pickT rfl rfl) ?_
    refine RW.nil ?_
    refine PW.go ?_
    refine CW.condT rfl ?_
    refine CW.seq ?_
    refine CW.region ?_
    refine RW.y (.inl rfl) rfl (Yv.build rfl (fun w => by exact bld48_  w)) ?_
    refine RW.o _ (.inl rfl) rfl (Ow.storeW (vs := [_, _, _]) 0 Try.sizeOf48 rfl rfl (rfl) rfl (rfl)) ?_
    rintro _ _ ⟨rfl, rfl⟩
    refine RW.y (.inl rfl) rfl (Yv.assign rfl) ?_
    refine RW.nil ?_
    refine PW.go ?_
    refine CW.ret ?_
    refine PW.then_ret ?_
    refine PW.retCT (vs := [_, _, _]) Try.results29 rfl rfl Try.isAgg48 Try.sizeOf48 (CFs.whole 0 rfl) (fun w1 hs => ?_)
    exact ⟨rfl, hs.mod.below⟩
  ·
    refine RW.y (.inr ⟨_, _, 8, rfl, rfl, rfl⟩) rfl (Yv.move rfl) ?_
    refine RW.y (.inr ⟨_, _, 8, rfl, rfl, rfl⟩) rfl (Yv.move rfl) ?_
    refine RW.o _ (.inr ⟨_, _, 8, rfl, rfl, rfl⟩) rfl (Ow.call e27 rfl (C.val (fun w hs => netM_nil _))) ?_
    rintro _ _ ⟨rfl, rfl⟩
    refine RW.y (.inr ⟨_, _, 8, rfl, rfl, rfl⟩) rfl (Yv.ge rfl rfl) ?_
    refine RW.y (.inl rfl) rfl (Yv.pickF rfl rfl) ?_
    refine RW.nil ?_
    refine PW.go ?_
    refine CW.condD rfl (fun hc13 => ?_) (fun hc13 => ?_)
    ·
      refine CW.seq ?_
      refine CW.region ?_
      refine RW.y (.inl rfl) rfl (Yv.build rfl (fun w => by exact bld48_  w)) ?_
      refine RW.o _ (.inl rfl) rfl (Ow.storeW (vs := [_, _, _]) 0 Try.sizeOf48 rfl rfl (rfl) rfl (rfl)) ?_
      rintro _ _ ⟨rfl, rfl⟩
      refine RW.y (.inl rfl) rfl (Yv.assign rfl) ?_
      refine RW.nil ?_
      refine PW.go ?_
      refine CW.ret ?_
      refine PW.then_ret ?_
      refine PW.retCT (vs := [_, _, _]) Try.results29 rfl rfl Try.isAgg48 Try.sizeOf48 (CFs.whole 0 rfl) (fun w1 hs => ?_)
      exact ⟨rfl, hs.mod.below⟩
    ·
      omega

set_option maxRecDepth 100000 in
theorem netDegree_nil (i : Int) (w : World) : Calls Try.prog 33 #[.pointer none, .int .i64 i] w fun e w1 => e = .returned (.int .i64 0) ∧ Gr w w1 := by
  refine CW.enter (P := Try.prog) (F0 := none0) (L := [(0, _), (1, _)]) 21 [] Try.func33 rfl Try.ntmps33 (Nat.le_of_ble_eq_true rfl) (St.start w none0) rfl ?_
  refine CW.seq ?_
  refine CW.region ?_
  refine RW.y (.inl rfl) rfl (Yv.assign rfl) ?_
  refine RW.nil ?_
  refine PW.go ?_
  refine CW.seq ?_
  refine CW.seq ?_
  refine CW.region ?_
  refine RW.y (.inl rfl) rfl (Yv.move rfl) ?_
  refine RW.y (.inl rfl) rfl (Yv.lt rfl rfl) ?_
  refine RW.y (.inl rfl) rfl (Yv.move rfl) ?_
  refine RW.splitD 7 rfl (fun hc7 => ?_) (fun hc7 => ?_)
  ·
    refine RW.no ⟨_, _, 7, _, rfl, rfl, rfl, fun h => by simp [undef] at h⟩ rfl ?_
    refine RW.no ⟨_, _, 7, _, rfl, rfl, rfl, fun h => by simp [undef] at h⟩ rfl ?_
    refine RW.no ⟨_, _, 7, _, rfl, rfl, rfl, fun h => by simp [undef] at h⟩ rfl ?_
    refine RW.no ⟨_, _, 7, _, rfl, rfl, rfl, fun h => by simp [undef] at h⟩ rfl ?_
    refine RW.y (.inl rfl) rfl (Yv.pickT rfl rfl) ?_
    refine RW.nil ?_
    refine PW.go ?_
    refine CW.condT rfl ?_
    refine CW.seq ?_
    refine CW.region ?_
    refine RW.y (.inl rfl) rfl (Yv.assign rfl) ?_
    refine RW.nil ?_
    refine PW.go ?_
    refine CW.ret ?_
    refine PW.then_ret ?_
    refine PW.ret1 Try.results33 rfl (fun w1 hs => ?_)
    exact ⟨rfl, hs.mod.below⟩
  ·
    refine RW.y (.inr ⟨_, _, 7, rfl, rfl, rfl⟩) rfl (Yv.move rfl) ?_
    refine RW.y (.inr ⟨_, _, 7, rfl, rfl, rfl⟩) rfl (Yv.move rfl) ?_
    refine RW.o _ (.inr ⟨_, _, 7, rfl, rfl, rfl⟩) rfl (Ow.call e30 rfl (C.val (fun w hs => netN_nil _))) ?_
    rintro _ _ ⟨rfl, rfl⟩
    refine RW.y (.inr ⟨_, _, 7, rfl, rfl, rfl⟩) rfl (Yv.ge rfl rfl) ?_
    refine RW.y (.inl rfl) rfl (Yv.pickF rfl rfl) ?_
    refine RW.nil ?_
    refine PW.go ?_
    refine CW.condD rfl (fun hc12 => ?_) (fun hc12 => ?_)
    ·
      refine CW.seq ?_
      refine CW.region ?_
      refine RW.y (.inl rfl) rfl (Yv.assign rfl) ?_
      refine RW.nil ?_
      refine PW.go ?_
      refine CW.ret ?_
      refine PW.then_ret ?_
      refine PW.ret1 Try.results33 rfl (fun w1 hs => ?_)
      exact ⟨rfl, hs.mod.below⟩
    ·
      omega

set_option maxRecDepth 100000 in
theorem netNear_nil (i : Int) (w : World) : Calls Try.prog 34 #[.pointer none, .int .i64 i] w fun e w1 => e = .returned (.slice none 0 0) ∧ Gr w w1 := by
  refine CW.enter (P := Try.prog) (F0 := none0) (L := [(0, _), (1, _)]) 22 [] Try.func34 rfl Try.ntmps34 (Nat.le_of_ble_eq_true rfl) (St.start w none0) rfl ?_
  refine CW.seq ?_
  refine CW.region ?_
  refine RW.y (.inl rfl) rfl (Yv.assign rfl) ?_
  refine RW.nil ?_
  refine PW.go ?_
  refine CW.seq ?_
  refine CW.seq ?_
  refine CW.region ?_
  refine RW.y (.inl rfl) rfl (Yv.move rfl) ?_
  refine RW.y (.inl rfl) rfl (Yv.lt rfl rfl) ?_
  refine RW.y (.inl rfl) rfl (Yv.move rfl) ?_
  refine RW.splitD 7 rfl (fun hc7 => ?_) (fun hc7 => ?_)
  ·
    refine RW.no ⟨_, _, 7, _, rfl, rfl, rfl, fun h => by simp [undef] at h⟩ rfl ?_
    refine RW.no ⟨_, _, 7, _, rfl, rfl, rfl, fun h => by simp [undef] at h⟩ rfl ?_
    refine RW.no ⟨_, _, 7, _, rfl, rfl, rfl, fun h => by simp [undef] at h⟩ rfl ?_
    refine RW.no ⟨_, _, 7, _, rfl, rfl, rfl, fun h => by simp [undef] at h⟩ rfl ?_
    refine RW.y (.inl rfl) rfl (Yv.pickT rfl rfl) ?_
    refine RW.nil ?_
    refine PW.go ?_
    refine CW.condT rfl ?_
    refine CW.seq ?_
    refine CW.region ?_
    refine RW.y (.inl rfl) rfl (Yv.assign rfl) ?_
    refine RW.nil ?_
    refine PW.go ?_
    refine CW.ret ?_
    refine PW.then_ret ?_
    refine PW.ret1 Try.results34 rfl (fun w1 hs => ?_)
    exact ⟨rfl, hs.mod.below⟩
  ·
    refine RW.y (.inr ⟨_, _, 7, rfl, rfl, rfl⟩) rfl (Yv.move rfl) ?_
    refine RW.y (.inr ⟨_, _, 7, rfl, rfl, rfl⟩) rfl (Yv.move rfl) ?_
    refine RW.o _ (.inr ⟨_, _, 7, rfl, rfl, rfl⟩) rfl (Ow.call e30 rfl (C.val (fun w hs => netN_nil _))) ?_
    rintro _ _ ⟨rfl, rfl⟩
    refine RW.y (.inr ⟨_, _, 7, rfl, rfl, rfl⟩) rfl (Yv.ge rfl rfl) ?_
    refine RW.y (.inl rfl) rfl (Yv.pickF rfl rfl) ?_
    refine RW.nil ?_
    refine PW.go ?_
    refine CW.condD rfl (fun hc12 => ?_) (fun hc12 => ?_)
    ·
      refine CW.seq ?_
      refine CW.region ?_
      refine RW.y (.inl rfl) rfl (Yv.assign rfl) ?_
      refine RW.nil ?_
      refine PW.go ?_
      refine CW.ret ?_
      refine PW.then_ret ?_
      refine PW.ret1 Try.results34 rfl (fun w1 hs => ?_)
      exact ⟨rfl, hs.mod.below⟩
    ·
      omega

set_option maxRecDepth 100000 in
theorem netWeight_nil (i j : Int) (w : World) : Calls Try.prog 32 #[.pointer none, .int .i64 i, .int .i64 j] w fun e w1 => e = .returned (.int .i64 0) ∧ Gr w w1 := by
  refine CW.enter (P := Try.prog) (F0 := none0) (L := [(0, _), (1, _), (2, _)]) 35 [] Try.func32 rfl Try.ntmps32 (Nat.le_of_ble_eq_true rfl) (St.start w none0) rfl ?_
  refine CW.seq ?_
  refine CW.region ?_
  refine RW.y (.inl rfl) rfl (Yv.assign rfl) ?_
  refine RW.nil ?_
  refine PW.go ?_
  refine CW.seq ?_
  refine CW.seq ?_
  refine CW.region ?_
  refine RW.y (.inl rfl) rfl (Yv.move rfl) ?_
  refine RW.y (.inl rfl) rfl (Yv.ptrNil Try.underlying25 rfl rfl) ?_
  refine RW.nil ?_
  refine PW.go ?_
  refine CW.cond rfl (fun hc11 => ?_) (fun hc11 => ?_)
  ·
    refine CW.seq ?_
    refine CW.region ?_
    refine RW.y (.inl rfl) rfl (Yv.assign rfl) ?_
    refine RW.nil ?_
    refine PW.go ?_
    refine CW.ret ?_
    refine PW.then_ret ?_
    refine PW.ret1 Try.results32 rfl (fun w1 hs => ?_)
    exact ⟨rfl, hs.mod.below⟩
  ·
    cases hc11

set_option maxRecDepth 100000 in
theorem netSame_nil (w : World) : Calls Try.prog 36 #[.pointer none, .pointer none] w fun e w1 => e = .returned (.bool true) ∧ Gr w w1 := by
  refine CW.enter (P := Try.prog) (F0 := none0) (L := [(0, _), (1, _)]) 33 [] Try.func36 rfl Try.ntmps36 (Nat.le_of_ble_eq_true rfl) (St.start w none0) rfl ?_
  refine CW.seq ?_
  refine CW.region ?_
  refine RW.y (.inl rfl) rfl (Yv.assign rfl) ?_
  refine RW.nil ?_
  refine PW.go ?_
  refine CW.seq ?_
  refine CW.seq ?_
  refine CW.region ?_
  refine RW.y (.inl rfl) rfl (Yv.move rfl) ?_
  refine RW.y (.inl rfl) rfl (Yv.ptrNil Try.underlying25 rfl rfl) ?_
  refine RW.y (.inl rfl) rfl (Yv.move rfl) ?_
  refine RW.splitB 7 rfl (fun hc7 => ?_) (fun hc7 => ?_)
  ·
    refine RW.no ⟨_, _, 7, _, rfl, rfl, rfl, fun h => by simp [undef] at h⟩ rfl ?_
    refine RW.no ⟨_, _, 7, _, rfl, rfl, rfl, fun h => by simp [undef] at h⟩ rfl ?_
    refine RW.y (.inl rfl) rfl (Yv.pickT rfl rfl) ?_
    refine RW.nil ?_
    refine PW.go ?_
    refine CW.condT rfl ?_
    refine CW.seq ?_
    refine CW.region ?_
    refine RW.y (.inl rfl) rfl (Yv.move rfl) ?_
    refine RW.y (.inl rfl) rfl (Yv.ptrNil Try.underlying25 rfl rfl) ?_
    refine RW.y (.inl rfl) rfl (Yv.move rfl) ?_
    refine RW.splitB 13 rfl (fun hc13 => ?_) (fun hc13 => ?_)
    ·
      refine RW.y (.inr ⟨_, _, 13, rfl, rfl, rfl⟩) rfl (Yv.move rfl) ?_
      refine RW.y (.inr ⟨_, _, 13, rfl, rfl, rfl⟩) rfl (Yv.ptrNil Try.underlying25 rfl rfl) ?_
      refine RW.y (.inl rfl) rfl (Yv.pickT rfl rfl) ?_
      refine RW.y (.inl rfl) rfl (Yv.assign rfl) ?_
      refine RW.nil ?_
      refine PW.go ?_
      refine CW.ret ?_
      refine PW.then_ret ?_
      refine PW.ret1 Try.results36 rfl (fun w1 hs => ?_)
      exact ⟨rfl, hs.mod.below⟩
    ·
      cases hc13
  ·
    cases hc7

set_option maxRecDepth 100000 in
theorem netSame_left (p : Addr) (w : World) : Calls Try.prog 36 #[.pointer none, .pointer (some p)] w fun e w1 => e = .returned (.bool false) ∧ Gr w w1 := by
  refine CW.enter (P := Try.prog) (F0 := none0) (L := [(0, _), (1, _)]) 33 [] Try.func36 rfl Try.ntmps36 (Nat.le_of_ble_eq_true rfl) (St.start w none0) rfl ?_
  refine CW.seq ?_
  refine CW.region ?_
  refine RW.y (.inl rfl) rfl (Yv.assign rfl) ?_
  refine RW.nil ?_
  refine PW.go ?_
  refine CW.seq ?_
  refine CW.seq ?_
  refine CW.region ?_
  refine RW.y (.inl rfl) rfl (Yv.move rfl) ?_
  refine RW.y (.inl rfl) rfl (Yv.ptrNil Try.underlying25 rfl rfl) ?_
  refine RW.y (.inl rfl) rfl (Yv.move rfl) ?_
  refine RW.splitB 7 rfl (fun hc7 => ?_) (fun hc7 => ?_)
  ·
    refine RW.no ⟨_, _, 7, _, rfl, rfl, rfl, fun h => by simp [undef] at h⟩ rfl ?_
    refine RW.no ⟨_, _, 7, _, rfl, rfl, rfl, fun h => by simp [undef] at h⟩ rfl ?_
    refine RW.y (.inl rfl) rfl (Yv.pickT rfl rfl) ?_
    refine RW.nil ?_
    refine PW.go ?_
    refine CW.condT rfl ?_
    refine CW.seq ?_
    refine CW.region ?_
    refine RW.y (.inl rfl) rfl (Yv.move rfl) ?_
    refine RW.y (.inl rfl) rfl (Yv.ptrNil Try.underlying25 rfl rfl) ?_
    refine RW.y (.inl rfl) rfl (Yv.move rfl) ?_
    refine RW.splitB 13 rfl (fun hc13 => ?_) (fun hc13 => ?_)
    ·
      refine RW.y (.inr ⟨_, _, 13, rfl, rfl, rfl⟩) rfl (Yv.move rfl) ?_
      refine RW.y (.inr ⟨_, _, 13, rfl, rfl, rfl⟩) rfl (Yv.ptrNil Try.underlying25 rfl rfl) ?_
      refine RW.y (.inl rfl) rfl (Yv.pickT rfl rfl) ?_
      refine RW.y (.inl rfl) rfl (Yv.assign rfl) ?_
      refine RW.nil ?_
      refine PW.go ?_
      refine CW.ret ?_
      refine PW.then_ret ?_
      refine PW.ret1 Try.results36 rfl (fun w1 hs => ?_)
      exact ⟨rfl, hs.mod.below⟩
    ·
      cases hc13
  ·
    cases hc7

set_option maxRecDepth 100000 in
theorem netSame_right (p : Addr) (w : World) : Calls Try.prog 36 #[.pointer (some p), .pointer none] w fun e w1 => e = .returned (.bool false) ∧ Gr w w1 := by
  refine CW.enter (P := Try.prog) (F0 := none0) (L := [(0, _), (1, _)]) 33 [] Try.func36 rfl Try.ntmps36 (Nat.le_of_ble_eq_true rfl) (St.start w none0) rfl ?_
  refine CW.seq ?_
  refine CW.region ?_
  refine RW.y (.inl rfl) rfl (Yv.assign rfl) ?_
  refine RW.nil ?_
  refine PW.go ?_
  refine CW.seq ?_
  refine CW.seq ?_
  refine CW.region ?_
  refine RW.y (.inl rfl) rfl (Yv.move rfl) ?_
  refine RW.y (.inl rfl) rfl (Yv.ptrNil Try.underlying25 rfl rfl) ?_
  refine RW.y (.inl rfl) rfl (Yv.move rfl) ?_
  refine RW.splitB 7 rfl (fun hc7 => ?_) (fun hc7 => ?_)
  ·
    cases hc7
  ·
    refine RW.y (.inr ⟨_, _, 7, rfl, rfl, rfl⟩) rfl (Yv.move rfl) ?_
    refine RW.y (.inr ⟨_, _, 7, rfl, rfl, rfl⟩) rfl (Yv.ptrNil Try.underlying25 rfl rfl) ?_
    refine RW.y (.inl rfl) rfl (Yv.pickF rfl rfl) ?_
    refine RW.nil ?_
    refine PW.go ?_
    refine CW.cond rfl (fun hc10 => ?_) (fun hc10 => ?_)
    ·
      refine CW.seq ?_
      refine CW.region ?_
      refine RW.y (.inl rfl) rfl (Yv.move rfl) ?_
      refine RW.y (.inl rfl) rfl (Yv.ptrNil Try.underlying25 rfl rfl) ?_
      refine RW.y (.inl rfl) rfl (Yv.move rfl) ?_
      refine RW.splitB 13 rfl (fun hc13 => ?_) (fun hc13 => ?_)
      ·
        cases hc13
      ·
        refine RW.no ⟨_, _, 13, _, rfl, rfl, rfl, fun h => by simp [undef] at h⟩ rfl ?_
        refine RW.no ⟨_, _, 13, _, rfl, rfl, rfl, fun h => by simp [undef] at h⟩ rfl ?_
        refine RW.y (.inl rfl) rfl (Yv.pickF rfl rfl) ?_
        refine RW.y (.inl rfl) rfl (Yv.assign rfl) ?_
        refine RW.nil ?_
        refine PW.go ?_
        refine CW.ret ?_
        refine PW.then_ret ?_
        refine PW.ret1 Try.results36 rfl (fun w1 hs => ?_)
        exact ⟨rfl, hs.mod.below⟩
    ·
      cases hc10

set_option maxRecDepth 100000 in
theorem netSame (b1 b2 : Nat) (G1 G2 : NetD) (w : World) (hN1 : IsNet w b1 G1) (hN2 : IsNet w b2 G2) : Calls Try.prog 36 #[.pointer (some ⟨b1, 0, none⟩), .pointer (some ⟨b2, 0, none⟩)] w fun e w1 => e = .returned (.bool (decide (G1.n = G2.n ∧ G1.l = G2.l))) ∧ Gr w w1 := by
  have hN1' := hN1
  have hN2' := hN2
  obtain ⟨⟨An, cn, Ad, cd, Al, cl, vs, h1, h2, h3, h4, h5⟩, hn, hl⟩ := hN1
  obtain ⟨⟨Bn, dn, Bd, dd, Bl, dl, ws, k1, k2, k3, k4, k5⟩, kn, kl⟩ := hN2
  refine CW.enter (P := Try.prog) (F0 := none0) (L := [(0, _), (1, _)]) 33 [] Try.func36 rfl Try.ntmps36 (Nat.le_of_ble_eq_true rfl) (St.start w none0) rfl ?_
  refine CW.seq ?_
  refine CW.region ?_
  refine RW.y (.inl rfl) rfl (Yv.assign rfl) ?_
  refine RW.nil ?_
  refine PW.go ?_
  refine CW.seq ?_
  refine CW.seq ?_
  refine CW.region ?_
  refine RW.y (.inl rfl) rfl (Yv.move rfl) ?_
  refine RW.y (.inl rfl) rfl (Yv.ptrNil Try.underlying25 rfl rfl) ?_
  refine RW.y (.inl rfl) rfl (Yv.move rfl) ?_
  refine RW.splitB 7 rfl (fun hc7 => ?_) (fun hc7 => ?_)
  ·
    cases hc7
  ·
    refine RW.y (.inr ⟨_, _, 7, rfl, rfl, rfl⟩) rfl (Yv.move rfl) ?_
    refine RW.y (.inr ⟨_, _, 7, rfl, rfl, rfl⟩) rfl (Yv.ptrNil Try.underlying25 rfl rfl) ?_
    refine RW.y (.inl rfl) rfl (Yv.pickF rfl rfl) ?_
    refine RW.nil ?_
    refine PW.go ?_
    refine CW.cond rfl (fun hc10 => ?_) (fun hc10 => ?_)
    ·
      cases hc10
    ·
      refine CW.skip ?_
      refine PW.go ?_
      refine CW.seq ?_
      refine CW.draw0 mixed ?_
      refine HW.take 0 rfl (by kernel_rfl) (by kernel_rfl) (by kernel_rfl) (fun _ _ _ h => h) (.inl rfl) rfl (fun _ h => h) (Yv.move rfl) ?_
      refine HW.take 2 rfl (by kernel_rfl) (by kernel_rfl) (by kernel_rfl) (fun _ _ _ h => h) (.inl rfl) rfl (fun _ h => h) (Yv.move rfl) ?_
      refine HW.run 1 rfl (by kernel_rfl) _ (.inl rfl) rfl (Ow.call e30 rfl (C.val (fun w hs => netN b1 G1 _ (hN1'.below hs.mod.below)))) (by rintro _ _ ⟨rfl, rfl⟩ w h; exact h) ?_
      rintro _ _ ⟨rfl, rfl⟩
      refine HW.run 3 rfl (by kernel_rfl) _ (.inl rfl) rfl (Ow.call e30 rfl (C.val (fun w hs => netN b2 G2 _ (hN2'.below hs.mod.below)))) (by rintro _ _ ⟨rfl, rfl⟩ w h; exact h) ?_
      rintro _ _ ⟨rfl, rfl⟩
      refine HW.take 4 rfl (by kernel_rfl) (by kernel_rfl) (by kernel_rfl) (fun _ _ _ h => h) (.inl rfl) rfl (fun _ h => h) (Yv.eq rfl rfl) ?_
      refine HW.take 5 rfl (by kernel_rfl) (by kernel_rfl) (by kernel_rfl) (fun _ _ _ h => h) (.inl rfl) rfl (fun _ h => h) (Yv.move rfl) ?_
      refine HW.splitD 22 rfl (fun hc22 => ?_) (fun hc22 => ?_)
      ·
        have hnn : G1.n = G2.n := by omega
        refine HW.take 6 rfl (by kernel_rfl) (by kernel_rfl) (by kernel_rfl) (fun _ _ _ h => h) (.inr ⟨_, _, 22, rfl, rfl, rfl⟩) rfl (fun _ h => h) (Yv.move rfl) ?_
        refine HW.take 7 rfl (by kernel_rfl) (by kernel_rfl) (by kernel_rfl) (fun _ _ _ h => h) (.inr ⟨_, _, 22, rfl, rfl, rfl⟩) rfl (fun _ h => h) (Yv.nilCheck rfl) ?_
        refine HW.take 8 rfl (by kernel_rfl) (by kernel_rfl) (by kernel_rfl) (fun _ _ _ h => h) (.inr ⟨_, _, 22, rfl, rfl, rfl⟩) rfl (fun _ h => h) (Yv.fieldAddr Try.underlying88 rfl Try.sizeOf22 rfl rfl) ?_
        refine HW.take 9 rfl (by kernel_rfl) (by kernel_rfl) (by kernel_rfl) (fun _ _ _ h => h) (.inr ⟨_, _, 22, rfl, rfl, rfl⟩) rfl (fun _ h => h) (Yv.load1 Try.isAgg22 rfl (CF.old (cell_of h1 rfl) (not_none0 _))) ?_
        refine HW.take 10 rfl (by kernel_rfl) (by kernel_rfl) (by kernel_rfl) (fun _ _ _ h => h) (.inr ⟨_, _, 22, rfl, rfl, rfl⟩) rfl (fun _ h => h) (Yv.move rfl) ?_
        refine HW.take 11 rfl (by kernel_rfl) (by kernel_rfl) (by kernel_rfl) (fun _ _ _ h => h) (.inr ⟨_, _, 22, rfl, rfl, rfl⟩) rfl (fun _ h => h) (Yv.nilCheck rfl) ?_
        refine HW.take 12 rfl (by kernel_rfl) (by kernel_rfl) (by kernel_rfl) (fun _ _ _ h => h) (.inr ⟨_, _, 22, rfl, rfl, rfl⟩) rfl (fun _ h => h) (Yv.fieldAddr Try.underlying88 rfl Try.sizeOf22 rfl rfl) ?_
        refine HW.take 13 rfl (by kernel_rfl) (by kernel_rfl) (by kernel_rfl) (fun _ _ _ h => h) (.inr ⟨_, _, 22, rfl, rfl, rfl⟩) rfl (fun _ h => h) (Yv.load1 Try.isAgg22 rfl (CF.old (cell_of k1 rfl) (not_none0 _))) ?_
        refine HW.run 14 rfl (by kernel_rfl) _ (.inr ⟨_, _, 22, rfl, rfl, rfl⟩) rfl (Ow.call e70 rfl (C.val (fun w hs => equalsE _ Al cl G1.l (h4.below hs.mod.below) Bl dl G2.l (k4.below hs.mod.below)))) (by rintro _ _ ⟨rfl, rfl⟩ w h; exact h) ?_
        rintro _ _ ⟨rfl, rfl⟩
        refine HW.take 15 rfl (by kernel_rfl) (by kernel_rfl) (by kernel_rfl) (fun _ _ _ h => h) (.inl rfl) rfl (fun _ h => h) (Yv.pickT rfl rfl) ?_
        refine HW.take 16 rfl (by kernel_rfl) (by kernel_rfl) (by kernel_rfl) (fun _ _ _ h => h) (.inl rfl) rfl (fun _ h => h) (Yv.assign rfl) ?_
        refine HW.done (by kernel_rfl) ?_
        refine PW.go ?_
        refine CW.ret ?_
        refine PW.ret1 Try.results36 rfl (fun w1 hs => ?_)
        refine ⟨?_, hs.mod.below⟩
        simp [hnn]
      ·
        have hnn : ¬ G1.n = G2.n := by omega
        refine HW.skip 6 rfl (by kernel_rfl) (by kernel_rfl) (by kernel_rfl) (fun _ _ _ h => h) ⟨_, _, 22, _, rfl, rfl, rfl, fun h => by simp [undef] at h⟩ rfl (fun _ h => h) ?_
        refine HW.skip 7 rfl (by kernel_rfl) (by kernel_rfl) (by kernel_rfl) (fun _ _ _ h => h) ⟨_, _, 22, _, rfl, rfl, rfl, fun h => by simp [undef] at h⟩ rfl (fun _ h => h) ?_
        refine HW.skip 8 rfl (by kernel_rfl) (by kernel_rfl) (by kernel_rfl) (fun _ _ _ h => h) ⟨_, _, 22, _, rfl, rfl, rfl, fun h => by simp [undef] at h⟩ rfl (fun _ h => h) ?_
        refine HW.skip 9 rfl (by kernel_rfl) (by kernel_rfl) (by kernel_rfl) (fun _ _ _ h => h) ⟨_, _, 22, _, rfl, rfl, rfl, fun h => by simp [undef] at h⟩ rfl (fun _ h => h) ?_
        refine HW.skip 10 rfl (by kernel_rfl) (by kernel_rfl) (by kernel_rfl) (fun _ _ _ h => h) ⟨_, _, 22, _, rfl, rfl, rfl, fun h => by simp [undef] at h⟩ rfl (fun _ h => h) ?_
        refine HW.skip 11 rfl (by kernel_rfl) (by kernel_rfl) (by kernel_rfl) (fun _ _ _ h => h) ⟨_, _, 22, _, rfl, rfl, rfl, fun h => by simp [undef] at h⟩ rfl (fun _ h => h) ?_
        refine HW.skip 12 rfl (by kernel_rfl) (by kernel_rfl) (by kernel_rfl) (fun _ _ _ h => h) ⟨_, _, 22, _, rfl, rfl, rfl, fun h => by simp [undef] at h⟩ rfl (fun _ h => h) ?_
        refine HW.skip 13 rfl (by kernel_rfl) (by kernel_rfl) (by kernel_rfl) (fun _ _ _ h => h) ⟨_, _, 22, _, rfl, rfl, rfl, fun h => by simp [undef] at h⟩ rfl (fun _ h => h) ?_
        refine HW.skip 14 rfl (by kernel_rfl) (by kernel_rfl) (by kernel_rfl) (fun _ _ _ h => h) ⟨_, _, 22, _, rfl, rfl, rfl, fun h => by simp [undef] at h⟩ rfl (fun _ h => h) ?_
        refine HW.take 15 rfl (by kernel_rfl) (by kernel_rfl) (by kernel_rfl) (fun _ _ _ h => h) (.inl rfl) rfl (fun _ h => h) (Yv.pickF rfl rfl) ?_
        refine HW.take 16 rfl (by kernel_rfl) (by kernel_rfl) (by kernel_rfl) (fun _ _ _ h => h) (.inl rfl) rfl (fun _ h => h) (Yv.assign rfl) ?_
        refine HW.done (by kernel_rfl) ?_
        refine PW.go ?_
        refine CW.ret ?_
        refine PW.ret1 Try.results36 rfl (fun w1 hs => ?_)
        refine ⟨?_, hs.mod.below⟩
        simp [hnn]

set_option maxRecDepth 100000 in
theorem netDegree_out (b : Nat) (G : NetD) (i : Int) (w : World) (hN : IsNet w b G) (hi : ¬ (0 ≤ i ∧ i < G.n)) : Calls Try.prog 33 #[.pointer (some ⟨b, 0, none⟩), .int .i64 i] w fun e w1 => e = .returned (.int .i64 0) ∧ Gr w w1 := by
  refine CW.enter (P := Try.prog) (F0 := none0) (L := [(0, _), (1, _)]) 21 [] Try.func33 rfl Try.ntmps33 (Nat.le_of_ble_eq_true rfl) (St.start w none0) rfl ?_
  refine CW.seq ?_
  refine CW.region ?_
  refine RW.y (.inl rfl) rfl (Yv.assign rfl) ?_
  refine RW.nil ?_
  refine PW.go ?_
  refine CW.seq ?_
  refine CW.seq ?_
  refine CW.region ?_
  refine RW.y (.inl rfl) rfl (Yv.move rfl) ?_
  refine RW.y (.inl rfl) rfl (Yv.lt rfl rfl) ?_
  refine RW.y (.inl rfl) rfl (Yv.move rfl) ?_
  refine RW.splitD 7 rfl (fun hc7 => ?_) (fun hc7 => ?_)
  ·
    refine RW.no ⟨_, _, 7, _, rfl, rfl, rfl, fun h => by simp [undef] at h⟩ rfl ?_
    refine RW.no ⟨_, _, 7, _, rfl, rfl, rfl, fun h => by simp [undef] at h⟩ rfl ?_
    refine RW.no ⟨_, _, 7, _, rfl, rfl, rfl, fun h => by simp [undef] at h⟩ rfl ?_
    refine RW.no ⟨_, _, 7, _, rfl, rfl, rfl, fun h => by simp [undef] at h⟩ rfl ?_
    refine RW.y (.inl rfl) rfl (Yv.pickT rfl rfl) ?_
    refine RW.nil ?_
    refine PW.go ?_
    refine CW.condT rfl ?_
    refine CW.seq ?_
    refine CW.region ?_
    refine RW.y (.inl rfl) rfl (Yv.assign rfl) ?_
    refine RW.nil ?_
    refine PW.go ?_
    refine CW.ret ?_
    refine PW.then_ret ?_
    refine PW.ret1 Try.results33 rfl (fun w1 hs => ?_)
    exact ⟨rfl, hs.mod.below⟩
  ·
    refine RW.y (.inr ⟨_, _, 7, rfl, rfl, rfl⟩) rfl (Yv.move rfl) ?_
    refine RW.y (.inr ⟨_, _, 7, rfl, rfl, rfl⟩) rfl (Yv.move rfl) ?_
    refine RW.o _ (.inr ⟨_, _, 7, rfl, rfl, rfl⟩) rfl (Ow.call e30 rfl (C.val (fun w hs => netN b G _ (hN.below hs.mod.below)))) ?_
    rintro _ _ ⟨rfl, rfl⟩
    refine RW.y (.inr ⟨_, _, 7, rfl, rfl, rfl⟩) rfl (Yv.ge rfl rfl) ?_
    refine RW.y (.inl rfl) rfl (Yv.pickF rfl rfl) ?_
    refine RW.nil ?_
    refine PW.go ?_
    refine CW.condD rfl (fun hc12 => ?_) (fun hc12 => ?_)
    ·
      refine CW.seq ?_
      refine CW.region ?_
      refine RW.y (.inl rfl) rfl (Yv.assign rfl) ?_
      refine RW.nil ?_
      refine PW.go ?_
      refine CW.ret ?_
      refine PW.then_ret ?_
      refine PW.ret1 Try.results33 rfl (fun w1 hs => ?_)
      exact ⟨rfl, hs.mod.below⟩
    ·
      omega

set_option maxRecDepth 100000 in
theorem netNear_out (b : Nat) (G : NetD) (i : Int) (w : World) (hN : IsNet w b G) (hi : ¬ (0 ≤ i ∧ i < G.n)) : Calls Try.prog 34 #[.pointer (some ⟨b, 0, none⟩), .int .i64 i] w fun e w1 => e = .returned (.slice none 0 0) ∧ Gr w w1 := by
  refine CW.enter (P := Try.prog) (F0 := none0) (L := [(0, _), (1, _)]) 22 [] Try.func34 rfl Try.ntmps34 (Nat.le_of_ble_eq_true rfl) (St.start w none0) rfl ?_
  refine CW.seq ?_
  refine CW.region ?_
  refine RW.y (.inl rfl) rfl (Yv.assign rfl) ?_
  refine RW.nil ?_
  refine PW.go ?_
  refine CW.seq ?_
  refine CW.seq ?_
  refine CW.region ?_
  refine RW.y (.inl rfl) rfl (Yv.move rfl) ?_
  refine RW.y (.inl rfl) rfl (Yv.lt rfl rfl) ?_
  refine RW.y (.inl rfl) rfl (Yv.move rfl) ?_
  refine RW.splitD 7 rfl (fun hc7 => ?_) (fun hc7 => ?_)
  ·
    refine RW.no ⟨_, _, 7, _, rfl, rfl, rfl, fun h => by simp [undef] at h⟩ rfl ?_
    refine RW.no ⟨_, _, 7, _, rfl, rfl, rfl, fun h => by simp [undef] at h⟩ rfl ?_
    refine RW.no ⟨_, _, 7, _, rfl, rfl, rfl, fun h => by simp [undef] at h⟩ rfl ?_
    refine RW.no ⟨_, _, 7, _, rfl, rfl, rfl, fun h => by simp [undef] at h⟩ rfl ?_
    refine RW.y (.inl rfl) rfl (Yv.pickT rfl rfl) ?_
    refine RW.nil ?_
    refine PW.go ?_
    refine CW.condT rfl ?_
    refine CW.seq ?_
    refine CW.region ?_
    refine RW.y (.inl rfl) rfl (Yv.assign rfl) ?_
    refine RW.nil ?_
    refine PW.go ?_
    refine CW.ret ?_
    refine PW.then_ret ?_
    refine PW.ret1 Try.results34 rfl (fun w1 hs => ?_)
    exact ⟨rfl, hs.mod.below⟩
  ·
    refine RW.y (.inr ⟨_, _, 7, rfl, rfl, rfl⟩) rfl (Yv.move rfl) ?_
    refine RW.y (.inr ⟨_, _, 7, rfl, rfl, rfl⟩) rfl (Yv.move rfl) ?_
    refine RW.o _ (.inr ⟨_, _, 7, rfl, rfl, rfl⟩) rfl (Ow.call e30 rfl (C.val (fun w hs => netN b G _ (hN.below hs.mod.below)))) ?_
    rintro _ _ ⟨rfl, rfl⟩
    refine RW.y (.inr ⟨_, _, 7, rfl, rfl, rfl⟩) rfl (Yv.ge rfl rfl) ?_
    refine RW.y (.inl rfl) rfl (Yv.pickF rfl rfl) ?_
    refine RW.nil ?_
    refine PW.go ?_
    refine CW.condD rfl (fun hc12 => ?_) (fun hc12 => ?_)
    ·
      refine CW.seq ?_
      refine CW.region ?_
      refine RW.y (.inl rfl) rfl (Yv.assign rfl) ?_
      refine RW.nil ?_
      refine PW.go ?_
      refine CW.ret ?_
      refine PW.then_ret ?_
      refine PW.ret1 Try.results34 rfl (fun w1 hs => ?_)
      exact ⟨rfl, hs.mod.below⟩
    ·
      omega

set_option maxRecDepth 100000 in
theorem netDegree (b : Nat) (G : NetD) (i : Int) (w : World) (hN : IsNet w b G) (hi : 0 ≤ i ∧ i < G.n) : Calls Try.prog 33 #[.pointer (some ⟨b, 0, none⟩), .int .i64 i] w fun e w1 => e = .returned (.int .i64 (G.deg.getD i.toNat 0)) ∧ Gr w w1 := by
  have hN' := hN
  obtain ⟨⟨An, cn, Ad, cd, Al, cl, vs, h1, h2, h3, h4, h5⟩, hn, hl⟩ := hN
  obtain ⟨bd, od, rfl, hbd, hcd⟩ := h3.2.2 (by omega)
  have hdl := h3.1
  rw [i64s_length] at hdl
  obtain ⟨d, hd⟩ : ∃ d, G.deg[i.toNat]? = some d := ⟨_, List.getElem?_eq_getElem (by omega)⟩
  refine CW.enter (P := Try.prog) (F0 := none0) (L := [(0, _), (1, _)]) 21 [] Try.func33 rfl Try.ntmps33 (Nat.le_of_ble_eq_true rfl) (St.start w none0) rfl ?_
  refine CW.seq ?_
  refine CW.region ?_
  refine RW.y (.inl rfl) rfl (Yv.assign rfl) ?_
  refine RW.nil ?_
  refine PW.go ?_
  refine CW.seq ?_
  refine CW.seq ?_
  refine CW.region ?_
  refine RW.y (.inl rfl) rfl (Yv.move rfl) ?_
  refine RW.y (.inl rfl) rfl (Yv.lt rfl rfl) ?_
  refine RW.y (.inl rfl) rfl (Yv.move rfl) ?_
  refine RW.splitD 7 rfl (fun hc7 => ?_) (fun hc7 => ?_)
  ·
    omega
  ·
    refine RW.y (.inr ⟨_, _, 7, rfl, rfl, rfl⟩) rfl (Yv.move rfl) ?_
    refine RW.y (.inr ⟨_, _, 7, rfl, rfl, rfl⟩) rfl (Yv.move rfl) ?_
    refine RW.o _ (.inr ⟨_, _, 7, rfl, rfl, rfl⟩) rfl (Ow.call e30 rfl (C.val (fun w hs => netN b G _ (hN'.below hs.mod.below)))) ?_
    rintro _ _ ⟨rfl, rfl⟩
    refine RW.y (.inr ⟨_, _, 7, rfl, rfl, rfl⟩) rfl (Yv.ge rfl rfl) ?_
    refine RW.y (.inl rfl) rfl (Yv.pickF rfl rfl) ?_
    refine RW.nil ?_
    refine PW.go ?_
    refine CW.condD rfl (fun hc12 => ?_) (fun hc12 => ?_)
    ·
      omega
    ·
      refine CW.skip ?_
      refine PW.go ?_
      refine CW.seq ?_
      refine CW.region ?_
      refine RW.y (.inl rfl) rfl (Yv.move rfl) ?_
      refine RW.y (.inl rfl) rfl (Yv.nilCheck rfl) ?_
      refine RW.y (.inl rfl) rfl (Yv.fieldAddr Try.underlying88 rfl Try.sizeOf86 rfl rfl) ?_
      refine RW.y (.inl rfl) rfl (Yv.fieldAddr Try.underlying86 rfl Try.sizeOf73 rfl rfl) ?_
      refine RW.y (.inl rfl) rfl (Yv.load1 Try.isAgg73 rfl (CF.old (cell_of h1 rfl) (not_none0 _))) ?_
      refine RW.y (.inl rfl) rfl (Yv.move rfl) ?_
      refine RW.y (.inl rfl) rfl (Yv.index1 Try.underlying73 Try.sizeOf2 rfl rfl (by omega) (by omega)) ?_
      refine RW.y (.inl rfl) rfl (Yv.load1 Try.isAgg2 rfl (CF.old (hcd _ _ (i64s_get _ _ _ hd)) (not_none0 _))) ?_
      refine RW.y (.inl rfl) rfl (Yv.assign rfl) ?_
      refine RW.nil ?_
      refine PW.go ?_
      refine CW.ret ?_
      refine PW.ret1 Try.results33 rfl (fun w1 hs => ?_)
      refine ⟨?_, hs.mod.below⟩
      rw [List.getD_eq_getElem?_getD, hd]; rfl

end Go.Proofs.Ytpkjbbhkkhpafaa
