/- Walks, written by a program of this session (gen.py) out of a spec. -/
import Derived.Test.YtipoblpnkkcpgaaGreatModel
set_option linter.unusedVariables false
set_option linter.unusedSimpArgs false
namespace Go.Proofs.YtipoblpnkkcpgaaGreat
open Go Go.RowKit Go.Proofs.YtipoblpnkkcpgaaGreat.B

set_option maxRecDepth 100000 in
theorem edgeCheck (n : Int) (x : Edg) (w : World) : Calls Tryz.prog 79 #[.int .i64 n, aggE x] w fun e w1 => e = .returned (.int .i64 (chkE n x)) ∧ Gr w w1 := by
  unfold aggE
  refine CW.enter (P := Tryz.prog) (F0 := none0) (L := [(0, _), (1, _)]) 31 [] Tryz.func79 rfl Tryz.ntmps79 (Nat.le_of_ble_eq_true rfl) (St.start w none0) rfl ?_
  refine CW.seq ?_
  refine CW.region ?_
  refine RW.o _ (.inl rfl) rfl (Ow.box (cs := [_, _, _]) rfl rfl) ?_
  rintro _ _ ⟨b3, rfl, rfl⟩
  refine RW.y (.inl rfl) rfl (Yv.assign rfl) ?_
  refine RW.nil ?_
  refine PW.go ?_
  refine CW.seq ?_
  refine CW.seq ?_
  refine CW.region ?_
  refine RW.y (.inl rfl) rfl (Yv.fieldAddr Tryz.underlying79 rfl Tryz.sizeOf3 rfl rfl) ?_
  refine RW.y (.inl rfl) rfl (Yv.load1 Tryz.isAgg3 rfl (CF.blk 0 rfl rfl)) ?_
  refine RW.y (.inl rfl) rfl (Yv.fieldAddr Tryz.underlying79 rfl Tryz.sizeOf3 rfl rfl) ?_
  refine RW.y (.inl rfl) rfl (Yv.load1 Tryz.isAgg3 rfl (CF.blk 0 rfl rfl)) ?_
  refine RW.y (.inl rfl) rfl (Yv.build rfl (fun w => by exact bld130_0_1 _ _ w)) ?_
  refine RW.y (.inl rfl) rfl (Yv.move rfl) ?_
  refine RW.nil ?_
  refine PW.go ?_
  refine CW.block ?_
  refine CW.loop (σ := Nat) (fun k => k ≤ 2 ∧ (1 ≤ k → 0 ≤ x.u ∧ x.u < n) ∧ (2 ≤ k → 0 ≤ x.v ∧ x.v < n)) (fun k => [(0, .int .i64 n), (3, .pointer (some ⟨b3, 0, none⟩)), (11, .agg #[.int .i64 x.u, .int .i64 x.v]), (12, .int .i64 (k : Nat))]) (fun k => [blk b3 [.int .i64 x.u, .int .i64 x.v, .int .i64 x.w] 79]) (fun k => 2 - k) 0 (by simp) ⟨rfl, rfl, rfl, rfl, trivial⟩ (fun w h => h) ?_
  intro k hk
  obtain ⟨hk2, hku, hkv⟩ := hk
  refine CW.seq ?_
  refine CW.region ?_
  refine RW.y (.inl rfl) rfl (Yv.lt rfl rfl) ?_
  refine RW.nil ?_
  refine PW.go ?_
  refine CW.seq ?_
  refine CW.condD rfl (fun hc13 => ?_) (fun hc13 => ?_)
  ·
    refine CW.skip ?_
    refine PW.go ?_
    refine CW.seq ?_
    refine CW.block ?_
    refine CW.seq ?_
    refine CW.region ?_
    refine RW.y (.inl rfl) rfl (Yv.elem1 Tryz.underlying130 Tryz.sizeOf3 Tryz.isAgg3 rfl rfl (by omega) (by omega) (show _ = some (.int .i64 (if k = 0 then x.u else x.v)) by rcases (show k = 0 ∨ k = 1 by omega) with rfl | rfl <;> rfl)) ?_
    refine RW.y (.inl rfl) rfl (Yv.assign rfl) ?_
    refine RW.nil ?_
    refine PW.go ?_
    refine CW.seq ?_
    refine CW.region ?_
    refine RW.y (.inl rfl) rfl (Yv.move rfl) ?_
    refine RW.y (.inl rfl) rfl (Yv.lt rfl rfl) ?_
    refine RW.y (.inl rfl) rfl (Yv.move rfl) ?_
    refine RW.splitD 17 rfl (fun hc17 => ?_) (fun hc17 => ?_)
    ·
      refine RW.no ⟨_, _, 17, _, rfl, rfl, rfl, fun h => by simp [undef] at h⟩ rfl ?_
      refine RW.no ⟨_, _, 17, _, rfl, rfl, rfl, fun h => by simp [undef] at h⟩ rfl ?_
      refine RW.no ⟨_, _, 17, _, rfl, rfl, rfl, fun h => by simp [undef] at h⟩ rfl ?_
      refine RW.y (.inl rfl) rfl (Yv.pickT rfl rfl) ?_
      refine RW.nil ?_
      refine PW.go ?_
      refine CW.condT rfl ?_
      refine CW.seq ?_
      refine CW.region ?_
      refine RW.y (.inl rfl) rfl (Yv.assign rfl) ?_
      refine RW.nil ?_
      refine PW.go ?_
      refine CW.ret ?_
      refine PW.block_ret ?_
      refine PW.then_ret ?_
      refine PW.then_ret ?_
      refine PW.block_ret ?_
      refine PW.then_ret ?_
      refine PW.ret1 Tryz.results79 rfl (fun w1 hs => ?_)
      refine ⟨?_, hs.mod.below⟩
      unfold chkE
      rw [if_pos (by split at * <;> omega)]
    ·
      refine RW.y (.inr ⟨_, _, 17, rfl, rfl, rfl⟩) rfl (Yv.move rfl) ?_
      refine RW.y (.inr ⟨_, _, 17, rfl, rfl, rfl⟩) rfl (Yv.move rfl) ?_
      refine RW.y (.inr ⟨_, _, 17, rfl, rfl, rfl⟩) rfl (Yv.ge rfl rfl) ?_
      refine RW.y (.inl rfl) rfl (Yv.pickF rfl rfl) ?_
      refine RW.nil ?_
      refine PW.go ?_
      refine CW.condD rfl (fun hc21 => ?_) (fun hc21 => ?_)
      ·
        refine CW.seq ?_
        refine CW.region ?_
        refine RW.y (.inl rfl) rfl (Yv.assign rfl) ?_
        refine RW.nil ?_
        refine PW.go ?_
        refine CW.ret ?_
        refine PW.block_ret ?_
        refine PW.then_ret ?_
        refine PW.then_ret ?_
        refine PW.block_ret ?_
        refine PW.then_ret ?_
        refine PW.ret1 Tryz.results79 rfl (fun w1 hs => ?_)
        refine ⟨?_, hs.mod.below⟩
        unfold chkE
        rw [if_pos (by split at * <;> omega)]
      ·
        refine CW.skip ?_
        refine PW.block ?_
        refine PW.go ?_
        refine CW.region ?_
        refine RW.y (.inl rfl) rfl (Yv.add rfl rfl (by omega)) ?_
        refine RW.y (.inl rfl) rfl (Yv.move rfl) ?_
        refine RW.nil ?_
        exact PW.next (k + 1) (by
              by_cases hk0 : k = 0
              · subst hk0; simp at hc17 hc21; exact ⟨by omega, fun _ => ⟨by omega, by omega⟩, fun h => by omega⟩
              · obtain rfl : k = 1 := by omega
                simp at hc17 hc21; exact ⟨by omega, fun _ => hku (by omega), fun _ => ⟨by omega, by omega⟩⟩) ⟨rfl, rfl, rfl, rfl, trivial⟩ (fun w h => h) (by omega)
  ·
    refine CW.exit ?_
    refine PW.then_exit ?_
    refine PW.then_exit ?_
    refine PW.block_exit ?_
    refine PW.go ?_
    refine CW.seq ?_
    refine CW.seq ?_
    refine CW.region ?_
    refine RW.y (.inl rfl) rfl (Yv.fieldAddr Tryz.underlying79 rfl Tryz.sizeOf2 rfl rfl) ?_
    refine RW.y (.inl rfl) rfl (Yv.load1 Tryz.isAgg2 rfl (CF.blk 0 rfl rfl)) ?_
    refine RW.y (.inl rfl) rfl (Yv.lt rfl rfl) ?_
    refine RW.y (.inl rfl) rfl (Yv.move rfl) ?_
    refine RW.splitD 26 rfl (fun hc26 => ?_) (fun hc26 => ?_)
    ·
      refine RW.no ⟨_, _, 26, _, rfl, rfl, rfl, fun h => by simp [undef] at h⟩ rfl ?_
      refine RW.no ⟨_, _, 26, _, rfl, rfl, rfl, fun h => by simp [undef] at h⟩ rfl ?_
      refine RW.no ⟨_, _, 26, _, rfl, rfl, rfl, fun h => by simp [undef] at h⟩ rfl ?_
      refine RW.y (.inl rfl) rfl (Yv.pickT rfl rfl) ?_
      refine RW.nil ?_
      refine PW.go ?_
      refine CW.condT rfl ?_
      refine CW.seq ?_
      refine CW.region ?_
      refine RW.y (.inl rfl) rfl (Yv.assign rfl) ?_
      refine RW.nil ?_
      refine PW.go ?_
      refine CW.ret ?_
      refine PW.then_ret ?_
      refine PW.ret1 Tryz.results79 rfl (fun w1 hs => ?_)
      refine ⟨?_, hs.mod.below⟩
      have := hku (by omega); have := hkv (by omega)
      unfold chkE
      rw [if_neg (by omega), if_pos (by omega)]
    ·
      refine RW.y (.inr ⟨_, _, 26, rfl, rfl, rfl⟩) rfl (Yv.fieldAddr Tryz.underlying79 rfl Tryz.sizeOf2 rfl rfl) ?_
      refine RW.y (.inr ⟨_, _, 26, rfl, rfl, rfl⟩) rfl (Yv.load1 Tryz.isAgg2 rfl (CF.blk 0 rfl rfl)) ?_
      refine RW.y (.inr ⟨_, _, 26, rfl, rfl, rfl⟩) rfl (Yv.gt rfl rfl) ?_
      refine RW.y (.inl rfl) rfl (Yv.pickF rfl rfl) ?_
      refine RW.nil ?_
      refine PW.go ?_
      refine CW.condD rfl (fun hc30 => ?_) (fun hc30 => ?_)
      ·
        refine CW.seq ?_
        refine CW.region ?_
        refine RW.y (.inl rfl) rfl (Yv.assign rfl) ?_
        refine RW.nil ?_
        refine PW.go ?_
        refine CW.ret ?_
        refine PW.then_ret ?_
        refine PW.ret1 Tryz.results79 rfl (fun w1 hs => ?_)
        refine ⟨?_, hs.mod.below⟩
        have := hku (by omega); have := hkv (by omega)
        unfold chkE
        rw [if_neg (by omega), if_pos (by omega)]
      ·
        refine CW.skip ?_
        refine PW.go ?_
        refine CW.seq ?_
        refine CW.region ?_
        refine RW.y (.inl rfl) rfl (Yv.assign rfl) ?_
        refine RW.nil ?_
        refine PW.go ?_
        refine CW.ret ?_
        refine PW.ret1 Tryz.results79 rfl (fun w1 hs => ?_)
        refine ⟨?_, hs.mod.below⟩
        have := hku (by omega); have := hkv (by omega)
        unfold chkE
        rw [if_neg (by omega), if_neg (by omega)]

set_option maxRecDepth 100000 in
theorem edgeChecks (n : Int) (A : Option Addr) (c : Nat) (l : List Edg) (w : World) (hr : Rd w A 3 l.length (cellsE l)) : Calls Tryz.prog 37 #[.int .i64 n, .slice A l.length c] w fun e w1 => ∃ p : Int × Nat, Chks n l p.1 p.2 ∧ e = .returned (.tuple #[.int .i64 p.1, .int .i64 p.2]) ∧ Gr w w1 := by
  have hlen := hr.2.1
  refine CW.enter (P := Tryz.prog) (F0 := none0) (L := [(0, _), (1, _)]) 24 [] Tryz.func37 rfl Tryz.ntmps37 (Nat.le_of_ble_eq_true rfl) (St.start w none0) rfl ?_
  refine CW.seq ?_
  refine CW.region ?_
  refine RW.y (.inl rfl) rfl (Yv.assign rfl) ?_
  refine RW.y (.inl rfl) rfl (Yv.assign rfl) ?_
  refine RW.nil ?_
  refine PW.go ?_
  refine CW.seq ?_
  refine CW.seq ?_
  refine CW.region ?_
  refine RW.y (.inl rfl) rfl (Yv.move rfl) ?_
  refine RW.y (.inl rfl) rfl (Yv.len Tryz.underlying22 rfl) ?_
  refine RW.y (.inl rfl) rfl (Yv.move rfl) ?_
  refine RW.nil ?_
  refine PW.go ?_
  refine CW.block ?_
  refine CW.loop (σ := Nat) (fun k => k ≤ l.length ∧ ∀ j, j < k → ∀ e', l[j]? = some e' → chkE n e' = 0) (fun k => [(0, .int .i64 n), (9, .slice A l.length c), (10, .int .i64 l.length), (11, .int .i64 (k : Nat))]) (fun k => []) (fun k => l.length - k) 0 (⟨by omega, fun j hj => by omega⟩) ⟨rfl, rfl, rfl, rfl, trivial⟩ (fun w h => h) ?_
  intro k hk
  obtain ⟨hk, hok⟩ := hk
  refine CW.seq ?_
  refine CW.region ?_
  refine RW.y (.inl rfl) rfl (Yv.lt rfl rfl) ?_
  refine RW.nil ?_
  refine PW.go ?_
  refine CW.seq ?_
  refine CW.condD rfl (fun hc12 => ?_) (fun hc12 => ?_)
  ·
    refine CW.skip ?_
    refine PW.go ?_
    refine CW.seq ?_
    refine CW.block ?_
    refine CW.seq ?_
    have hkl : k < l.length := by omega
    obtain ⟨b, o, rfl, hb, hc⟩ := hr.2.2 (by omega)
    obtain ⟨x, hx⟩ : ∃ x, l[k]? = some x := ⟨_, List.getElem?_eq_getElem hkl⟩
    have hcx := cellsE_get l k x hx
    refine CW.region ?_
    refine RW.y (.inl rfl) rfl (Yv.move rfl) ?_
    refine RW.y (.inl rfl) rfl (Yv.indexK Tryz.underlying22 Tryz.sizeOf79 rfl rfl (by omega) (by omega)) ?_
    refine RW.y (.inl rfl) rfl (Yv.loadK (vs := [_, _, _]) Tryz.isAgg79 Tryz.sizeOf79 rfl (CFs.old (vs := encE x) (fun j v hj => by rw [add_plain', Nat.add_assoc]; exact hc _ v (hcx j v hj)) (fun _ _ _ => not_none0 _))) ?_
    refine RW.o _ (.inl rfl) rfl (Ow.alloc (cs := [_, _, _]) Tryz.zeroValue79 rfl) ?_
    rintro _ _ ⟨b7, rfl, rfl⟩
    refine RW.y (.inl rfl) rfl (Yv.assign rfl) ?_
    refine RW.o _ (.inl rfl) rfl (Ow.storeW (vs := [_, _, _]) 0 Tryz.sizeOf79 rfl rfl (rfl) rfl (rfl)) ?_
    rintro _ _ ⟨rfl, rfl⟩
    refine RW.nil ?_
    refine PW.go ?_
    refine CW.seq ?_
    refine CW.region ?_
    refine RW.y (.inl rfl) rfl (Yv.move rfl) ?_
    refine RW.y (.inl rfl) rfl (Yv.loadK (vs := [_, _, _]) Tryz.isAgg79 Tryz.sizeOf79 rfl (CFs.whole 0 rfl)) ?_
    refine RW.o _ (.inl rfl) rfl (Ow.call e79 rfl (C.val (fun w hs => edgeCheck n x _))) ?_
    rintro _ _ ⟨rfl, rfl⟩
    refine RW.y (.inl rfl) rfl (Yv.assign rfl) ?_
    refine RW.nil ?_
    refine PW.go ?_
    refine CW.seq ?_
    refine CW.region ?_
    refine RW.y (.inl rfl) rfl (Yv.move rfl) ?_
    refine RW.y (.inl rfl) rfl (Yv.ne rfl rfl) ?_
    refine RW.nil ?_
    refine PW.go ?_
    refine CW.condD rfl (fun hc20 => ?_) (fun hc20 => ?_)
    ·
      refine CW.seq ?_
      refine CW.region ?_
      refine RW.y (.inl rfl) rfl (Yv.move rfl) ?_
      refine RW.y (.inl rfl) rfl (Yv.move rfl) ?_
      refine RW.y (.inl rfl) rfl (Yv.assign rfl) ?_
      refine RW.y (.inl rfl) rfl (Yv.assign rfl) ?_
      refine RW.nil ?_
      refine PW.go ?_
      refine CW.ret ?_
      refine PW.block_ret ?_
      refine PW.then_ret ?_
      refine PW.then_ret ?_
      refine PW.block_ret ?_
      refine PW.then_ret ?_
      refine PW.ret2 Tryz.results37 rfl rfl (fun w1 hs => ?_)
      exact ⟨(chkE n x, k), .inr ⟨by simpa using hc20, x, hx, rfl, hok⟩, rfl, hs.mod.below⟩
    ·
      refine CW.skip ?_
      refine PW.block ?_
      refine PW.go ?_
      refine CW.region ?_
      refine RW.y (.inl rfl) rfl (Yv.add rfl rfl (by omega)) ?_
      refine RW.y (.inl rfl) rfl (Yv.move rfl) ?_
      refine RW.nil ?_
      exact PW.next (k + 1) (⟨by omega, fun j hj e' he' => by
            rcases Nat.lt_or_ge j k with h | h
            · exact hok j h e' he'
            · obtain rfl : j = k := by omega
              rw [hx] at he'; cases he'; simpa using hc20⟩) ⟨rfl, rfl, rfl, rfl, trivial⟩ (fun w h => (h).erase 0) (by omega)
  ·
    refine CW.exit ?_
    refine PW.then_exit ?_
    refine PW.then_exit ?_
    refine PW.block_exit ?_
    refine PW.go ?_
    refine CW.seq ?_
    refine CW.region ?_
    refine RW.y (.inl rfl) rfl (Yv.assign rfl) ?_
    refine RW.y (.inl rfl) rfl (Yv.assign rfl) ?_
    refine RW.nil ?_
    refine PW.go ?_
    refine CW.ret ?_
    refine PW.ret2 Tryz.results37 rfl rfl (fun w1 hs => ?_)
    exact ⟨(0, 0), .inl ⟨rfl, rfl, fun e he => by obtain ⟨j, hj, rfl⟩ := List.mem_iff_getElem.1 he; exact hok j (by omega) _ (List.getElem?_eq_getElem hj)⟩, rfl, hs.mod.below⟩

end Go.Proofs.YtipoblpnkkcpgaaGreat
