/- Walks, written by a program of this session (gen.py) out of a spec. -/
import Derived.Test.YtipoblpnkkcpgaaGreatModel
set_option linter.unusedVariables false
set_option linter.unusedSimpArgs false
namespace Go.Proofs.YtipoblpnkkcpgaaGreat
open Go Go.RowKit Go.Proofs.YtipoblpnkkcpgaaGreat.B

set_option maxRecDepth 100000 in
theorem edgeNormal (x : Edg) (w : World) : Calls Tryz.prog 80 #[aggE x] w fun e w1 => e = .returned (aggE (normE x)) ∧ Gr w w1 := by
  unfold aggE
  refine CW.enter (P := Tryz.prog) (F0 := none0) (L := [(0, _)]) 15 [] Tryz.func80 rfl Tryz.ntmps80 (Nat.le_of_ble_eq_true rfl) (St.start w none0) rfl ?_
  refine CW.seq ?_
  refine CW.region ?_
  refine RW.o _ (.inl rfl) rfl (Ow.box (cs := [_, _, _]) rfl rfl) ?_
  rintro _ _ ⟨b1, rfl, rfl⟩
  refine RW.o _ (.inl rfl) rfl (Ow.alloc (cs := [_, _, _]) Tryz.zeroValue79 rfl) ?_
  rintro _ _ ⟨b2, rfl, rfl⟩
  refine RW.nil ?_
  refine PW.go ?_
  refine CW.seq ?_
  refine CW.seq ?_
  refine CW.region ?_
  refine RW.y (.inl rfl) rfl (Yv.fieldAddr Tryz.underlying79 rfl Tryz.sizeOf3 rfl rfl) ?_
  refine RW.y (.inl rfl) rfl (Yv.load1 Tryz.isAgg3 rfl (CF.blk 1 rfl rfl)) ?_
  refine RW.y (.inl rfl) rfl (Yv.fieldAddr Tryz.underlying79 rfl Tryz.sizeOf3 rfl rfl) ?_
  refine RW.y (.inl rfl) rfl (Yv.load1 Tryz.isAgg3 rfl (CF.blk 1 rfl rfl)) ?_
  refine RW.y (.inl rfl) rfl (Yv.gt rfl rfl) ?_
  refine RW.nil ?_
  refine PW.go ?_
  refine CW.condD rfl (fun hc7 => ?_) (fun hc7 => ?_)
  ·
    have e1 : normE x = ⟨x.v, x.u, x.w⟩ := by unfold normE; rw [if_pos (by omega)]
    refine CW.region ?_
    refine RW.y (.inl rfl) rfl (Yv.fieldAddr Tryz.underlying79 rfl Tryz.sizeOf3 rfl rfl) ?_
    refine RW.y (.inl rfl) rfl (Yv.load1 Tryz.isAgg3 rfl (CF.blk 1 rfl rfl)) ?_
    refine RW.y (.inl rfl) rfl (Yv.fieldAddr Tryz.underlying79 rfl Tryz.sizeOf3 rfl rfl) ?_
    refine RW.y (.inl rfl) rfl (Yv.load1 Tryz.isAgg3 rfl (CF.blk 1 rfl rfl)) ?_
    refine RW.y (.inl rfl) rfl (Yv.fieldAddr Tryz.underlying79 rfl Tryz.sizeOf3 rfl rfl) ?_
    refine RW.o _ (.inl rfl) rfl (Ow.store1 1 Tryz.sizeOf3 rfl rfl (rfl) rfl (Nat.le_of_ble_eq_true rfl)) ?_
    rintro _ _ ⟨rfl, rfl⟩
    refine RW.y (.inl rfl) rfl (Yv.fieldAddr Tryz.underlying79 rfl Tryz.sizeOf3 rfl rfl) ?_
    refine RW.o _ (.inl rfl) rfl (Ow.store1 1 Tryz.sizeOf3 rfl rfl (rfl) rfl (Nat.le_of_ble_eq_true rfl)) ?_
    rintro _ _ ⟨rfl, rfl⟩
    refine RW.nil ?_
    refine PW.go ?_
    refine CW.seq ?_
    refine CW.region ?_
    refine RW.y (.inl rfl) rfl (Yv.loadK (vs := [_, _, _]) Tryz.isAgg79 Tryz.sizeOf79 rfl (CFs.whole 1 rfl)) ?_
    refine RW.o _ (.inl rfl) rfl (Ow.storeW (vs := [_, _, _]) 0 Tryz.sizeOf79 rfl rfl (rfl) rfl (rfl)) ?_
    rintro _ _ ⟨rfl, rfl⟩
    refine RW.nil ?_
    refine PW.go ?_
    refine CW.ret ?_
    refine PW.retC (vs := [_, _, _]) Tryz.results80 rfl Tryz.isAgg79 Tryz.sizeOf79 (CFs.whole 0 rfl) (fun w1 hs => ?_)
    rw [e1]; exact ⟨rfl, hs.mod.below⟩
  ·
    have e1 : normE x = x := by unfold normE; rw [if_neg (by omega)]
    refine CW.skip ?_
    refine PW.go ?_
    refine CW.seq ?_
    refine CW.region ?_
    refine RW.y (.inl rfl) rfl (Yv.loadK (vs := [_, _, _]) Tryz.isAgg79 Tryz.sizeOf79 rfl (CFs.whole 1 rfl)) ?_
    refine RW.o _ (.inl rfl) rfl (Ow.storeW (vs := [_, _, _]) 0 Tryz.sizeOf79 rfl rfl (rfl) rfl (rfl)) ?_
    rintro _ _ ⟨rfl, rfl⟩
    refine RW.nil ?_
    refine PW.go ?_
    refine CW.ret ?_
    refine PW.retC (vs := [_, _, _]) Tryz.results80 rfl Tryz.isAgg79 Tryz.sizeOf79 (CFs.whole 0 rfl) (fun w1 hs => ?_)
    rw [e1]; exact ⟨rfl, hs.mod.below⟩

set_option maxRecDepth 100000 in
theorem ref15Normal (x : Edg) (w : World) : Calls Tryz.prog 95 #[aggE x] w fun e w1 => e = .returned (aggE (normE x)) ∧ Gr w w1 := by
  unfold aggE
  refine CW.enter (P := Tryz.prog) (F0 := none0) (L := [(0, _)]) 16 [] Tryz.func95 rfl Tryz.ntmps95 (Nat.le_of_ble_eq_true rfl) (St.start w none0) rfl ?_
  refine CW.seq ?_
  refine CW.region ?_
  refine RW.o _ (.inl rfl) rfl (Ow.box (cs := [_, _, _]) rfl rfl) ?_
  rintro _ _ ⟨b1, rfl, rfl⟩
  refine RW.o _ (.inl rfl) rfl (Ow.alloc (cs := [_, _, _]) Tryz.zeroValue79 rfl) ?_
  rintro _ _ ⟨b2, rfl, rfl⟩
  refine RW.nil ?_
  refine PW.go ?_
  refine CW.seq ?_
  refine CW.seq ?_
  refine CW.region ?_
  refine RW.y (.inl rfl) rfl (Yv.fieldAddr Tryz.underlying79 rfl Tryz.sizeOf3 rfl rfl) ?_
  refine RW.y (.inl rfl) rfl (Yv.load1 Tryz.isAgg3 rfl (CF.blk 1 rfl rfl)) ?_
  refine RW.y (.inl rfl) rfl (Yv.fieldAddr Tryz.underlying79 rfl Tryz.sizeOf3 rfl rfl) ?_
  refine RW.y (.inl rfl) rfl (Yv.load1 Tryz.isAgg3 rfl (CF.blk 1 rfl rfl)) ?_
  refine RW.y (.inl rfl) rfl (Yv.gt rfl rfl) ?_
  refine RW.nil ?_
  refine PW.go ?_
  refine CW.condD rfl (fun hc7 => ?_) (fun hc7 => ?_)
  ·
    have e1 : normE x = ⟨x.v, x.u, x.w⟩ := by unfold normE; rw [if_pos (by omega)]
    refine CW.seq ?_
    refine CW.region ?_
    refine RW.y (.inl rfl) rfl (Yv.fieldAddr Tryz.underlying79 rfl Tryz.sizeOf3 rfl rfl) ?_
    refine RW.y (.inl rfl) rfl (Yv.load1 Tryz.isAgg3 rfl (CF.blk 1 rfl rfl)) ?_
    refine RW.y (.inl rfl) rfl (Yv.fieldAddr Tryz.underlying79 rfl Tryz.sizeOf3 rfl rfl) ?_
    refine RW.y (.inl rfl) rfl (Yv.load1 Tryz.isAgg3 rfl (CF.blk 1 rfl rfl)) ?_
    refine RW.y (.inl rfl) rfl (Yv.fieldAddr Tryz.underlying79 rfl Tryz.sizeOf2 rfl rfl) ?_
    refine RW.y (.inl rfl) rfl (Yv.load1 Tryz.isAgg2 rfl (CF.blk 1 rfl rfl)) ?_
    refine RW.y (.inl rfl) rfl (Yv.build rfl (fun w => by exact bld79_0_1_2 _ _ _ w)) ?_
    refine RW.o _ (.inl rfl) rfl (Ow.storeW (vs := [_, _, _]) 0 Tryz.sizeOf79 rfl rfl (rfl) rfl (rfl)) ?_
    rintro _ _ ⟨rfl, rfl⟩
    refine RW.nil ?_
    refine PW.go ?_
    refine CW.ret ?_
    refine PW.then_ret ?_
    refine PW.retC (vs := [_, _, _]) Tryz.results95 rfl Tryz.isAgg79 Tryz.sizeOf79 (CFs.whole 0 rfl) (fun w1 hs => ?_)
    rw [e1]; exact ⟨rfl, hs.mod.below⟩
  ·
    have e1 : normE x = x := by unfold normE; rw [if_neg (by omega)]
    refine CW.skip ?_
    refine PW.go ?_
    refine CW.seq ?_
    refine CW.region ?_
    refine RW.y (.inl rfl) rfl (Yv.loadK (vs := [_, _, _]) Tryz.isAgg79 Tryz.sizeOf79 rfl (CFs.whole 1 rfl)) ?_
    refine RW.o _ (.inl rfl) rfl (Ow.storeW (vs := [_, _, _]) 0 Tryz.sizeOf79 rfl rfl (rfl) rfl (rfl)) ?_
    rintro _ _ ⟨rfl, rfl⟩
    refine RW.nil ?_
    refine PW.go ?_
    refine CW.ret ?_
    refine PW.retC (vs := [_, _, _]) Tryz.results95 rfl Tryz.isAgg79 Tryz.sizeOf79 (CFs.whole 0 rfl) (fun w1 hs => ?_)
    rw [e1]; exact ⟨rfl, hs.mod.below⟩

set_option maxRecDepth 100000 in
theorem numAdd (a b : Int) (ha : 0 ≤ a) (hb : 0 ≤ b) (hab : a + b ≤ 9223372036854775807) (w : World) : Calls Tryz.prog 81 #[.int .i64 a, .int .i64 b] w fun e w1 => e = .returned (.tuple #[.int .i64 (a + b), .bool true]) ∧ Gr w w1 := by
  have hx := bits_nonneg (op := .xor) (x := a) (y := a + b) rfl (by omega) (by omega)
  have hy := bits_nonneg (op := .xor) (x := b) (y := a + b) rfl (by omega) (by omega)
  have hz := bits_nonneg (op := .and) rfl hx hy
  refine CW.enter (P := Tryz.prog) (F0 := none0) (L := [(0, _), (1, _)]) 19 [] Tryz.func81 rfl Tryz.ntmps81 (Nat.le_of_ble_eq_true rfl) (St.start w none0) rfl ?_
  refine CW.seq ?_
  refine CW.region ?_
  refine RW.y (.inl rfl) rfl (Yv.assign rfl) ?_
  refine RW.y (.inl rfl) rfl (Yv.assign rfl) ?_
  refine RW.nil ?_
  refine PW.go ?_
  refine CW.seq ?_
  refine CW.region ?_
  refine RW.y (.inl rfl) rfl (Yv.move rfl) ?_
  refine RW.y (.inl rfl) rfl (Yv.move rfl) ?_
  refine RW.y (.inl rfl) rfl (Yv.add rfl rfl (by omega)) ?_
  refine RW.y (.inl rfl) rfl (Yv.assign rfl) ?_
  refine RW.nil ?_
  refine PW.go ?_
  refine CW.seq ?_
  refine CW.seq ?_
  refine CW.region ?_
  refine RW.y (.inl rfl) rfl (Yv.move rfl) ?_
  refine RW.y (.inl rfl) rfl (Yv.move rfl) ?_
  refine RW.y (.inl rfl) rfl (Yv.bits rfl rfl rfl) ?_
  refine RW.y (.inl rfl) rfl (Yv.move rfl) ?_
  refine RW.y (.inl rfl) rfl (Yv.move rfl) ?_
  refine RW.y (.inl rfl) rfl (Yv.bits rfl rfl rfl) ?_
  refine RW.y (.inl rfl) rfl (Yv.bits rfl rfl rfl) ?_
  refine RW.y (.inl rfl) rfl (Yv.lt rfl rfl) ?_
  refine RW.nil ?_
  refine PW.go ?_
  refine CW.condD rfl (fun hc17 => ?_) (fun hc17 => ?_)
  ·
    omega
  ·
    refine CW.skip ?_
    refine PW.go ?_
    refine CW.seq ?_
    refine CW.region ?_
    refine RW.y (.inl rfl) rfl (Yv.move rfl) ?_
    refine RW.y (.inl rfl) rfl (Yv.assign rfl) ?_
    refine RW.y (.inl rfl) rfl (Yv.assign rfl) ?_
    refine RW.nil ?_
    refine PW.go ?_
    refine CW.ret ?_
    refine PW.ret2 Tryz.results81 rfl rfl (fun w1 hs => ?_)
    exact ⟨rfl, hs.mod.below⟩

set_option maxRecDepth 100000 in
theorem ref01Add (a b : Int) (ha : 0 ≤ a) (hb : 0 ≤ b) (hab : a + b ≤ 9223372036854775807) (w : World) : Calls Tryz.prog 125 #[.int .i64 a, .int .i64 b] w fun e w1 => e = .returned (.agg #[.int .i64 (a + b), .bool true]) ∧ Gr w w1 := by
  refine CW.enter (P := Tryz.prog) (F0 := none0) (L := [(0, _), (1, _)]) 28 [] Tryz.func125 rfl Tryz.ntmps125 (Nat.le_of_ble_eq_true rfl) (St.start w none0) rfl ?_
  refine CW.seq ?_
  refine CW.region ?_
  refine RW.o _ (.inl rfl) rfl (Ow.alloc (cs := [_, _]) Tryz.zeroValue176 rfl) ?_
  rintro _ _ ⟨b4, rfl, rfl⟩
  refine RW.nil ?_
  refine PW.go ?_
  refine CW.seq ?_
  refine CW.region ?_
  refine RW.y (.inl rfl) rfl (Yv.move rfl) ?_
  refine RW.y (.inl rfl) rfl (Yv.move rfl) ?_
  refine RW.y (.inl rfl) rfl (Yv.add rfl rfl (by omega)) ?_
  refine RW.y (.inl rfl) rfl (Yv.assign rfl) ?_
  refine RW.nil ?_
  refine PW.go ?_
  refine CW.seq ?_
  refine CW.seq ?_
  refine CW.region ?_
  refine RW.y (.inl rfl) rfl (Yv.move rfl) ?_
  refine RW.y (.inl rfl) rfl (Yv.ge rfl rfl) ?_
  refine RW.y (.inl rfl) rfl (Yv.move rfl) ?_
  refine RW.isT 11 rfl (by omega) ?_
  refine RW.y (.inr ⟨_, _, 11, rfl, rfl, rfl⟩) rfl (Yv.move rfl) ?_
  refine RW.y (.inr ⟨_, _, 11, rfl, rfl, rfl⟩) rfl (Yv.move rfl) ?_
  refine RW.y (.inr ⟨_, _, 11, rfl, rfl, rfl⟩) rfl (Yv.lt rfl rfl) ?_
  refine RW.y (.inl rfl) rfl (Yv.pickT rfl rfl) ?_
  refine RW.y (.inl rfl) rfl (Yv.move rfl) ?_
  refine RW.isF 16 rfl (by omega) ?_
  refine RW.y (.inr ⟨_, _, 16, rfl, rfl, rfl⟩) rfl (Yv.move rfl) ?_
  refine RW.y (.inr ⟨_, _, 16, rfl, rfl, rfl⟩) rfl (Yv.lt rfl rfl) ?_
  refine RW.y (.inr ⟨_, _, 16, rfl, rfl, rfl⟩) rfl (Yv.move rfl) ?_
  refine RW.isF 19 rfl (by omega) ?_
  refine RW.no ⟨_, _, 19, _, rfl, rfl, rfl, fun h => by simp [undef] at h⟩ rfl ?_
  refine RW.no ⟨_, _, 19, _, rfl, rfl, rfl, fun h => by simp [undef] at h⟩ rfl ?_
  refine RW.no ⟨_, _, 19, _, rfl, rfl, rfl, fun h => by simp [undef] at h⟩ rfl ?_
  refine RW.y (.inr ⟨_, _, 16, rfl, rfl, rfl⟩) rfl (Yv.pickF rfl rfl) ?_
  refine RW.y (.inl rfl) rfl (Yv.pickF rfl rfl) ?_
  refine RW.nil ?_
  refine PW.go ?_
  refine CW.condF rfl ?_
  refine CW.skip ?_
  refine PW.go ?_
  refine CW.seq ?_
  refine CW.region ?_
  refine RW.y (.inl rfl) rfl (Yv.move rfl) ?_
  refine RW.y (.inl rfl) rfl (Yv.build rfl (fun w => by exact bld176_0_1 _ _ w)) ?_
  refine RW.o _ (.inl rfl) rfl (Ow.storeW (vs := [_, _]) 0 Tryz.sizeOf176 rfl rfl (rfl) rfl (rfl)) ?_
  rintro _ _ ⟨rfl, rfl⟩
  refine RW.nil ?_
  refine PW.go ?_
  refine CW.ret ?_
  refine PW.retC (vs := [_, _]) Tryz.results125 rfl Tryz.isAgg176 Tryz.sizeOf176 (CFs.whole 0 rfl) (fun w1 hs => ?_)
  exact ⟨rfl, hs.mod.below⟩

set_option maxRecDepth 100000 in
theorem ref15Check (n : Int) (x : Edg) (w : World) : Calls Tryz.prog 93 #[.int .i64 n, aggE x] w fun e w1 => e = .returned (.int .i64 (chkE n x)) ∧ Gr w w1 := by
  unfold aggE
  refine CW.enter (P := Tryz.prog) (F0 := none0) (L := [(0, _), (1, _)]) 33 [] Tryz.func93 rfl Tryz.ntmps93 (Nat.le_of_ble_eq_true rfl) (St.start w none0) rfl ?_
  refine CW.seq ?_
  refine CW.region ?_
  refine RW.o _ (.inl rfl) rfl (Ow.box (cs := [_, _, _]) rfl rfl) ?_
  rintro _ _ ⟨b3, rfl, rfl⟩
  refine RW.y (.inl rfl) rfl (Yv.assign rfl) ?_
  refine RW.nil ?_
  refine PW.go ?_
  refine CW.seq ?_
  refine CW.seq ?_
  refine CW.region ?_
  refine RW.y (.inl rfl) rfl (Yv.fieldAddr Tryz.underlying79 rfl Tryz.sizeOf3 rfl rfl) ?_
  refine RW.y (.inl rfl) rfl (Yv.load1 Tryz.isAgg3 rfl (CF.blk 0 rfl rfl)) ?_
  refine RW.y (.inl rfl) rfl (Yv.lt rfl rfl) ?_
  refine RW.y (.inl rfl) rfl (Yv.move rfl) ?_
  refine RW.splitD 8 rfl (fun hc8 => ?_) (fun hc8 => ?_)
  ·
    refine RW.no ⟨_, _, 8, _, rfl, rfl, rfl, fun h => by simp [undef] at h⟩ rfl ?_
    refine RW.no ⟨_, _, 8, _, rfl, rfl, rfl, fun h => by simp [undef] at h⟩ rfl ?_
    refine RW.no ⟨_, _, 8, _, rfl, rfl, rfl, fun h => by simp [undef] at h⟩ rfl ?_
    refine RW.no ⟨_, _, 8, _, rfl, rfl, rfl, fun h => by simp [undef] at h⟩ rfl ?_
    refine RW.y (.inl rfl) rfl (Yv.pickT rfl rfl) ?_
    refine RW.y (.inl rfl) rfl (Yv.move rfl) ?_
    refine RW.no ⟨_, _, 14, _, rfl, rfl, rfl, fun h => by simp [undef] at h⟩ rfl ?_
    refine RW.no ⟨_, _, 14, _, rfl, rfl, rfl, fun h => by simp [undef] at h⟩ rfl ?_
    refine RW.no ⟨_, _, 14, _, rfl, rfl, rfl, fun h => by simp [undef] at h⟩ rfl ?_
    refine RW.y (.inl rfl) rfl (Yv.pickT rfl rfl) ?_
    refine RW.y (.inl rfl) rfl (Yv.move rfl) ?_
    refine RW.no ⟨_, _, 19, _, rfl, rfl, rfl, fun h => by simp [undef] at h⟩ rfl ?_
    refine RW.no ⟨_, _, 19, _, rfl, rfl, rfl, fun h => by simp [undef] at h⟩ rfl ?_
    refine RW.no ⟨_, _, 19, _, rfl, rfl, rfl, fun h => by simp [undef] at h⟩ rfl ?_
    refine RW.no ⟨_, _, 19, _, rfl, rfl, rfl, fun h => by simp [undef] at h⟩ rfl ?_
    refine RW.y (.inl rfl) rfl (Yv.pickT rfl rfl) ?_
    refine RW.nil ?_
    refine PW.go ?_
    refine CW.condT rfl ?_
    refine CW.seq ?_
    refine CW.region ?_
    refine RW.y (.inl rfl) rfl (Yv.assign rfl) ?_
    refine RW.nil ?_
    refine PW.go ?_
    refine CW.ret ?_
    refine PW.then_ret ?_
    refine PW.ret1 Tryz.results93 rfl (fun w1 hs => ?_)
    refine ⟨?_, hs.mod.below⟩
    unfold chkE
    first
    | (rw [if_pos (by omega)]; done)
    | (rw [if_neg (by omega), if_pos (by omega)]; done)
    | (rw [if_neg (by omega), if_neg (by omega)]; done)
  ·
    refine RW.y (.inr ⟨_, _, 8, rfl, rfl, rfl⟩) rfl (Yv.fieldAddr Tryz.underlying79 rfl Tryz.sizeOf3 rfl rfl) ?_
    refine RW.y (.inr ⟨_, _, 8, rfl, rfl, rfl⟩) rfl (Yv.load1 Tryz.isAgg3 rfl (CF.blk 0 rfl rfl)) ?_
    refine RW.y (.inr ⟨_, _, 8, rfl, rfl, rfl⟩) rfl (Yv.move rfl) ?_
    refine RW.y (.inr ⟨_, _, 8, rfl, rfl, rfl⟩) rfl (Yv.ge rfl rfl) ?_
    refine RW.y (.inl rfl) rfl (Yv.pickF rfl rfl) ?_
    refine RW.y (.inl rfl) rfl (Yv.move rfl) ?_
    refine RW.splitD 14 rfl (fun hc14 => ?_) (fun hc14 => ?_)
    ·
      refine RW.no ⟨_, _, 14, _, rfl, rfl, rfl, fun h => by simp [undef] at h⟩ rfl ?_
      refine RW.no ⟨_, _, 14, _, rfl, rfl, rfl, fun h => by simp [undef] at h⟩ rfl ?_
      refine RW.no ⟨_, _, 14, _, rfl, rfl, rfl, fun h => by simp [undef] at h⟩ rfl ?_
      refine RW.y (.inl rfl) rfl (Yv.pickT rfl rfl) ?_
      refine RW.y (.inl rfl) rfl (Yv.move rfl) ?_
      refine RW.no ⟨_, _, 19, _, rfl, rfl, rfl, fun h => by simp [undef] at h⟩ rfl ?_
      refine RW.no ⟨_, _, 19, _, rfl, rfl, rfl, fun h => by simp [undef] at h⟩ rfl ?_
      refine RW.no ⟨_, _, 19, _, rfl, rfl, rfl, fun h => by simp [undef] at h⟩ rfl ?_
      refine RW.no ⟨_, _, 19, _, rfl, rfl, rfl, fun h => by simp [undef] at h⟩ rfl ?_
      refine RW.y (.inl rfl) rfl (Yv.pickT rfl rfl) ?_
      refine RW.nil ?_
      refine PW.go ?_
      refine CW.condT rfl ?_
      refine CW.seq ?_
      refine CW.region ?_
      refine RW.y (.inl rfl) rfl (Yv.assign rfl) ?_
      refine RW.nil ?_
      refine PW.go ?_
      refine CW.ret ?_
      refine PW.then_ret ?_
      refine PW.ret1 Tryz.results93 rfl (fun w1 hs => ?_)
      refine ⟨?_, hs.mod.below⟩
      unfold chkE
      first
      | (rw [if_pos (by omega)]; done)
      | (rw [if_neg (by omega), if_pos (by omega)]; done)
      | (rw [if_neg (by omega), if_neg (by omega)]; done)
    ·
      refine RW.y (.inr ⟨_, _, 14, rfl, rfl, rfl⟩) rfl (Yv.fieldAddr Tryz.underlying79 rfl Tryz.sizeOf3 rfl rfl) ?_
      refine RW.y (.inr ⟨_, _, 14, rfl, rfl, rfl⟩) rfl (Yv.load1 Tryz.isAgg3 rfl (CF.blk 0 rfl rfl)) ?_
      refine RW.y (.inr ⟨_, _, 14, rfl, rfl, rfl⟩) rfl (Yv.lt rfl rfl) ?_
      refine RW.y (.inl rfl) rfl (Yv.pickF rfl rfl) ?_
      refine RW.y (.inl rfl) rfl (Yv.move rfl) ?_
      refine RW.splitD 19 rfl (fun hc19 => ?_) (fun hc19 => ?_)
      ·
        refine RW.no ⟨_, _, 19, _, rfl, rfl, rfl, fun h => by simp [undef] at h⟩ rfl ?_
        refine RW.no ⟨_, _, 19, _, rfl, rfl, rfl, fun h => by simp [undef] at h⟩ rfl ?_
        refine RW.no ⟨_, _, 19, _, rfl, rfl, rfl, fun h => by simp [undef] at h⟩ rfl ?_
        refine RW.no ⟨_, _, 19, _, rfl, rfl, rfl, fun h => by simp [undef] at h⟩ rfl ?_
        refine RW.y (.inl rfl) rfl (Yv.pickT rfl rfl) ?_
        refine RW.nil ?_
        refine PW.go ?_
        refine CW.condT rfl ?_
        refine CW.seq ?_
        refine CW.region ?_
        refine RW.y (.inl rfl) rfl (Yv.assign rfl) ?_
        refine RW.nil ?_
        refine PW.go ?_
        refine CW.ret ?_
        refine PW.then_ret ?_
        refine PW.ret1 Tryz.results93 rfl (fun w1 hs => ?_)
        refine ⟨?_, hs.mod.below⟩
        unfold chkE
        first
        | (rw [if_pos (by omega)]; done)
        | (rw [if_neg (by omega), if_pos (by omega)]; done)
        | (rw [if_neg (by omega), if_neg (by omega)]; done)
      ·
        refine RW.y (.inr ⟨_, _, 19, rfl, rfl, rfl⟩) rfl (Yv.fieldAddr Tryz.underlying79 rfl Tryz.sizeOf3 rfl rfl) ?_
        refine RW.y (.inr ⟨_, _, 19, rfl, rfl, rfl⟩) rfl (Yv.load1 Tryz.isAgg3 rfl (CF.blk 0 rfl rfl)) ?_
        refine RW.y (.inr ⟨_, _, 19, rfl, rfl, rfl⟩) rfl (Yv.move rfl) ?_
        refine RW.y (.inr ⟨_, _, 19, rfl, rfl, rfl⟩) rfl (Yv.ge rfl rfl) ?_
        refine RW.y (.inl rfl) rfl (Yv.pickF rfl rfl) ?_
        refine RW.nil ?_
        refine PW.go ?_
        refine CW.condD rfl (fun hc24 => ?_) (fun hc24 => ?_)
        ·
          refine CW.seq ?_
          refine CW.region ?_
          refine RW.y (.inl rfl) rfl (Yv.assign rfl) ?_
          refine RW.nil ?_
          refine PW.go ?_
          refine CW.ret ?_
          refine PW.then_ret ?_
          refine PW.ret1 Tryz.results93 rfl (fun w1 hs => ?_)
          refine ⟨?_, hs.mod.below⟩
          unfold chkE
          first
          | (rw [if_pos (by omega)]; done)
          | (rw [if_neg (by omega), if_pos (by omega)]; done)
          | (rw [if_neg (by omega), if_neg (by omega)]; done)
        ·
          refine CW.skip ?_
          refine PW.go ?_
          refine CW.seq ?_
          refine CW.seq ?_
          refine CW.region ?_
          refine RW.y (.inl rfl) rfl (Yv.fieldAddr Tryz.underlying79 rfl Tryz.sizeOf2 rfl rfl) ?_
          refine RW.y (.inl rfl) rfl (Yv.load1 Tryz.isAgg2 rfl (CF.blk 0 rfl rfl)) ?_
          refine RW.y (.inl rfl) rfl (Yv.lt rfl rfl) ?_
          refine RW.y (.inl rfl) rfl (Yv.move rfl) ?_
          refine RW.splitD 28 rfl (fun hc28 => ?_) (fun hc28 => ?_)
          ·
            refine RW.no ⟨_, _, 28, _, rfl, rfl, rfl, fun h => by simp [undef] at h⟩ rfl ?_
            refine RW.no ⟨_, _, 28, _, rfl, rfl, rfl, fun h => by simp [undef] at h⟩ rfl ?_
            refine RW.no ⟨_, _, 28, _, rfl, rfl, rfl, fun h => by simp [undef] at h⟩ rfl ?_
            refine RW.y (.inl rfl) rfl (Yv.pickT rfl rfl) ?_
            refine RW.nil ?_
            refine PW.go ?_
            refine CW.condT rfl ?_
            refine CW.seq ?_
            refine CW.region ?_
            refine RW.y (.inl rfl) rfl (Yv.assign rfl) ?_
            refine RW.nil ?_
            refine PW.go ?_
            refine CW.ret ?_
            refine PW.then_ret ?_
            refine PW.ret1 Tryz.results93 rfl (fun w1 hs => ?_)
            refine ⟨?_, hs.mod.below⟩
            unfold chkE
            first
            | (rw [if_pos (by omega)]; done)
            | (rw [if_neg (by omega), if_pos (by omega)]; done)
            | (rw [if_neg (by omega), if_neg (by omega)]; done)
          ·
            refine RW.y (.inr ⟨_, _, 28, rfl, rfl, rfl⟩) rfl (Yv.fieldAddr Tryz.underlying79 rfl Tryz.sizeOf2 rfl rfl) ?_
            refine RW.y (.inr ⟨_, _, 28, rfl, rfl, rfl⟩) rfl (Yv.load1 Tryz.isAgg2 rfl (CF.blk 0 rfl rfl)) ?_
            refine RW.y (.inr ⟨_, _, 28, rfl, rfl, rfl⟩) rfl (Yv.gt rfl rfl) ?_
            refine RW.y (.inl rfl) rfl (Yv.pickF rfl rfl) ?_
            refine RW.nil ?_
            refine PW.go ?_
            refine CW.condD rfl (fun hc32 => ?_) (fun hc32 => ?_)
            ·
              refine CW.seq ?_
              refine CW.region ?_
              refine RW.y (.inl rfl) rfl (Yv.assign rfl) ?_
              refine RW.nil ?_
              refine PW.go ?_
              refine CW.ret ?_
              refine PW.then_ret ?_
              refine PW.ret1 Tryz.results93 rfl (fun w1 hs => ?_)
              refine ⟨?_, hs.mod.below⟩
              unfold chkE
              first
              | (rw [if_pos (by omega)]; done)
              | (rw [if_neg (by omega), if_pos (by omega)]; done)
              | (rw [if_neg (by omega), if_neg (by omega)]; done)
            ·
              refine CW.skip ?_
              refine PW.go ?_
              refine CW.seq ?_
              refine CW.region ?_
              refine RW.y (.inl rfl) rfl (Yv.assign rfl) ?_
              refine RW.nil ?_
              refine PW.go ?_
              refine CW.ret ?_
              refine PW.ret1 Tryz.results93 rfl (fun w1 hs => ?_)
              refine ⟨?_, hs.mod.below⟩
              unfold chkE
              first
              | (rw [if_pos (by omega)]; done)
              | (rw [if_neg (by omega), if_pos (by omega)]; done)
              | (rw [if_neg (by omega), if_neg (by omega)]; done)

set_option maxRecDepth 100000 in
theorem ref15Checks (n : Int) (A : Option Addr) (c : Nat) (l : List Edg) (w : World) (hr : Rd w A 3 l.length (cellsE l)) : Calls Tryz.prog 44 #[.int .i64 n, .slice A l.length c] w fun e w1 => ∃ p : Int × Nat, Chks n l p.1 p.2 ∧ e = .returned (.agg #[.int .i64 p.1, .int .i64 p.2]) ∧ Gr w w1 := by
  have hlen := hr.2.1
  refine CW.enter (P := Tryz.prog) (F0 := none0) (L := [(0, _), (1, _)]) 25 [] Tryz.func44 rfl Tryz.ntmps44 (Nat.le_of_ble_eq_true rfl) (St.start w none0) rfl ?_
  refine CW.seq ?_
  refine CW.region ?_
  refine RW.o _ (.inl rfl) rfl (Ow.alloc (cs := [_, _]) Tryz.zeroValue95 rfl) ?_
  rintro _ _ ⟨b4, rfl, rfl⟩
  refine RW.nil ?_
  refine PW.go ?_
  refine CW.seq ?_
  refine CW.seq ?_
  refine CW.region ?_
  refine RW.y (.inl rfl) rfl (Yv.assign rfl) ?_
  refine RW.nil ?_
  refine PW.go ?_
  refine CW.block ?_
  refine CW.loop (σ := Nat) (fun k => k ≤ l.length ∧ ∀ j, j < k → ∀ e', l[j]? = some e' → chkE n e' = 0) (fun k => [(0, .int .i64 n), (1, .slice A l.length c), (4, .pointer (some ⟨b4, 0, none⟩)), (5, .int .i64 (k : Nat))]) (fun k => [blk b4 [.int .i64 0, .int .i64 0] 95]) (fun k => l.length - k) 0 (⟨by omega, fun j hj => by omega⟩) ⟨rfl, rfl, rfl, rfl, trivial⟩ (fun w h => h) ?_
  intro k hk
  obtain ⟨hk, hok⟩ := hk
  refine CW.seq ?_
  refine CW.seq ?_
  refine CW.region ?_
  refine RW.y (.inl rfl) rfl (Yv.move rfl) ?_
  refine RW.y (.inl rfl) rfl (Yv.move rfl) ?_
  refine RW.y (.inl rfl) rfl (Yv.len Tryz.underlying22 rfl) ?_
  refine RW.y (.inl rfl) rfl (Yv.lt rfl rfl) ?_
  refine RW.nil ?_
  refine PW.go ?_
  refine CW.condD rfl (fun hc10 => ?_) (fun hc10 => ?_)
  ·
    refine CW.skip ?_
    refine PW.go ?_
    refine CW.seq ?_
    refine CW.block ?_
    refine CW.seq ?_
    have hl : k < l.length := by omega
    obtain ⟨b, o, rfl, hb, hc⟩ := hr.2.2 (by omega)
    obtain ⟨x, hx⟩ : ∃ x, l[k]? = some x := ⟨_, List.getElem?_eq_getElem hl⟩
    have hcx := cellsE_get l k x hx
    refine CW.region ?_
    refine RW.y (.inl rfl) rfl (Yv.move rfl) ?_
    refine RW.y (.inl rfl) rfl (Yv.move rfl) ?_
    refine RW.y (.inl rfl) rfl (Yv.move rfl) ?_
    refine RW.y (.inl rfl) rfl (Yv.indexK Tryz.underlying22 Tryz.sizeOf79 rfl rfl (by omega) (by omega)) ?_
    refine RW.y (.inl rfl) rfl (Yv.loadK (vs := [_, _, _]) Tryz.isAgg79 Tryz.sizeOf79 rfl (CFs.old (vs := encE x) (fun j v hj => by rw [add_plain', Nat.add_assoc]; exact hc _ v (hcx j v hj)) (fun _ _ _ => not_none0 _))) ?_
    refine RW.o _ (.inl rfl) rfl (Ow.call e93 rfl (C.val (fun w hs => ref15Check n x _))) ?_
    rintro _ _ ⟨rfl, rfl⟩
    refine RW.y (.inl rfl) rfl (Yv.assign rfl) ?_
    refine RW.nil ?_
    refine PW.go ?_
    refine CW.seq ?_
    refine CW.region ?_
    refine RW.y (.inl rfl) rfl (Yv.move rfl) ?_
    refine RW.y (.inl rfl) rfl (Yv.ne rfl rfl) ?_
    refine RW.nil ?_
    refine PW.go ?_
    refine CW.condD rfl (fun hc20 => ?_) (fun hc20 => ?_)
    ·
      refine CW.seq ?_
      refine CW.region ?_
      refine RW.y (.inl rfl) rfl (Yv.move rfl) ?_
      refine RW.y (.inl rfl) rfl (Yv.move rfl) ?_
      refine RW.y (.inl rfl) rfl (Yv.build rfl (fun w => by exact bld95_0_1 _ _ w)) ?_
      refine RW.o _ (.inl rfl) rfl (Ow.storeW (vs := [_, _]) 0 Tryz.sizeOf95 rfl rfl (rfl) rfl (rfl)) ?_
      rintro _ _ ⟨rfl, rfl⟩
      refine RW.nil ?_
      refine PW.go ?_
      refine CW.ret ?_
      refine PW.block_ret ?_
      refine PW.then_ret ?_
      refine PW.then_ret ?_
      refine PW.block_ret ?_
      refine PW.then_ret ?_
      refine PW.retC (vs := [_, _]) Tryz.results44 rfl Tryz.isAgg95 Tryz.sizeOf95 (CFs.whole 0 rfl) (fun w1 hs => ?_)
      exact ⟨(chkE n x, k), .inr ⟨by simpa using hc20, x, hx, rfl, hok⟩, rfl, hs.mod.below⟩
    ·
      refine CW.skip ?_
      refine PW.block ?_
      refine PW.go ?_
      refine CW.region ?_
      refine RW.y (.inl rfl) rfl (Yv.move rfl) ?_
      refine RW.y (.inl rfl) rfl (Yv.add rfl rfl (by omega)) ?_
      refine RW.y (.inl rfl) rfl (Yv.assign rfl) ?_
      refine RW.nil ?_
      exact PW.next (k + 1) (⟨by omega, fun j hj e' he' => by
            rcases Nat.lt_or_ge j k with h | h
            · exact hok j h e' he'
            · obtain rfl : j = k := by omega
              rw [hx] at he'; cases he'; simpa using hc20⟩) ⟨rfl, rfl, rfl, rfl, trivial⟩ (fun w h => h) (by omega)
  ·
    refine CW.exit ?_
    refine PW.then_exit ?_
    refine PW.then_exit ?_
    refine PW.block_exit ?_
    refine PW.go ?_
    refine CW.seq ?_
    refine CW.region ?_
    refine RW.y (.inl rfl) rfl (Yv.build rfl (fun w => by exact bld95_  w)) ?_
    refine RW.o _ (.inl rfl) rfl (Ow.storeW (vs := [_, _]) 0 Tryz.sizeOf95 rfl rfl (rfl) rfl (rfl)) ?_
    rintro _ _ ⟨rfl, rfl⟩
    refine RW.nil ?_
    refine PW.go ?_
    refine CW.ret ?_
    refine PW.retC (vs := [_, _]) Tryz.results44 rfl Tryz.isAgg95 Tryz.sizeOf95 (CFs.whole 0 rfl) (fun w1 hs => ?_)
    exact ⟨(0, 0), .inl ⟨rfl, rfl, fun e he => by obtain ⟨j, hj, rfl⟩ := List.mem_iff_getElem.1 he; exact hok j (by omega) _ (List.getElem?_eq_getElem hj)⟩, rfl, hs.mod.below⟩

set_option maxRecDepth 100000 in
theorem ref09Ints (w : World) (A1 : Option Addr) (c1 : Nat) (l1 : List Int) (hr1 : Rd w A1 1 l1.length (i64s l1)) (A2 : Option Addr) (c2 : Nat) (l2 : List Int) (hr2 : Rd w A2 1 l2.length (i64s l2)) : Calls Tryz.prog 49 #[.slice A1 l1.length c1, .slice A2 l2.length c2] w fun e w1 => e = .returned (.bool (decide (l1 = l2))) ∧ Gr w w1 := by
  have hlen1 := hr1.2.1
  have hlen2 := hr2.2.1
  refine CW.enter (P := Tryz.prog) (F0 := none0) (L := [(0, _), (1, _)]) 26 [] Tryz.func49 rfl Tryz.ntmps49 (Nat.le_of_ble_eq_true rfl) (St.start w none0) rfl ?_
  refine CW.seq ?_
  refine CW.region ?_
  refine RW.y (.inl rfl) rfl (Yv.assign rfl) ?_
  refine RW.nil ?_
  refine PW.go ?_
  refine CW.seq ?_
  refine CW.seq ?_
  refine CW.region ?_
  refine RW.y (.inl rfl) rfl (Yv.move rfl) ?_
  refine RW.y (.inl rfl) rfl (Yv.len Tryz.underlying51 rfl) ?_
  refine RW.y (.inl rfl) rfl (Yv.move rfl) ?_
  refine RW.y (.inl rfl) rfl (Yv.len Tryz.underlying51 rfl) ?_
  refine RW.y (.inl rfl) rfl (Yv.ne rfl rfl) ?_
  refine RW.nil ?_
  refine PW.go ?_
  refine CW.condD rfl (fun hc10 => ?_) (fun hc10 => ?_)
  ·
    refine CW.seq ?_
    refine CW.region ?_
    refine RW.y (.inl rfl) rfl (Yv.assign rfl) ?_
    refine RW.nil ?_
    refine PW.go ?_
    refine CW.ret ?_
    refine PW.then_ret ?_
    refine PW.ret1 Tryz.results49 rfl (fun w1 hs => ?_)
    refine ⟨?_, hs.mod.below⟩
    rw [decide_eq_false (fun h => by subst h; omega)]
  ·
    refine CW.skip ?_
    refine PW.go ?_
    refine CW.seq ?_
    refine CW.seq ?_
    refine CW.region ?_
    refine RW.y (.inl rfl) rfl (Yv.assign rfl) ?_
    refine RW.nil ?_
    refine PW.go ?_
    refine CW.block ?_
    refine CW.loop (σ := Nat) (fun k => k ≤ l1.length ∧ ∀ j, j < k → l1[j]? = l2[j]?) (fun k => [(0, .slice A1 l1.length c1), (1, .slice A2 l2.length c2), (5, .int .i64 (k : Nat))]) (fun k => []) (fun k => l1.length - k) 0 (⟨by omega, fun j hj => by omega⟩) ⟨rfl, rfl, rfl, trivial⟩ (fun w h => h) ?_
    intro k hk
    obtain ⟨hk, hok⟩ := hk
    refine CW.seq ?_
    refine CW.seq ?_
    refine CW.region ?_
    refine RW.y (.inl rfl) rfl (Yv.move rfl) ?_
    refine RW.y (.inl rfl) rfl (Yv.move rfl) ?_
    refine RW.y (.inl rfl) rfl (Yv.len Tryz.underlying51 rfl) ?_
    refine RW.y (.inl rfl) rfl (Yv.lt rfl rfl) ?_
    refine RW.nil ?_
    refine PW.go ?_
    refine CW.condD rfl (fun hc14 => ?_) (fun hc14 => ?_)
    ·
      refine CW.skip ?_
      refine PW.go ?_
      refine CW.seq ?_
      refine CW.block ?_
      refine CW.seq ?_
      have hk1 : k < l1.length := by omega
      have hk2 : k < l2.length := by omega
      obtain ⟨b1, o1, rfl, hb1, hcc1⟩ := hr1.2.2 (by omega)
      obtain ⟨b2, o2, rfl, hb2, hcc2⟩ := hr2.2.2 (by omega)
      obtain ⟨x1, hx1⟩ : ∃ x, l1[k]? = some x := ⟨_, List.getElem?_eq_getElem hk1⟩
      obtain ⟨x2, hx2⟩ : ∃ x, l2[k]? = some x := ⟨_, List.getElem?_eq_getElem hk2⟩
      refine CW.draw0 mixed ?_
      refine HW.take 0 rfl (by kernel_rfl) (by kernel_rfl) (by kernel_rfl) (fun _ _ _ h => h) (.inl rfl) rfl (fun _ h => h) (Yv.move rfl) ?_
      refine HW.take 1 rfl (by kernel_rfl) (by kernel_rfl) (by kernel_rfl) (fun _ _ _ h => h) (.inl rfl) rfl (fun _ h => h) (Yv.move rfl) ?_
      refine HW.take 2 rfl (by kernel_rfl) (by kernel_rfl) (by kernel_rfl) (fun _ _ _ h => h) (.inl rfl) rfl (fun _ h => h) (Yv.index1 Tryz.underlying51 Tryz.sizeOf3 rfl rfl (by omega) (by omega)) ?_
      refine HW.take 3 rfl (by kernel_rfl) (by kernel_rfl) (by kernel_rfl) (fun _ _ _ h => h) (.inl rfl) rfl (fun _ h => h) (Yv.load1 Tryz.isAgg3 rfl (CF.old (hcc1 _ _ (i64s_get _ _ _ hx1)) (not_none0 _))) ?_
      refine HW.take 4 rfl (by kernel_rfl) (by kernel_rfl) (by kernel_rfl) (fun _ _ _ h => h) (.inl rfl) rfl (fun _ h => h) (Yv.move rfl) ?_
      refine HW.take 5 rfl (by kernel_rfl) (by kernel_rfl) (by kernel_rfl) (fun _ _ _ h => h) (.inl rfl) rfl (fun _ h => h) (Yv.move rfl) ?_
      refine HW.take 6 rfl (by kernel_rfl) (by kernel_rfl) (by kernel_rfl) (fun _ _ _ h => h) (.inl rfl) rfl (fun _ h => h) (Yv.index1 Tryz.underlying51 Tryz.sizeOf3 rfl rfl (by omega) (by omega)) ?_
      refine HW.take 7 rfl (by kernel_rfl) (by kernel_rfl) (by kernel_rfl) (fun _ _ _ h => h) (.inl rfl) rfl (fun _ h => h) (Yv.load1 Tryz.isAgg3 rfl (CF.old (hcc2 _ _ (i64s_get _ _ _ hx2)) (not_none0 _))) ?_
      refine HW.take 8 rfl (by kernel_rfl) (by kernel_rfl) (by kernel_rfl) (fun _ _ _ h => h) (.inl rfl) rfl (fun _ h => h) (Yv.ne rfl rfl) ?_
      refine HW.done (by kernel_rfl) ?_
      refine PW.go ?_
      refine CW.condD rfl (fun hc25 => ?_) (fun hc25 => ?_)
      ·
        refine CW.seq ?_
        refine CW.region ?_
        refine RW.y (.inl rfl) rfl (Yv.assign rfl) ?_
        refine RW.nil ?_
        refine PW.go ?_
        refine CW.ret ?_
        refine PW.block_ret ?_
        refine PW.then_ret ?_
        refine PW.then_ret ?_
        refine PW.block_ret ?_
        refine PW.then_ret ?_
        refine PW.ret1 Tryz.results49 rfl (fun w1 hs => ?_)
        refine ⟨?_, hs.mod.below⟩
        rw [decide_eq_false (fun h => by subst h; rw [hx1] at hx2; cases hx2; exact hc25 rfl)]
      ·
        refine CW.skip ?_
        refine PW.block ?_
        refine PW.go ?_
        refine CW.region ?_
        refine RW.y (.inl rfl) rfl (Yv.move rfl) ?_
        refine RW.y (.inl rfl) rfl (Yv.add rfl rfl (by omega)) ?_
        refine RW.y (.inl rfl) rfl (Yv.assign rfl) ?_
        refine RW.nil ?_
        exact PW.next (k + 1) (⟨by omega, fun j hj => by
              rcases Nat.lt_or_ge j k with h | h
              · exact hok j h
              · obtain rfl : j = k := by omega
                rw [hx1, hx2]; simpa using hc25⟩) ⟨rfl, rfl, rfl, trivial⟩ (fun w h => h) (by omega)
    ·
      refine CW.exit ?_
      refine PW.then_exit ?_
      refine PW.then_exit ?_
      refine PW.block_exit ?_
      refine PW.go ?_
      refine CW.seq ?_
      refine CW.region ?_
      refine RW.y (.inl rfl) rfl (Yv.assign rfl) ?_
      refine RW.nil ?_
      refine PW.go ?_
      refine CW.ret ?_
      refine PW.ret1 Tryz.results49 rfl (fun w1 hs => ?_)
      refine ⟨?_, hs.mod.below⟩
      rw [decide_eq_true]
      apply List.ext_getElem?
      intro j
      rcases Nat.lt_or_ge j k with h | h
      · exact hok j h
      · rw [List.getElem?_eq_none (by omega), List.getElem?_eq_none (by omega)]

end Go.Proofs.YtipoblpnkkcpgaaGreat
