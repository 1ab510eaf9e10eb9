/- Walks, written by a program of this session (gen.py) out of a spec. -/
import Derived.Test.YtipoblpnkkcpgaaGreatRef1
set_option linter.unusedVariables false
set_option linter.unusedSimpArgs false
namespace Go.Proofs.YtipoblpnkkcpgaaGreat
open Go Go.RowKit Go.Proofs.YtipoblpnkkcpgaaGreat.B

theorem ref15Checks' (n : Int) (A : Option Addr) (c : Nat) (l : List Edg) (w : World) (hr : Rd w A 3 l.length (cellsE l)) (k : Int) (i : Nat) (h : Chks n l k i) : Calls Tryz.prog 44 #[.int .i64 n, .slice A l.length c] w fun e w1 => e = .returned (.agg #[.int .i64 k, .int .i64 i]) ∧ Gr w w1 :=
  (ref15Checks n A c l w hr).mono fun e w1 ⟨p, hp, he, hb⟩ => by
    obtain ⟨h1, h2⟩ := chks_unique hp h
    subst h1; subst h2; exact ⟨he, hb⟩

set_option maxRecDepth 100000 in
theorem ref16New_ok (n : Int) (A : Option Addr) (c : Nat) (l : List Edg) (w : World) (hr : Rd w A 3 l.length (cellsE l)) (hok : NewOk n l) : Calls Tryz.prog 10 #[.int .i64 n, .slice A l.length c] w fun en w1 => ∃ p : Option Addr × Nat, en = .returned (.agg #[.int .i64 n, .slice p.1 (mergeL l).length p.2, .int .i64 0, .int .i64 0]) ∧ Gr w w1 ∧ ∃ F, (row (.slice p.1 (mergeL l).length p.2) 79 3 (mergeL l).length (cellsE (mergeL l))).holds w1 F ∧ ∀ k, F k → w.heap.size ≤ k ∧ k < w1.heap.size := by
  have ⟨h0, hn, hl, hc⟩ := hok
  have htot := hok.total
  refine CW.enter (P := Tryz.prog) (F0 := none0) (L := [(0, _), (1, _)]) 34 [] Tryz.func10 rfl Tryz.ntmps10 (Nat.le_of_ble_eq_true rfl) (St.start w none0) rfl ?_
  refine CW.seq ?_
  refine CW.region ?_
  refine RW.o _ (.inl rfl) rfl (Ow.alloc (cs := [_, _, _, _]) Tryz.zeroValue38 rfl) ?_
  rintro _ _ ⟨b4, rfl, rfl⟩
  refine RW.nil ?_
  refine PW.go ?_
  refine CW.seq ?_
  refine CW.seq ?_
  refine CW.region ?_
  refine RW.y (.inl rfl) rfl (Yv.move rfl) ?_
  refine RW.y (.inl rfl) rfl (Yv.lt rfl rfl) ?_
  refine RW.nil ?_
  refine PW.go ?_
  refine CW.condD rfl (fun hc7 => ?_) (fun hc7 => ?_)
  ·
    omega
  ·
    refine CW.skip ?_
    refine PW.go ?_
    refine CW.seq ?_
    refine CW.seq ?_
    refine CW.region ?_
    refine RW.y (.inl rfl) rfl (Yv.move rfl) ?_
    refine RW.y (.inl rfl) rfl (Yv.gt rfl rfl) ?_
    refine RW.y (.inl rfl) rfl (Yv.move rfl) ?_
    refine RW.isF 11 rfl (by omega) ?_
    refine RW.y (.inr ⟨_, _, 11, rfl, rfl, rfl⟩) rfl (Yv.move rfl) ?_
    refine RW.y (.inr ⟨_, _, 11, rfl, rfl, rfl⟩) rfl (Yv.len Tryz.underlying22 rfl) ?_
    refine RW.y (.inr ⟨_, _, 11, rfl, rfl, rfl⟩) rfl (Yv.gt rfl rfl) ?_
    refine RW.y (.inl rfl) rfl (Yv.pickF rfl rfl) ?_
    refine RW.nil ?_
    refine PW.go ?_
    refine CW.condD rfl (fun hc15 => ?_) (fun hc15 => ?_)
    ·
      omega
    ·
      refine CW.skip ?_
      refine PW.go ?_
      refine CW.seq ?_
      refine CW.region ?_
      refine RW.y (.inl rfl) rfl (Yv.move rfl) ?_
      refine RW.y (.inl rfl) rfl (Yv.move rfl) ?_
      refine RW.o _ (.inl rfl) rfl (Ow.call e44 rfl (C.val (fun w hs => ref15Checks' n A c l _ (hr.below hs.mod.below) 0 0 hc))) ?_
      rintro _ _ ⟨rfl, rfl⟩
      refine RW.o _ (.inl rfl) rfl (Ow.alloc (cs := [_, _]) Tryz.zeroValue95 rfl) ?_
      rintro _ _ ⟨b5, rfl, rfl⟩
      refine RW.o _ (.inl rfl) rfl (Ow.storeW (vs := [_, _]) 0 Tryz.sizeOf95 rfl rfl (rfl) rfl (rfl)) ?_
      rintro _ _ ⟨rfl, rfl⟩
      refine RW.nil ?_
      refine PW.go ?_
      refine CW.seq ?_
      refine CW.seq ?_
      refine CW.region ?_
      refine RW.y (.inl rfl) rfl (Yv.fieldAddr Tryz.underlying95 rfl Tryz.sizeOf26 rfl rfl) ?_
      refine RW.y (.inl rfl) rfl (Yv.load1 Tryz.isAgg26 rfl (CF.blk 0 rfl rfl)) ?_
      refine RW.y (.inl rfl) rfl (Yv.ne rfl rfl) ?_
      refine RW.nil ?_
      refine PW.go ?_
      refine CW.condD rfl (fun hc22 => ?_) (fun hc22 => ?_)
      ·
        exact absurd rfl hc22
      ·
        refine CW.skip ?_
        refine PW.go ?_
        refine CW.seq ?_
        refine CW.region ?_
        refine RW.y (.inl rfl) rfl (Yv.move rfl) ?_
        refine RW.y (.inl rfl) rfl (Yv.move rfl) ?_
        refine RW.o _ (.inl rfl) rfl (Ow.call e45 rfl (C.new (val := fun (p : Option Addr × Nat) => .agg #[.slice p.1 (mergeL l).length p.2, .bool true]) (φ := fun _ => True) (Ψ := fun p => row (.slice p.1 (mergeL l).length p.2) 79 3 (mergeL l).length (cellsE (mergeL l))) (fun w2 hs => (ref15Merge A c l w2 (hr.below hs.mod.below) hok.nonneg (by omega) (by omega)).mono (fun en w3 ⟨p, he, hb, F, hF, hk⟩ => ⟨p, trivial, he, hb, F, hF, hk⟩)))) ?_
        rintro _ _ ⟨⟨Am, cm⟩, -, rfl, rfl⟩
        refine RW.y (.inl rfl) rfl (Yv.field1 Tryz.underlying98 rfl Tryz.isAgg22 rfl rfl) ?_
        refine RW.y (.inl rfl) rfl (Yv.build rfl (fun w => by exact bld32_0_1 _ _ _ _ w)) ?_
        refine RW.y (.inl rfl) rfl (Yv.build rfl (fun w => by exact bld38_0 _ _ _ _ w)) ?_
        refine RW.o _ (.inl rfl) rfl (Ow.storeW (vs := [_, _, _, _]) 2 Tryz.sizeOf38 rfl rfl (rfl) rfl (rfl)) ?_
        rintro _ _ ⟨rfl, rfl⟩
        refine RW.nil ?_
        refine PW.go ?_
        refine CW.ret ?_
        refine PW.retC (vs := [_, _, _, _]) Tryz.results10 rfl Tryz.isAgg38 Tryz.sizeOf38 (CFs.whole 2 rfl) (fun w1 hs => ?_)
        obtain ⟨F, hF, hk⟩ := hs.out 0 rfl
        exact ⟨(Am, cm), rfl, hs.mod.below, F, hF, hk⟩

set_option maxRecDepth 100000 in
theorem ref16New_err (n : Int) (A : Option Addr) (c : Nat) (l : List Edg) (w : World) (hr : Rd w A 3 l.length (cellsE l)) (k : Int) (i : Nat) (hk : k ≠ 0) (he : NewE n l k i) : Calls Tryz.prog 10 #[.int .i64 n, .slice A l.length c] w fun e w1 => e = .returned (.agg #[.int .i64 0, .slice none 0 0, .int .i64 k, .int .i64 i]) ∧ Gr w w1 := by
  refine CW.enter (P := Tryz.prog) (F0 := none0) (L := [(0, _), (1, _)]) 34 [] Tryz.func10 rfl Tryz.ntmps10 (Nat.le_of_ble_eq_true rfl) (St.start w none0) rfl ?_
  refine CW.seq ?_
  refine CW.region ?_
  refine RW.o _ (.inl rfl) rfl (Ow.alloc (cs := [_, _, _, _]) Tryz.zeroValue38 rfl) ?_
  rintro _ _ ⟨b4, rfl, rfl⟩
  refine RW.nil ?_
  refine PW.go ?_
  refine CW.seq ?_
  refine CW.seq ?_
  refine CW.region ?_
  refine RW.y (.inl rfl) rfl (Yv.move rfl) ?_
  refine RW.y (.inl rfl) rfl (Yv.lt rfl rfl) ?_
  refine RW.nil ?_
  refine PW.go ?_
  refine CW.condD rfl (fun hc7 => ?_) (fun hc7 => ?_)
  ·
    refine CW.seq ?_
    refine CW.region ?_
    refine RW.y (.inl rfl) rfl (Yv.build rfl (fun w => by exact bld38_1 _ w)) ?_
    refine RW.o _ (.inl rfl) rfl (Ow.storeW (vs := [_, _, _, _]) 0 Tryz.sizeOf38 rfl rfl (rfl) rfl (rfl)) ?_
    rintro _ _ ⟨rfl, rfl⟩
    refine RW.nil ?_
    refine PW.go ?_
    refine CW.ret ?_
    refine PW.then_ret ?_
    refine PW.retC (vs := [_, _, _, _]) Tryz.results10 rfl Tryz.isAgg38 Tryz.sizeOf38 (CFs.whole 0 rfl) (fun w1 hs => ?_)
    refine ⟨?_, hs.mod.below⟩
    first
    | rfl
    | (obtain ⟨rfl, rfl⟩ : k = 1 ∧ i = 0 := by rcases he with h | h | h <;> omega
       rfl)
    | (obtain ⟨rfl, rfl⟩ : k = 3 ∧ i = 0 := by rcases he with h | h | h <;> omega
       rfl)
  ·
    refine CW.skip ?_
    refine PW.go ?_
    refine CW.seq ?_
    refine CW.seq ?_
    refine CW.region ?_
    refine RW.y (.inl rfl) rfl (Yv.move rfl) ?_
    refine RW.y (.inl rfl) rfl (Yv.gt rfl rfl) ?_
    refine RW.y (.inl rfl) rfl (Yv.move rfl) ?_
    refine RW.splitD 11 rfl (fun hc11 => ?_) (fun hc11 => ?_)
    ·
      refine RW.no ⟨_, _, 11, _, rfl, rfl, rfl, fun h => by simp [undef] at h⟩ rfl ?_
      refine RW.no ⟨_, _, 11, _, rfl, rfl, rfl, fun h => by simp [undef] at h⟩ rfl ?_
      refine RW.no ⟨_, _, 11, _, rfl, rfl, rfl, fun h => by simp [undef] at h⟩ rfl ?_
      refine RW.y (.inl rfl) rfl (Yv.pickT rfl rfl) ?_
      refine RW.nil ?_
      refine PW.go ?_
      refine CW.condT rfl ?_
      refine CW.seq ?_
      refine CW.region ?_
      refine RW.y (.inl rfl) rfl (Yv.build rfl (fun w => by exact bld38_1 _ w)) ?_
      refine RW.o _ (.inl rfl) rfl (Ow.storeW (vs := [_, _, _, _]) 0 Tryz.sizeOf38 rfl rfl (rfl) rfl (rfl)) ?_
      rintro _ _ ⟨rfl, rfl⟩
      refine RW.nil ?_
      refine PW.go ?_
      refine CW.ret ?_
      refine PW.then_ret ?_
      refine PW.retC (vs := [_, _, _, _]) Tryz.results10 rfl Tryz.isAgg38 Tryz.sizeOf38 (CFs.whole 0 rfl) (fun w1 hs => ?_)
      refine ⟨?_, hs.mod.below⟩
      first
      | rfl
      | (obtain ⟨rfl, rfl⟩ : k = 1 ∧ i = 0 := by rcases he with h | h | h <;> omega
         rfl)
      | (obtain ⟨rfl, rfl⟩ : k = 3 ∧ i = 0 := by rcases he with h | h | h <;> omega
         rfl)
    ·
      refine RW.y (.inr ⟨_, _, 11, rfl, rfl, rfl⟩) rfl (Yv.move rfl) ?_
      refine RW.y (.inr ⟨_, _, 11, rfl, rfl, rfl⟩) rfl (Yv.len Tryz.underlying22 rfl) ?_
      refine RW.y (.inr ⟨_, _, 11, rfl, rfl, rfl⟩) rfl (Yv.gt rfl rfl) ?_
      refine RW.y (.inl rfl) rfl (Yv.pickF rfl rfl) ?_
      refine RW.nil ?_
      refine PW.go ?_
      refine CW.condD rfl (fun hc15 => ?_) (fun hc15 => ?_)
      ·
        refine CW.seq ?_
        refine CW.region ?_
        refine RW.y (.inl rfl) rfl (Yv.build rfl (fun w => by exact bld38_1 _ w)) ?_
        refine RW.o _ (.inl rfl) rfl (Ow.storeW (vs := [_, _, _, _]) 0 Tryz.sizeOf38 rfl rfl (rfl) rfl (rfl)) ?_
        rintro _ _ ⟨rfl, rfl⟩
        refine RW.nil ?_
        refine PW.go ?_
        refine CW.ret ?_
        refine PW.then_ret ?_
        refine PW.retC (vs := [_, _, _, _]) Tryz.results10 rfl Tryz.isAgg38 Tryz.sizeOf38 (CFs.whole 0 rfl) (fun w1 hs => ?_)
        refine ⟨?_, hs.mod.below⟩
        first
        | rfl
        | (obtain ⟨rfl, rfl⟩ : k = 1 ∧ i = 0 := by rcases he with h | h | h <;> omega
           rfl)
        | (obtain ⟨rfl, rfl⟩ : k = 3 ∧ i = 0 := by rcases he with h | h | h <;> omega
           rfl)
      ·
        refine CW.skip ?_
        refine PW.go ?_
        refine CW.seq ?_
        refine CW.region ?_
        refine RW.y (.inl rfl) rfl (Yv.move rfl) ?_
        refine RW.y (.inl rfl) rfl (Yv.move rfl) ?_
        refine RW.o _ (.inl rfl) rfl (Ow.call e44 rfl (C.val (fun w hs => ref15Checks' n A c l _ (hr.below hs.mod.below) k i (by rcases he with h | h | h; omega; omega; exact h.2.2.2)))) ?_
        rintro _ _ ⟨rfl, rfl⟩
        refine RW.o _ (.inl rfl) rfl (Ow.alloc (cs := [_, _]) Tryz.zeroValue95 rfl) ?_
        rintro _ _ ⟨b5, rfl, rfl⟩
        refine RW.o _ (.inl rfl) rfl (Ow.storeW (vs := [_, _]) 0 Tryz.sizeOf95 rfl rfl (rfl) rfl (rfl)) ?_
        rintro _ _ ⟨rfl, rfl⟩
        refine RW.nil ?_
        refine PW.go ?_
        refine CW.seq ?_
        refine CW.seq ?_
        refine CW.region ?_
        refine RW.y (.inl rfl) rfl (Yv.fieldAddr Tryz.underlying95 rfl Tryz.sizeOf26 rfl rfl) ?_
        refine RW.y (.inl rfl) rfl (Yv.load1 Tryz.isAgg26 rfl (CF.blk 0 rfl rfl)) ?_
        refine RW.y (.inl rfl) rfl (Yv.ne rfl rfl) ?_
        refine RW.nil ?_
        refine PW.go ?_
        refine CW.condD rfl (fun hc22 => ?_) (fun hc22 => ?_)
        ·
          refine CW.seq ?_
          refine CW.region ?_
          refine RW.y (.inl rfl) rfl (Yv.fieldAddr Tryz.underlying95 rfl Tryz.sizeOf26 rfl rfl) ?_
          refine RW.y (.inl rfl) rfl (Yv.load1 Tryz.isAgg26 rfl (CF.blk 0 rfl rfl)) ?_
          refine RW.y (.inl rfl) rfl (Yv.fieldAddr Tryz.underlying95 rfl Tryz.sizeOf3 rfl rfl) ?_
          refine RW.y (.inl rfl) rfl (Yv.load1 Tryz.isAgg3 rfl (CF.blk 0 rfl rfl)) ?_
          refine RW.y (.inl rfl) rfl (Yv.build rfl (fun w => by exact bld38_1_2 _ _ w)) ?_
          refine RW.o _ (.inl rfl) rfl (Ow.storeW (vs := [_, _, _, _]) 1 Tryz.sizeOf38 rfl rfl (rfl) rfl (rfl)) ?_
          rintro _ _ ⟨rfl, rfl⟩
          refine RW.nil ?_
          refine PW.go ?_
          refine CW.ret ?_
          refine PW.then_ret ?_
          refine PW.retC (vs := [_, _, _, _]) Tryz.results10 rfl Tryz.isAgg38 Tryz.sizeOf38 (CFs.whole 1 rfl) (fun w1 hs => ?_)
          refine ⟨?_, hs.mod.below⟩
          first
          | rfl
          | (obtain ⟨rfl, rfl⟩ : k = 1 ∧ i = 0 := by rcases he with h | h | h <;> omega
             rfl)
          | (obtain ⟨rfl, rfl⟩ : k = 3 ∧ i = 0 := by rcases he with h | h | h <;> omega
             rfl)
        ·
          exact absurd hk (by simpa using hc22)

end Go.Proofs.YtipoblpnkkcpgaaGreat
