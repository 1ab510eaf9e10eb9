/- Walks, written by a program of this session (gen.py) out of a spec. -/
import Derived.Test.YtipoblpnkkcpgaaGreatRef0
set_option linter.unusedVariables false
set_option linter.unusedSimpArgs false
namespace Go.Proofs.YtipoblpnkkcpgaaGreat
open Go Go.RowKit Go.Proofs.YtipoblpnkkcpgaaGreat.B

set_option maxRecDepth 100000 in
theorem ref15Add (A : Option Addr) (c : Nat) (l : List Edg) (e : Edg) (w : World) (hr : Rd w A 3 l.length (cellsE l)) (hsort : sortedE l) (hnn : ∀ x ∈ l, 0 ≤ x.w ∧ x.w + e.w ≤ 4611686018427387904) (he : 0 ≤ e.w) (hlen : l.length ≤ 1099511627776) : Calls Tryz.prog 94 #[.slice A l.length c, aggE e] w fun en w1 => ∃ p : Option Addr × Nat, en = .returned (.agg #[.slice p.1 (addE l e).length p.2, .bool true]) ∧ Gr w w1 ∧ ∃ F, (row (.slice p.1 (addE l e).length p.2) 79 3 (addE l e).length (cellsE (addE l e))).holds w1 F ∧ ∀ k, F k → w.heap.size ≤ k ∧ k < w1.heap.size := by
  unfold aggE
  refine CW.enter (P := Tryz.prog) (F0 := none0) (L := [(0, _), (1, _)]) 83 [] Tryz.func94 rfl Tryz.ntmps94 (Nat.le_of_ble_eq_true rfl) (St.start w none0) rfl ?_
  refine CW.seq ?_
  refine CW.region ?_
  refine RW.o _ (.inl rfl) rfl (Ow.box (cs := [_, _, _]) rfl rfl) ?_
  rintro _ _ ⟨b3, rfl, rfl⟩
  refine RW.o _ (.inl rfl) rfl (Ow.alloc (cs := [_, _]) Tryz.zeroValue98 rfl) ?_
  rintro _ _ ⟨b4, rfl, rfl⟩
  refine RW.nil ?_
  refine PW.go ?_
  refine CW.seq ?_
  refine CW.region ?_
  refine RW.mem _ (fun w h => h.emptyRow 79 3) ?_
  refine RW.y (.inl rfl) rfl (Yv.assign rfl) ?_
  refine RW.nil ?_
  refine PW.go ?_
  refine CW.seq ?_
  refine CW.region ?_
  refine RW.y (.inl rfl) rfl (Yv.assign rfl) ?_
  refine RW.nil ?_
  refine PW.go ?_
  refine CW.seq ?_
  refine CW.seq ?_
  refine CW.region ?_
  refine RW.y (.inl rfl) rfl (Yv.assign rfl) ?_
  refine RW.nil ?_
  refine PW.go ?_
  refine CW.block ?_
  refine CW.loop (σ := Nat × Bool × Value) (fun s => StepOk l e s.1 s.2.1) (fun s => [(0, .slice A l.length c), (3, .pointer (some ⟨b3, 0, none⟩)), (4, .pointer (some ⟨b4, 0, none⟩)), (5, s.2.2), (6, .bool s.2.1), (7, .int .i64 (s.1 : Nat))]) (fun s => [row s.2.2 79 3 (stepO l e s.1 s.2.1).length (cellsE (stepO l e s.1 s.2.1)), blk b4 [.slice none 0 0, .bool false] 98, blk b3 (encE e) 79]) (fun s => l.length - s.1) (0, false, .slice none 0 0) (⟨by simp, by simp, by simp⟩) ⟨rfl, rfl, rfl, rfl, rfl, rfl, trivial⟩ (fun w h => h) ?_
  rintro ⟨k, d, v⟩ hok
  (try dsimp only at *)
  have hsl := stepO_length l e k d
  have hkle : k ≤ l.length := hok.1
  refine CW.seq ?_
  refine CW.seq ?_
  refine CW.region ?_
  refine RW.y (.inl rfl) rfl (Yv.move rfl) ?_
  refine RW.y (.inl rfl) rfl (Yv.move rfl) ?_
  refine RW.y (.inl rfl) rfl (Yv.len Tryz.underlying22 rfl) ?_
  refine RW.y (.inl rfl) rfl (Yv.lt rfl rfl) ?_
  refine RW.nil ?_
  refine PW.go ?_
  refine CW.condD rfl (fun hc13 => ?_) (fun hc13 => ?_)
  ·
    refine CW.skip ?_
    refine PW.go ?_
    refine CW.seq ?_
    refine CW.block ?_
    refine CW.seq ?_
    have hkl : k < l.length := by omega
    obtain ⟨b, o, rfl, hb, hc⟩ := hr.2.2 (by omega)
    obtain ⟨x, hx⟩ : ∃ x, l[k]? = some x := ⟨_, List.getElem?_eq_getElem hkl⟩
    have hcx := cellsE_get l k x hx
    have hxw := hnn x (List.mem_of_getElem? hx)
    refine CW.region ?_
    refine RW.y (.inl rfl) rfl (Yv.move rfl) ?_
    refine RW.y (.inl rfl) rfl (Yv.move rfl) ?_
    refine RW.y (.inl rfl) rfl (Yv.indexK Tryz.underlying22 Tryz.sizeOf79 rfl rfl (by omega) (by omega)) ?_
    refine RW.y (.inl rfl) rfl (Yv.loadK (vs := [_, _, _]) Tryz.isAgg79 Tryz.sizeOf79 rfl (CFs.old (vs := encE x) (fun j v hj => by rw [add_plain', Nat.add_assoc]; exact hc _ v (hcx j v hj)) (fun _ _ _ => not_none0 _))) ?_
    refine RW.o _ (.inl rfl) rfl (Ow.alloc (cs := [_, _, _]) Tryz.zeroValue79 rfl) ?_
    rintro _ _ ⟨b8, rfl, rfl⟩
    refine RW.o _ (.inl rfl) rfl (Ow.storeW (vs := [_, _, _]) 0 Tryz.sizeOf79 rfl rfl (rfl) rfl (rfl)) ?_
    rintro _ _ ⟨rfl, rfl⟩
    refine RW.nil ?_
    refine PW.go ?_
    refine CW.seq ?_
    refine CW.seq ?_
    refine CW.region ?_
    refine RW.y (.inl rfl) rfl (Yv.fieldAddr Tryz.underlying79 rfl Tryz.sizeOf3 rfl rfl) ?_
    refine RW.y (.inl rfl) rfl (Yv.load1 Tryz.isAgg3 rfl (CF.blk 0 rfl rfl)) ?_
    refine RW.y (.inl rfl) rfl (Yv.fieldAddr Tryz.underlying79 rfl Tryz.sizeOf3 rfl rfl) ?_
    refine RW.y (.inl rfl) rfl (Yv.load1 Tryz.isAgg3 rfl (CF.blk 3 rfl rfl)) ?_
    refine RW.y (.inl rfl) rfl (Yv.eq rfl rfl) ?_
    refine RW.y (.inl rfl) rfl (Yv.move rfl) ?_
    refine RW.splitD 25 rfl (fun hc25 => ?_) (fun hc25 => ?_)
    ·
      refine RW.y (.inr ⟨_, _, 25, rfl, rfl, rfl⟩) rfl (Yv.fieldAddr Tryz.underlying79 rfl Tryz.sizeOf3 rfl rfl) ?_
      refine RW.y (.inr ⟨_, _, 25, rfl, rfl, rfl⟩) rfl (Yv.load1 Tryz.isAgg3 rfl (CF.blk 0 rfl rfl)) ?_
      refine RW.y (.inr ⟨_, _, 25, rfl, rfl, rfl⟩) rfl (Yv.fieldAddr Tryz.underlying79 rfl Tryz.sizeOf3 rfl rfl) ?_
      refine RW.y (.inr ⟨_, _, 25, rfl, rfl, rfl⟩) rfl (Yv.load1 Tryz.isAgg3 rfl (CF.blk 3 rfl rfl)) ?_
      refine RW.y (.inr ⟨_, _, 25, rfl, rfl, rfl⟩) rfl (Yv.eq rfl rfl) ?_
      refine RW.y (.inl rfl) rfl (Yv.pickT rfl rfl) ?_
      refine RW.nil ?_
      refine PW.go ?_
      refine CW.condD rfl (fun hc31 => ?_) (fun hc31 => ?_)
      ·
        refine CW.seq ?_
        refine CW.region ?_
        refine RW.y (.inl rfl) rfl (Yv.fieldAddr Tryz.underlying79 rfl Tryz.sizeOf2 rfl rfl) ?_
        refine RW.y (.inl rfl) rfl (Yv.load1 Tryz.isAgg2 rfl (CF.blk 0 rfl rfl)) ?_
        refine RW.y (.inl rfl) rfl (Yv.fieldAddr Tryz.underlying79 rfl Tryz.sizeOf2 rfl rfl) ?_
        refine RW.y (.inl rfl) rfl (Yv.load1 Tryz.isAgg2 rfl (CF.blk 3 rfl rfl)) ?_
        refine RW.o _ (.inl rfl) rfl (Ow.call e125 rfl (C.val (fun w hs => ref01Add x.w e.w (by omega) (by omega) (by omega) _))) ?_
        rintro _ _ ⟨rfl, rfl⟩
        refine RW.o _ (.inl rfl) rfl (Ow.alloc (cs := [_, _]) Tryz.zeroValue176 rfl) ?_
        rintro _ _ ⟨b9, rfl, rfl⟩
        refine RW.o _ (.inl rfl) rfl (Ow.storeW (vs := [_, _]) 0 Tryz.sizeOf176 rfl rfl (rfl) rfl (rfl)) ?_
        rintro _ _ ⟨rfl, rfl⟩
        refine RW.nil ?_
        refine PW.go ?_
        refine CW.seq ?_
        refine CW.seq ?_
        refine CW.region ?_
        refine RW.y (.inl rfl) rfl (Yv.fieldAddr Tryz.underlying176 rfl Tryz.sizeOf4 rfl rfl) ?_
        refine RW.y (.inl rfl) rfl (Yv.load1 Tryz.isAgg4 rfl (CF.blk 0 rfl rfl)) ?_
        refine RW.y (.inl rfl) rfl (Yv.not rfl) ?_
        refine RW.nil ?_
        refine PW.go ?_
        refine CW.cond rfl (fun hc39 => ?_) (fun hc39 => ?_)
        ·
          cases hc39
        ·
          refine CW.skip ?_
          refine PW.go ?_
          refine CW.seq ?_
          refine CW.region ?_
          refine RW.y (.inl rfl) rfl (Yv.fieldAddr Tryz.underlying176 rfl Tryz.sizeOf2 rfl rfl) ?_
          refine RW.y (.inl rfl) rfl (Yv.load1 Tryz.isAgg2 rfl (CF.blk 0 rfl rfl)) ?_
          refine RW.y (.inl rfl) rfl (Yv.fieldAddr Tryz.underlying79 rfl Tryz.sizeOf2 rfl rfl) ?_
          refine RW.o _ (.inl rfl) rfl (Ow.store1 1 Tryz.sizeOf2 rfl rfl (rfl) rfl (Nat.le_of_ble_eq_true rfl)) ?_
          rintro _ _ ⟨rfl, rfl⟩
          refine RW.nil ?_
          refine PW.go ?_
          refine CW.region ?_
          refine RW.y (.inl rfl) rfl (Yv.assign rfl) ?_
          refine RW.nil ?_
          refine PW.go ?_
          refine CW.region ?_
          refine RW.y (.inl rfl) rfl (Yv.move rfl) ?_
          refine RW.y (.inl rfl) rfl (Yv.loadK (vs := [_, _, _]) Tryz.isAgg79 Tryz.sizeOf79 rfl (CFs.whole 1 rfl)) ?_
          refine RW.o _ (.inl rfl) rfl (Ow.lit (len := 1) (vs := [_]) (cs := [_, _, _]) Tryz.underlying22 info79 rfl rfl rfl rfl rfl rfl rfl) ?_
          rintro _ _ ⟨b73, rfl, rfl⟩
          refine RW.o _ (.inl rfl) rfl (Ow.append 3 0 Tryz.underlying22 info79 rfl rfl rfl rfl rfl rfl rfl rfl (by omega) (by omega)) ?_
          rintro v74 _ rfl
          refine RW.y (.inl rfl) rfl (Yv.assign rfl) ?_
          refine RW.nil ?_
          refine PW.block ?_
          refine PW.go ?_
          refine CW.region ?_
          refine RW.y (.inl rfl) rfl (Yv.move rfl) ?_
          refine RW.y (.inl rfl) rfl (Yv.add rfl rfl (by omega)) ?_
          refine RW.y (.inl rfl) rfl (Yv.assign rfl) ?_
          refine RW.nil ?_
          have hO := (stepA hsort hx hok ⟨by omega, by omega⟩)
          refine PW.mem _ (fun w h => h.row_eq (m' := (stepO l e (k + 1) true).length) (xs' := cellsE (stepO l e (k + 1) true)) 3 rfl (by rw [hO.1]; simp) (by rw [hO.1]; simp [cellsE_append]; simp [cellsE, encE])) ?_
          exact PW.next (k + 1, true, v74) (hO.2) ⟨rfl, rfl, rfl, rfl, rfl, rfl, trivial⟩ (fun w h => (((h).erase 0).erase 0).erase 0) (by show l.length - (k + 1) < l.length - k; omega)
      ·
        refine CW.seq ?_
        refine CW.region ?_
        refine RW.y (.inl rfl) rfl (Yv.move rfl) ?_
        refine RW.y (.inl rfl) rfl (Yv.not rfl) ?_
        refine RW.y (.inl rfl) rfl (Yv.move rfl) ?_
        refine RW.splitB 46 rfl (fun hc46 => ?_) (fun hc46 => ?_)
        ·
          refine RW.y (.inr ⟨_, _, 46, rfl, rfl, rfl⟩) rfl (Yv.fieldAddr Tryz.underlying79 rfl Tryz.sizeOf3 rfl rfl) ?_
          refine RW.y (.inr ⟨_, _, 46, rfl, rfl, rfl⟩) rfl (Yv.load1 Tryz.isAgg3 rfl (CF.blk 0 rfl rfl)) ?_
          refine RW.y (.inr ⟨_, _, 46, rfl, rfl, rfl⟩) rfl (Yv.fieldAddr Tryz.underlying79 rfl Tryz.sizeOf3 rfl rfl) ?_
          refine RW.y (.inr ⟨_, _, 46, rfl, rfl, rfl⟩) rfl (Yv.load1 Tryz.isAgg3 rfl (CF.blk 3 rfl rfl)) ?_
          refine RW.y (.inr ⟨_, _, 46, rfl, rfl, rfl⟩) rfl (Yv.gt rfl rfl) ?_
          refine RW.y (.inr ⟨_, _, 46, rfl, rfl, rfl⟩) rfl (Yv.move rfl) ?_
          refine RW.splitD 52 rfl (fun hc52 => ?_) (fun hc52 => ?_)
          ·
            refine RW.no ⟨_, _, 52, _, rfl, rfl, rfl, fun h => by simp [undef] at h⟩ rfl ?_
            refine RW.no ⟨_, _, 52, _, rfl, rfl, rfl, fun h => by simp [undef] at h⟩ rfl ?_
            refine RW.no ⟨_, _, 52, _, rfl, rfl, rfl, fun h => by simp [undef] at h⟩ rfl ?_
            refine RW.no ⟨_, _, 52, _, rfl, rfl, rfl, fun h => by simp [undef] at h⟩ rfl ?_
            refine RW.no ⟨_, _, 52, _, rfl, rfl, rfl, fun h => by simp [undef] at h⟩ rfl ?_
            refine RW.no ⟨_, _, 52, _, rfl, rfl, rfl, fun h => by simp [undef] at h⟩ rfl ?_
            refine RW.no ⟨_, _, 58, _, rfl, rfl, rfl, fun h => by simp [undef] at h⟩ rfl ?_
            refine RW.no ⟨_, _, 58, _, rfl, rfl, rfl, fun h => by simp [undef] at h⟩ rfl ?_
            refine RW.no ⟨_, _, 58, _, rfl, rfl, rfl, fun h => by simp [undef] at h⟩ rfl ?_
            refine RW.no ⟨_, _, 58, _, rfl, rfl, rfl, fun h => by simp [undef] at h⟩ rfl ?_
            refine RW.no ⟨_, _, 58, _, rfl, rfl, rfl, fun h => by simp [undef] at h⟩ rfl ?_
            refine RW.no ⟨_, _, 52, _, rfl, rfl, rfl, fun h => by simp [undef] at h⟩ rfl ?_
            refine RW.y (.inr ⟨_, _, 46, rfl, rfl, rfl⟩) rfl (Yv.pickT rfl rfl) ?_
            refine RW.y (.inl rfl) rfl (Yv.pickT rfl rfl) ?_
            refine RW.nil ?_
            refine PW.go ?_
            refine CW.condT rfl ?_
            refine CW.seq ?_
            refine CW.region ?_
            refine RW.y (.inl rfl) rfl (Yv.move rfl) ?_
            refine RW.y (.inl rfl) rfl (Yv.loadK (vs := [_, _, _]) Tryz.isAgg79 Tryz.sizeOf79 rfl (CFs.whole 3 rfl)) ?_
            refine RW.o _ (.inl rfl) rfl (Ow.lit (len := 1) (vs := [_]) (cs := [_, _, _]) Tryz.underlying22 info79 rfl rfl rfl rfl rfl rfl rfl) ?_
            rintro _ _ ⟨b69, rfl, rfl⟩
            refine RW.o _ (.inl rfl) rfl (Ow.append 2 0 Tryz.underlying22 info79 rfl rfl rfl rfl rfl rfl rfl rfl (by omega) (by omega)) ?_
            rintro v70 _ rfl
            refine RW.y (.inl rfl) rfl (Yv.assign rfl) ?_
            refine RW.nil ?_
            refine PW.go ?_
            refine CW.region ?_
            refine RW.y (.inl rfl) rfl (Yv.assign rfl) ?_
            refine RW.nil ?_
            refine PW.go ?_
            refine CW.region ?_
            refine RW.y (.inl rfl) rfl (Yv.move rfl) ?_
            refine RW.y (.inl rfl) rfl (Yv.loadK (vs := [_, _, _]) Tryz.isAgg79 Tryz.sizeOf79 rfl (CFs.whole 1 rfl)) ?_
            refine RW.o _ (.inl rfl) rfl (Ow.lit (len := 1) (vs := [_]) (cs := [_, _, _]) Tryz.underlying22 info79 rfl rfl rfl rfl rfl rfl rfl) ?_
            rintro _ _ ⟨b73, rfl, rfl⟩
            refine RW.o _ (.inl rfl) rfl (Ow.append 3 0 Tryz.underlying22 info79 rfl rfl rfl rfl rfl rfl rfl rfl (by omega) (by omega)) ?_
            rintro v74 _ rfl
            refine RW.y (.inl rfl) rfl (Yv.assign rfl) ?_
            refine RW.nil ?_
            refine PW.block ?_
            refine PW.go ?_
            refine CW.region ?_
            refine RW.y (.inl rfl) rfl (Yv.move rfl) ?_
            refine RW.y (.inl rfl) rfl (Yv.add rfl rfl (by omega)) ?_
            refine RW.y (.inl rfl) rfl (Yv.assign rfl) ?_
            refine RW.nil ?_
            obtain rfl : d = false := by simpa using hc46
            have hO := (stepB (e := e) hx hok (by unfold keyEq; omega) (by unfold keyLt; omega))
            refine PW.mem _ (fun w h => h.row_eq (m' := (stepO l e (k + 1) true).length) (xs' := cellsE (stepO l e (k + 1) true)) 3 rfl (by rw [hO.1]; simp) (by rw [hO.1]; simp [cellsE_append]; simp [cellsE, encE])) ?_
            exact PW.next (k + 1, true, v74) (hO.2) ⟨rfl, rfl, rfl, rfl, rfl, rfl, trivial⟩ (fun w h => (((h).erase 0).erase 0).erase 0) (by show l.length - (k + 1) < l.length - k; omega)
          ·
            refine RW.y (.inr ⟨_, _, 52, rfl, rfl, rfl⟩) rfl (Yv.fieldAddr Tryz.underlying79 rfl Tryz.sizeOf3 rfl rfl) ?_
            refine RW.y (.inr ⟨_, _, 52, rfl, rfl, rfl⟩) rfl (Yv.load1 Tryz.isAgg3 rfl (CF.blk 0 rfl rfl)) ?_
            refine RW.y (.inr ⟨_, _, 52, rfl, rfl, rfl⟩) rfl (Yv.fieldAddr Tryz.underlying79 rfl Tryz.sizeOf3 rfl rfl) ?_
            refine RW.y (.inr ⟨_, _, 52, rfl, rfl, rfl⟩) rfl (Yv.load1 Tryz.isAgg3 rfl (CF.blk 3 rfl rfl)) ?_
            refine RW.y (.inr ⟨_, _, 52, rfl, rfl, rfl⟩) rfl (Yv.eq rfl rfl) ?_
            refine RW.y (.inr ⟨_, _, 52, rfl, rfl, rfl⟩) rfl (Yv.move rfl) ?_
            refine RW.splitD 58 rfl (fun hc58 => ?_) (fun hc58 => ?_)
            ·
              refine RW.y (.inr ⟨_, _, 58, rfl, rfl, rfl⟩) rfl (Yv.fieldAddr Tryz.underlying79 rfl Tryz.sizeOf3 rfl rfl) ?_
              refine RW.y (.inr ⟨_, _, 58, rfl, rfl, rfl⟩) rfl (Yv.load1 Tryz.isAgg3 rfl (CF.blk 0 rfl rfl)) ?_
              refine RW.y (.inr ⟨_, _, 58, rfl, rfl, rfl⟩) rfl (Yv.fieldAddr Tryz.underlying79 rfl Tryz.sizeOf3 rfl rfl) ?_
              refine RW.y (.inr ⟨_, _, 58, rfl, rfl, rfl⟩) rfl (Yv.load1 Tryz.isAgg3 rfl (CF.blk 3 rfl rfl)) ?_
              refine RW.y (.inr ⟨_, _, 58, rfl, rfl, rfl⟩) rfl (Yv.gt rfl rfl) ?_
              refine RW.y (.inr ⟨_, _, 52, rfl, rfl, rfl⟩) rfl (Yv.pickT rfl rfl) ?_
              refine RW.y (.inr ⟨_, _, 46, rfl, rfl, rfl⟩) rfl (Yv.pickF rfl rfl) ?_
              refine RW.y (.inl rfl) rfl (Yv.pickT rfl rfl) ?_
              refine RW.nil ?_
              refine PW.go ?_
              refine CW.condD rfl (fun hc66 => ?_) (fun hc66 => ?_)
              ·
                refine CW.seq ?_
                refine CW.region ?_
                refine RW.y (.inl rfl) rfl (Yv.move rfl) ?_
                refine RW.y (.inl rfl) rfl (Yv.loadK (vs := [_, _, _]) Tryz.isAgg79 Tryz.sizeOf79 rfl (CFs.whole 3 rfl)) ?_
                refine RW.o _ (.inl rfl) rfl (Ow.lit (len := 1) (vs := [_]) (cs := [_, _, _]) Tryz.underlying22 info79 rfl rfl rfl rfl rfl rfl rfl) ?_
                rintro _ _ ⟨b69, rfl, rfl⟩
                refine RW.o _ (.inl rfl) rfl (Ow.append 2 0 Tryz.underlying22 info79 rfl rfl rfl rfl rfl rfl rfl rfl (by omega) (by omega)) ?_
                rintro v70 _ rfl
                refine RW.y (.inl rfl) rfl (Yv.assign rfl) ?_
                refine RW.nil ?_
                refine PW.go ?_
                refine CW.region ?_
                refine RW.y (.inl rfl) rfl (Yv.assign rfl) ?_
                refine RW.nil ?_
                refine PW.go ?_
                refine CW.region ?_
                refine RW.y (.inl rfl) rfl (Yv.move rfl) ?_
                refine RW.y (.inl rfl) rfl (Yv.loadK (vs := [_, _, _]) Tryz.isAgg79 Tryz.sizeOf79 rfl (CFs.whole 1 rfl)) ?_
                refine RW.o _ (.inl rfl) rfl (Ow.lit (len := 1) (vs := [_]) (cs := [_, _, _]) Tryz.underlying22 info79 rfl rfl rfl rfl rfl rfl rfl) ?_
                rintro _ _ ⟨b73, rfl, rfl⟩
                refine RW.o _ (.inl rfl) rfl (Ow.append 3 0 Tryz.underlying22 info79 rfl rfl rfl rfl rfl rfl rfl rfl (by omega) (by omega)) ?_
                rintro v74 _ rfl
                refine RW.y (.inl rfl) rfl (Yv.assign rfl) ?_
                refine RW.nil ?_
                refine PW.block ?_
                refine PW.go ?_
                refine CW.region ?_
                refine RW.y (.inl rfl) rfl (Yv.move rfl) ?_
                refine RW.y (.inl rfl) rfl (Yv.add rfl rfl (by omega)) ?_
                refine RW.y (.inl rfl) rfl (Yv.assign rfl) ?_
                refine RW.nil ?_
                obtain rfl : d = false := by simpa using hc46
                have hO := (stepB (e := e) hx hok (by unfold keyEq; omega) (by unfold keyLt; omega))
                refine PW.mem _ (fun w h => h.row_eq (m' := (stepO l e (k + 1) true).length) (xs' := cellsE (stepO l e (k + 1) true)) 3 rfl (by rw [hO.1]; simp) (by rw [hO.1]; simp [cellsE_append]; simp [cellsE, encE])) ?_
                exact PW.next (k + 1, true, v74) (hO.2) ⟨rfl, rfl, rfl, rfl, rfl, rfl, trivial⟩ (fun w h => (((h).erase 0).erase 0).erase 0) (by show l.length - (k + 1) < l.length - k; omega)
              ·
                refine CW.skip ?_
                refine PW.go ?_
                refine CW.region ?_
                refine RW.y (.inl rfl) rfl (Yv.move rfl) ?_
                refine RW.y (.inl rfl) rfl (Yv.loadK (vs := [_, _, _]) Tryz.isAgg79 Tryz.sizeOf79 rfl (CFs.whole 0 rfl)) ?_
                refine RW.o _ (.inl rfl) rfl (Ow.lit (len := 1) (vs := [_]) (cs := [_, _, _]) Tryz.underlying22 info79 rfl rfl rfl rfl rfl rfl rfl) ?_
                rintro _ _ ⟨b73, rfl, rfl⟩
                refine RW.o _ (.inl rfl) rfl (Ow.append 2 0 Tryz.underlying22 info79 rfl rfl rfl rfl rfl rfl rfl rfl (by omega) (by omega)) ?_
                rintro v74 _ rfl
                refine RW.y (.inl rfl) rfl (Yv.assign rfl) ?_
                refine RW.nil ?_
                refine PW.block ?_
                refine PW.go ?_
                refine CW.region ?_
                refine RW.y (.inl rfl) rfl (Yv.move rfl) ?_
                refine RW.y (.inl rfl) rfl (Yv.add rfl rfl (by omega)) ?_
                refine RW.y (.inl rfl) rfl (Yv.assign rfl) ?_
                refine RW.nil ?_
                have hO := (stepC (e := e) hx hok (by unfold keyEq; omega) (by first | (left; simpa using hc46) | (right; unfold keyLt; omega)))
                refine PW.mem _ (fun w h => h.row_eq (m' := (stepO l e (k + 1) d).length) (xs' := cellsE (stepO l e (k + 1) d)) 2 rfl (by rw [hO.1]; simp) (by rw [hO.1]; simp [cellsE_append]; simp [cellsE, encE])) ?_
                exact PW.next (k + 1, d, v74) (hO.2) ⟨rfl, rfl, rfl, rfl, rfl, rfl, trivial⟩ (fun w h => ((h).erase 0).erase 0) (by show l.length - (k + 1) < l.length - k; omega)
            ·
              refine RW.no ⟨_, _, 58, _, rfl, rfl, rfl, fun h => by simp [undef] at h⟩ rfl ?_
              refine RW.no ⟨_, _, 58, _, rfl, rfl, rfl, fun h => by simp [undef] at h⟩ rfl ?_
              refine RW.no ⟨_, _, 58, _, rfl, rfl, rfl, fun h => by simp [undef] at h⟩ rfl ?_
              refine RW.no ⟨_, _, 58, _, rfl, rfl, rfl, fun h => by simp [undef] at h⟩ rfl ?_
              refine RW.no ⟨_, _, 58, _, rfl, rfl, rfl, fun h => by simp [undef] at h⟩ rfl ?_
              refine RW.y (.inr ⟨_, _, 52, rfl, rfl, rfl⟩) rfl (Yv.pickF rfl rfl) ?_
              refine RW.y (.inr ⟨_, _, 46, rfl, rfl, rfl⟩) rfl (Yv.pickF rfl rfl) ?_
              refine RW.y (.inl rfl) rfl (Yv.pickT rfl rfl) ?_
              refine RW.nil ?_
              refine PW.go ?_
              refine CW.condF rfl ?_
              refine CW.skip ?_
              refine PW.go ?_
              refine CW.region ?_
              refine RW.y (.inl rfl) rfl (Yv.move rfl) ?_
              refine RW.y (.inl rfl) rfl (Yv.loadK (vs := [_, _, _]) Tryz.isAgg79 Tryz.sizeOf79 rfl (CFs.whole 0 rfl)) ?_
              refine RW.o _ (.inl rfl) rfl (Ow.lit (len := 1) (vs := [_]) (cs := [_, _, _]) Tryz.underlying22 info79 rfl rfl rfl rfl rfl rfl rfl) ?_
              rintro _ _ ⟨b73, rfl, rfl⟩
              refine RW.o _ (.inl rfl) rfl (Ow.append 2 0 Tryz.underlying22 info79 rfl rfl rfl rfl rfl rfl rfl rfl (by omega) (by omega)) ?_
              rintro v74 _ rfl
              refine RW.y (.inl rfl) rfl (Yv.assign rfl) ?_
              refine RW.nil ?_
              refine PW.block ?_
              refine PW.go ?_
              refine CW.region ?_
              refine RW.y (.inl rfl) rfl (Yv.move rfl) ?_
              refine RW.y (.inl rfl) rfl (Yv.add rfl rfl (by omega)) ?_
              refine RW.y (.inl rfl) rfl (Yv.assign rfl) ?_
              refine RW.nil ?_
              have hO := (stepC (e := e) hx hok (by unfold keyEq; omega) (by first | (left; simpa using hc46) | (right; unfold keyLt; omega)))
              refine PW.mem _ (fun w h => h.row_eq (m' := (stepO l e (k + 1) d).length) (xs' := cellsE (stepO l e (k + 1) d)) 2 rfl (by rw [hO.1]; simp) (by rw [hO.1]; simp [cellsE_append]; simp [cellsE, encE])) ?_
              exact PW.next (k + 1, d, v74) (hO.2) ⟨rfl, rfl, rfl, rfl, rfl, rfl, trivial⟩ (fun w h => ((h).erase 0).erase 0) (by show l.length - (k + 1) < l.length - k; omega)
        ·
          refine RW.no ⟨_, _, 46, _, rfl, rfl, rfl, fun h => by simp [undef] at h⟩ rfl ?_
          refine RW.no ⟨_, _, 46, _, rfl, rfl, rfl, fun h => by simp [undef] at h⟩ rfl ?_
          refine RW.no ⟨_, _, 46, _, rfl, rfl, rfl, fun h => by simp [undef] at h⟩ rfl ?_
          refine RW.no ⟨_, _, 46, _, rfl, rfl, rfl, fun h => by simp [undef] at h⟩ rfl ?_
          refine RW.no ⟨_, _, 46, _, rfl, rfl, rfl, fun h => by simp [undef] at h⟩ rfl ?_
          refine RW.no ⟨_, _, 46, _, rfl, rfl, rfl, fun h => by simp [undef] at h⟩ rfl ?_
          refine RW.no ⟨_, _, 52, _, rfl, rfl, rfl, fun h => by simp [undef] at h⟩ rfl ?_
          refine RW.no ⟨_, _, 52, _, rfl, rfl, rfl, fun h => by simp [undef] at h⟩ rfl ?_
          refine RW.no ⟨_, _, 52, _, rfl, rfl, rfl, fun h => by simp [undef] at h⟩ rfl ?_
          refine RW.no ⟨_, _, 52, _, rfl, rfl, rfl, fun h => by simp [undef] at h⟩ rfl ?_
          refine RW.no ⟨_, _, 52, _, rfl, rfl, rfl, fun h => by simp [undef] at h⟩ rfl ?_
          refine RW.no ⟨_, _, 52, _, rfl, rfl, rfl, fun h => by simp [undef] at h⟩ rfl ?_
          refine RW.no ⟨_, _, 58, _, rfl, rfl, rfl, fun h => by simp [undef] at h⟩ rfl ?_
          refine RW.no ⟨_, _, 58, _, rfl, rfl, rfl, fun h => by simp [undef] at h⟩ rfl ?_
          refine RW.no ⟨_, _, 58, _, rfl, rfl, rfl, fun h => by simp [undef] at h⟩ rfl ?_
          refine RW.no ⟨_, _, 58, _, rfl, rfl, rfl, fun h => by simp [undef] at h⟩ rfl ?_
          refine RW.no ⟨_, _, 58, _, rfl, rfl, rfl, fun h => by simp [undef] at h⟩ rfl ?_
          refine RW.no ⟨_, _, 52, _, rfl, rfl, rfl, fun h => by simp [undef] at h⟩ rfl ?_
          refine RW.no ⟨_, _, 46, _, rfl, rfl, rfl, fun h => by simp [undef] at h⟩ rfl ?_
          refine RW.y (.inl rfl) rfl (Yv.pickF rfl rfl) ?_
          refine RW.nil ?_
          refine PW.go ?_
          refine CW.condF rfl ?_
          refine CW.skip ?_
          refine PW.go ?_
          refine CW.region ?_
          refine RW.y (.inl rfl) rfl (Yv.move rfl) ?_
          refine RW.y (.inl rfl) rfl (Yv.loadK (vs := [_, _, _]) Tryz.isAgg79 Tryz.sizeOf79 rfl (CFs.whole 0 rfl)) ?_
          refine RW.o _ (.inl rfl) rfl (Ow.lit (len := 1) (vs := [_]) (cs := [_, _, _]) Tryz.underlying22 info79 rfl rfl rfl rfl rfl rfl rfl) ?_
          rintro _ _ ⟨b73, rfl, rfl⟩
          refine RW.o _ (.inl rfl) rfl (Ow.append 2 0 Tryz.underlying22 info79 rfl rfl rfl rfl rfl rfl rfl rfl (by omega) (by omega)) ?_
          rintro v74 _ rfl
          refine RW.y (.inl rfl) rfl (Yv.assign rfl) ?_
          refine RW.nil ?_
          refine PW.block ?_
          refine PW.go ?_
          refine CW.region ?_
          refine RW.y (.inl rfl) rfl (Yv.move rfl) ?_
          refine RW.y (.inl rfl) rfl (Yv.add rfl rfl (by omega)) ?_
          refine RW.y (.inl rfl) rfl (Yv.assign rfl) ?_
          refine RW.nil ?_
          have hO := (stepC (e := e) hx hok (by unfold keyEq; omega) (by first | (left; simpa using hc46) | (right; unfold keyLt; omega)))
          refine PW.mem _ (fun w h => h.row_eq (m' := (stepO l e (k + 1) d).length) (xs' := cellsE (stepO l e (k + 1) d)) 2 rfl (by rw [hO.1]; simp) (by rw [hO.1]; simp [cellsE_append]; simp [cellsE, encE])) ?_
          exact PW.next (k + 1, d, v74) (hO.2) ⟨rfl, rfl, rfl, rfl, rfl, rfl, trivial⟩ (fun w h => ((h).erase 0).erase 0) (by show l.length - (k + 1) < l.length - k; omega)
    ·
      refine RW.no ⟨_, _, 25, _, rfl, rfl, rfl, fun h => by simp [undef] at h⟩ rfl ?_
      refine RW.no ⟨_, _, 25, _, rfl, rfl, rfl, fun h => by simp [undef] at h⟩ rfl ?_
      refine RW.no ⟨_, _, 25, _, rfl, rfl, rfl, fun h => by simp [undef] at h⟩ rfl ?_
      refine RW.no ⟨_, _, 25, _, rfl, rfl, rfl, fun h => by simp [undef] at h⟩ rfl ?_
      refine RW.no ⟨_, _, 25, _, rfl, rfl, rfl, fun h => by simp [undef] at h⟩ rfl ?_
      refine RW.y (.inl rfl) rfl (Yv.pickF rfl rfl) ?_
      refine RW.nil ?_
      refine PW.go ?_
      refine CW.condF rfl ?_
      refine CW.seq ?_
      refine CW.region ?_
      refine RW.y (.inl rfl) rfl (Yv.move rfl) ?_
      refine RW.y (.inl rfl) rfl (Yv.not rfl) ?_
      refine RW.y (.inl rfl) rfl (Yv.move rfl) ?_
      refine RW.splitB 46 rfl (fun hc46 => ?_) (fun hc46 => ?_)
      ·
        refine RW.y (.inr ⟨_, _, 46, rfl, rfl, rfl⟩) rfl (Yv.fieldAddr Tryz.underlying79 rfl Tryz.sizeOf3 rfl rfl) ?_
        refine RW.y (.inr ⟨_, _, 46, rfl, rfl, rfl⟩) rfl (Yv.load1 Tryz.isAgg3 rfl (CF.blk 0 rfl rfl)) ?_
        refine RW.y (.inr ⟨_, _, 46, rfl, rfl, rfl⟩) rfl (Yv.fieldAddr Tryz.underlying79 rfl Tryz.sizeOf3 rfl rfl) ?_
        refine RW.y (.inr ⟨_, _, 46, rfl, rfl, rfl⟩) rfl (Yv.load1 Tryz.isAgg3 rfl (CF.blk 3 rfl rfl)) ?_
        refine RW.y (.inr ⟨_, _, 46, rfl, rfl, rfl⟩) rfl (Yv.gt rfl rfl) ?_
        refine RW.y (.inr ⟨_, _, 46, rfl, rfl, rfl⟩) rfl (Yv.move rfl) ?_
        refine RW.splitD 52 rfl (fun hc52 => ?_) (fun hc52 => ?_)
        ·
          refine RW.no ⟨_, _, 52, _, rfl, rfl, rfl, fun h => by simp [undef] at h⟩ rfl ?_
          refine RW.no ⟨_, _, 52, _, rfl, rfl, rfl, fun h => by simp [undef] at h⟩ rfl ?_
          refine RW.no ⟨_, _, 52, _, rfl, rfl, rfl, fun h => by simp [undef] at h⟩ rfl ?_
          refine RW.no ⟨_, _, 52, _, rfl, rfl, rfl, fun h => by simp [undef] at h⟩ rfl ?_
          refine RW.no ⟨_, _, 52, _, rfl, rfl, rfl, fun h => by simp [undef] at h⟩ rfl ?_
          refine RW.no ⟨_, _, 52, _, rfl, rfl, rfl, fun h => by simp [undef] at h⟩ rfl ?_
          refine RW.no ⟨_, _, 58, _, rfl, rfl, rfl, fun h => by simp [undef] at h⟩ rfl ?_
          refine RW.no ⟨_, _, 58, _, rfl, rfl, rfl, fun h => by simp [undef] at h⟩ rfl ?_
          refine RW.no ⟨_, _, 58, _, rfl, rfl, rfl, fun h => by simp [undef] at h⟩ rfl ?_
          refine RW.no ⟨_, _, 58, _, rfl, rfl, rfl, fun h => by simp [undef] at h⟩ rfl ?_
          refine RW.no ⟨_, _, 58, _, rfl, rfl, rfl, fun h => by simp [undef] at h⟩ rfl ?_
          refine RW.no ⟨_, _, 52, _, rfl, rfl, rfl, fun h => by simp [undef] at h⟩ rfl ?_
          refine RW.y (.inr ⟨_, _, 46, rfl, rfl, rfl⟩) rfl (Yv.pickT rfl rfl) ?_
          refine RW.y (.inl rfl) rfl (Yv.pickT rfl rfl) ?_
          refine RW.nil ?_
          refine PW.go ?_
          refine CW.condT rfl ?_
          refine CW.seq ?_
          refine CW.region ?_
          refine RW.y (.inl rfl) rfl (Yv.move rfl) ?_
          refine RW.y (.inl rfl) rfl (Yv.loadK (vs := [_, _, _]) Tryz.isAgg79 Tryz.sizeOf79 rfl (CFs.whole 3 rfl)) ?_
          refine RW.o _ (.inl rfl) rfl (Ow.lit (len := 1) (vs := [_]) (cs := [_, _, _]) Tryz.underlying22 info79 rfl rfl rfl rfl rfl rfl rfl) ?_
          rintro _ _ ⟨b69, rfl, rfl⟩
          refine RW.o _ (.inl rfl) rfl (Ow.append 2 0 Tryz.underlying22 info79 rfl rfl rfl rfl rfl rfl rfl rfl (by omega) (by omega)) ?_
          rintro v70 _ rfl
          refine RW.y (.inl rfl) rfl (Yv.assign rfl) ?_
          refine RW.nil ?_
          refine PW.go ?_
          refine CW.region ?_
          refine RW.y (.inl rfl) rfl (Yv.assign rfl) ?_
          refine RW.nil ?_
          refine PW.go ?_
          refine CW.region ?_
          refine RW.y (.inl rfl) rfl (Yv.move rfl) ?_
          refine RW.y (.inl rfl) rfl (Yv.loadK (vs := [_, _, _]) Tryz.isAgg79 Tryz.sizeOf79 rfl (CFs.whole 1 rfl)) ?_
          refine RW.o _ (.inl rfl) rfl (Ow.lit (len := 1) (vs := [_]) (cs := [_, _, _]) Tryz.underlying22 info79 rfl rfl rfl rfl rfl rfl rfl) ?_
          rintro _ _ ⟨b73, rfl, rfl⟩
          refine RW.o _ (.inl rfl) rfl (Ow.append 3 0 Tryz.underlying22 info79 rfl rfl rfl rfl rfl rfl rfl rfl (by omega) (by omega)) ?_
          rintro v74 _ rfl
          refine RW.y (.inl rfl) rfl (Yv.assign rfl) ?_
          refine RW.nil ?_
          refine PW.block ?_
          refine PW.go ?_
          refine CW.region ?_
          refine RW.y (.inl rfl) rfl (Yv.move rfl) ?_
          refine RW.y (.inl rfl) rfl (Yv.add rfl rfl (by omega)) ?_
          refine RW.y (.inl rfl) rfl (Yv.assign rfl) ?_
          refine RW.nil ?_
          obtain rfl : d = false := by simpa using hc46
          have hO := (stepB (e := e) hx hok (by unfold keyEq; omega) (by unfold keyLt; omega))
          refine PW.mem _ (fun w h => h.row_eq (m' := (stepO l e (k + 1) true).length) (xs' := cellsE (stepO l e (k + 1) true)) 3 rfl (by rw [hO.1]; simp) (by rw [hO.1]; simp [cellsE_append]; simp [cellsE, encE])) ?_
          exact PW.next (k + 1, true, v74) (hO.2) ⟨rfl, rfl, rfl, rfl, rfl, rfl, trivial⟩ (fun w h => (((h).erase 0).erase 0).erase 0) (by show l.length - (k + 1) < l.length - k; omega)
        ·
          refine RW.y (.inr ⟨_, _, 52, rfl, rfl, rfl⟩) rfl (Yv.fieldAddr Tryz.underlying79 rfl Tryz.sizeOf3 rfl rfl) ?_
          refine RW.y (.inr ⟨_, _, 52, rfl, rfl, rfl⟩) rfl (Yv.load1 Tryz.isAgg3 rfl (CF.blk 0 rfl rfl)) ?_
          refine RW.y (.inr ⟨_, _, 52, rfl, rfl, rfl⟩) rfl (Yv.fieldAddr Tryz.underlying79 rfl Tryz.sizeOf3 rfl rfl) ?_
          refine RW.y (.inr ⟨_, _, 52, rfl, rfl, rfl⟩) rfl (Yv.load1 Tryz.isAgg3 rfl (CF.blk 3 rfl rfl)) ?_
          refine RW.y (.inr ⟨_, _, 52, rfl, rfl, rfl⟩) rfl (Yv.eq rfl rfl) ?_
          refine RW.y (.inr ⟨_, _, 52, rfl, rfl, rfl⟩) rfl (Yv.move rfl) ?_
          refine RW.splitD 58 rfl (fun hc58 => ?_) (fun hc58 => ?_)
          ·
            refine RW.y (.inr ⟨_, _, 58, rfl, rfl, rfl⟩) rfl (Yv.fieldAddr Tryz.underlying79 rfl Tryz.sizeOf3 rfl rfl) ?_
            refine RW.y (.inr ⟨_, _, 58, rfl, rfl, rfl⟩) rfl (Yv.load1 Tryz.isAgg3 rfl (CF.blk 0 rfl rfl)) ?_
            refine RW.y (.inr ⟨_, _, 58, rfl, rfl, rfl⟩) rfl (Yv.fieldAddr Tryz.underlying79 rfl Tryz.sizeOf3 rfl rfl) ?_
            refine RW.y (.inr ⟨_, _, 58, rfl, rfl, rfl⟩) rfl (Yv.load1 Tryz.isAgg3 rfl (CF.blk 3 rfl rfl)) ?_
            refine RW.y (.inr ⟨_, _, 58, rfl, rfl, rfl⟩) rfl (Yv.gt rfl rfl) ?_
            refine RW.y (.inr ⟨_, _, 52, rfl, rfl, rfl⟩) rfl (Yv.pickT rfl rfl) ?_
            refine RW.y (.inr ⟨_, _, 46, rfl, rfl, rfl⟩) rfl (Yv.pickF rfl rfl) ?_
            refine RW.y (.inl rfl) rfl (Yv.pickT rfl rfl) ?_
            refine RW.nil ?_
            refine PW.go ?_
            refine CW.condD rfl (fun hc66 => ?_) (fun hc66 => ?_)
            ·
              refine CW.seq ?_
              refine CW.region ?_
              refine RW.y (.inl rfl) rfl (Yv.move rfl) ?_
              refine RW.y (.inl rfl) rfl (Yv.loadK (vs := [_, _, _]) Tryz.isAgg79 Tryz.sizeOf79 rfl (CFs.whole 3 rfl)) ?_
              refine RW.o _ (.inl rfl) rfl (Ow.lit (len := 1) (vs := [_]) (cs := [_, _, _]) Tryz.underlying22 info79 rfl rfl rfl rfl rfl rfl rfl) ?_
              rintro _ _ ⟨b69, rfl, rfl⟩
              refine RW.o _ (.inl rfl) rfl (Ow.append 2 0 Tryz.underlying22 info79 rfl rfl rfl rfl rfl rfl rfl rfl (by omega) (by omega)) ?_
              rintro v70 _ rfl
              refine RW.y (.inl rfl) rfl (Yv.assign rfl) ?_
              refine RW.nil ?_
              refine PW.go ?_
              refine CW.region ?_
              refine RW.y (.inl rfl) rfl (Yv.assign rfl) ?_
              refine RW.nil ?_
              refine PW.go ?_
              refine CW.region ?_
              refine RW.y (.inl rfl) rfl (Yv.move rfl) ?_
              refine RW.y (.inl rfl) rfl (Yv.loadK (vs := [_, _, _]) Tryz.isAgg79 Tryz.sizeOf79 rfl (CFs.whole 1 rfl)) ?_
              refine RW.o _ (.inl rfl) rfl (Ow.lit (len := 1) (vs := [_]) (cs := [_, _, _]) Tryz.underlying22 info79 rfl rfl rfl rfl rfl rfl rfl) ?_
              rintro _ _ ⟨b73, rfl, rfl⟩
              refine RW.o _ (.inl rfl) rfl (Ow.append 3 0 Tryz.underlying22 info79 rfl rfl rfl rfl rfl rfl rfl rfl (by omega) (by omega)) ?_
              rintro v74 _ rfl
              refine RW.y (.inl rfl) rfl (Yv.assign rfl) ?_
              refine RW.nil ?_
              refine PW.block ?_
              refine PW.go ?_
              refine CW.region ?_
              refine RW.y (.inl rfl) rfl (Yv.move rfl) ?_
              refine RW.y (.inl rfl) rfl (Yv.add rfl rfl (by omega)) ?_
              refine RW.y (.inl rfl) rfl (Yv.assign rfl) ?_
              refine RW.nil ?_
              obtain rfl : d = false := by simpa using hc46
              have hO := (stepB (e := e) hx hok (by unfold keyEq; omega) (by unfold keyLt; omega))
              refine PW.mem _ (fun w h => h.row_eq (m' := (stepO l e (k + 1) true).length) (xs' := cellsE (stepO l e (k + 1) true)) 3 rfl (by rw [hO.1]; simp) (by rw [hO.1]; simp [cellsE_append]; simp [cellsE, encE])) ?_
              exact PW.next (k + 1, true, v74) (hO.2) ⟨rfl, rfl, rfl, rfl, rfl, rfl, trivial⟩ (fun w h => (((h).erase 0).erase 0).erase 0) (by show l.length - (k + 1) < l.length - k; omega)
            ·
              refine CW.skip ?_
              refine PW.go ?_
              refine CW.region ?_
              refine RW.y (.inl rfl) rfl (Yv.move rfl) ?_
              refine RW.y (.inl rfl) rfl (Yv.loadK (vs := [_, _, _]) Tryz.isAgg79 Tryz.sizeOf79 rfl (CFs.whole 0 rfl)) ?_
              refine RW.o _ (.inl rfl) rfl (Ow.lit (len := 1) (vs := [_]) (cs := [_, _, _]) Tryz.underlying22 info79 rfl rfl rfl rfl rfl rfl rfl) ?_
              rintro _ _ ⟨b73, rfl, rfl⟩
              refine RW.o _ (.inl rfl) rfl (Ow.append 2 0 Tryz.underlying22 info79 rfl rfl rfl rfl rfl rfl rfl rfl (by omega) (by omega)) ?_
              rintro v74 _ rfl
              refine RW.y (.inl rfl) rfl (Yv.assign rfl) ?_
              refine RW.nil ?_
              refine PW.block ?_
              refine PW.go ?_
              refine CW.region ?_
              refine RW.y (.inl rfl) rfl (Yv.move rfl) ?_
              refine RW.y (.inl rfl) rfl (Yv.add rfl rfl (by omega)) ?_
              refine RW.y (.inl rfl) rfl (Yv.assign rfl) ?_
              refine RW.nil ?_
              have hO := (stepC (e := e) hx hok (by unfold keyEq; omega) (by first | (left; simpa using hc46) | (right; unfold keyLt; omega)))
              refine PW.mem _ (fun w h => h.row_eq (m' := (stepO l e (k + 1) d).length) (xs' := cellsE (stepO l e (k + 1) d)) 2 rfl (by rw [hO.1]; simp) (by rw [hO.1]; simp [cellsE_append]; simp [cellsE, encE])) ?_
              exact PW.next (k + 1, d, v74) (hO.2) ⟨rfl, rfl, rfl, rfl, rfl, rfl, trivial⟩ (fun w h => ((h).erase 0).erase 0) (by show l.length - (k + 1) < l.length - k; omega)
          ·
            refine RW.no ⟨_, _, 58, _, rfl, rfl, rfl, fun h => by simp [undef] at h⟩ rfl ?_
            refine RW.no ⟨_, _, 58, _, rfl, rfl, rfl, fun h => by simp [undef] at h⟩ rfl ?_
            refine RW.no ⟨_, _, 58, _, rfl, rfl, rfl, fun h => by simp [undef] at h⟩ rfl ?_
            refine RW.no ⟨_, _, 58, _, rfl, rfl, rfl, fun h => by simp [undef] at h⟩ rfl ?_
            refine RW.no ⟨_, _, 58, _, rfl, rfl, rfl, fun h => by simp [undef] at h⟩ rfl ?_
            refine RW.y (.inr ⟨_, _, 52, rfl, rfl, rfl⟩) rfl (Yv.pickF rfl rfl) ?_
            refine RW.y (.inr ⟨_, _, 46, rfl, rfl, rfl⟩) rfl (Yv.pickF rfl rfl) ?_
            refine RW.y (.inl rfl) rfl (Yv.pickT rfl rfl) ?_
            refine RW.nil ?_
            refine PW.go ?_
            refine CW.condF rfl ?_
            refine CW.skip ?_
            refine PW.go ?_
            refine CW.region ?_
            refine RW.y (.inl rfl) rfl (Yv.move rfl) ?_
            refine RW.y (.inl rfl) rfl (Yv.loadK (vs := [_, _, _]) Tryz.isAgg79 Tryz.sizeOf79 rfl (CFs.whole 0 rfl)) ?_
            refine RW.o _ (.inl rfl) rfl (Ow.lit (len := 1) (vs := [_]) (cs := [_, _, _]) Tryz.underlying22 info79 rfl rfl rfl rfl rfl rfl rfl) ?_
            rintro _ _ ⟨b73, rfl, rfl⟩
            refine RW.o _ (.inl rfl) rfl (Ow.append 2 0 Tryz.underlying22 info79 rfl rfl rfl rfl rfl rfl rfl rfl (by omega) (by omega)) ?_
            rintro v74 _ rfl
            refine RW.y (.inl rfl) rfl (Yv.assign rfl) ?_
            refine RW.nil ?_
            refine PW.block ?_
            refine PW.go ?_
            refine CW.region ?_
            refine RW.y (.inl rfl) rfl (Yv.move rfl) ?_
            refine RW.y (.inl rfl) rfl (Yv.add rfl rfl (by omega)) ?_
            refine RW.y (.inl rfl) rfl (Yv.assign rfl) ?_
            refine RW.nil ?_
            have hO := (stepC (e := e) hx hok (by unfold keyEq; omega) (by first | (left; simpa using hc46) | (right; unfold keyLt; omega)))
            refine PW.mem _ (fun w h => h.row_eq (m' := (stepO l e (k + 1) d).length) (xs' := cellsE (stepO l e (k + 1) d)) 2 rfl (by rw [hO.1]; simp) (by rw [hO.1]; simp [cellsE_append]; simp [cellsE, encE])) ?_
            exact PW.next (k + 1, d, v74) (hO.2) ⟨rfl, rfl, rfl, rfl, rfl, rfl, trivial⟩ (fun w h => ((h).erase 0).erase 0) (by show l.length - (k + 1) < l.length - k; omega)
      ·
        refine RW.no ⟨_, _, 46, _, rfl, rfl, rfl, fun h => by simp [undef] at h⟩ rfl ?_
        refine RW.no ⟨_, _, 46, _, rfl, rfl, rfl, fun h => by simp [undef] at h⟩ rfl ?_
        refine RW.no ⟨_, _, 46, _, rfl, rfl, rfl, fun h => by simp [undef] at h⟩ rfl ?_
        refine RW.no ⟨_, _, 46, _, rfl, rfl, rfl, fun h => by simp [undef] at h⟩ rfl ?_
        refine RW.no ⟨_, _, 46, _, rfl, rfl, rfl, fun h => by simp [undef] at h⟩ rfl ?_
        refine RW.no ⟨_, _, 46, _, rfl, rfl, rfl, fun h => by simp [undef] at h⟩ rfl ?_
        refine RW.no ⟨_, _, 52, _, rfl, rfl, rfl, fun h => by simp [undef] at h⟩ rfl ?_
        refine RW.no ⟨_, _, 52, _, rfl, rfl, rfl, fun h => by simp [undef] at h⟩ rfl ?_
        refine RW.no ⟨_, _, 52, _, rfl, rfl, rfl, fun h => by simp [undef] at h⟩ rfl ?_
        refine RW.no ⟨_, _, 52, _, rfl, rfl, rfl, fun h => by simp [undef] at h⟩ rfl ?_
        refine RW.no ⟨_, _, 52, _, rfl, rfl, rfl, fun h => by simp [undef] at h⟩ rfl ?_
        refine RW.no ⟨_, _, 52, _, rfl, rfl, rfl, fun h => by simp [undef] at h⟩ rfl ?_
        refine RW.no ⟨_, _, 58, _, rfl, rfl, rfl, fun h => by simp [undef] at h⟩ rfl ?_
        refine RW.no ⟨_, _, 58, _, rfl, rfl, rfl, fun h => by simp [undef] at h⟩ rfl ?_
        refine RW.no ⟨_, _, 58, _, rfl, rfl, rfl, fun h => by simp [undef] at h⟩ rfl ?_
        refine RW.no ⟨_, _, 58, _, rfl, rfl, rfl, fun h => by simp [undef] at h⟩ rfl ?_
        refine RW.no ⟨_, _, 58, _, rfl, rfl, rfl, fun h => by simp [undef] at h⟩ rfl ?_
        refine RW.no ⟨_, _, 52, _, rfl, rfl, rfl, fun h => by simp [undef] at h⟩ rfl ?_
        refine RW.no ⟨_, _, 46, _, rfl, rfl, rfl, fun h => by simp [undef] at h⟩ rfl ?_
        refine RW.y (.inl rfl) rfl (Yv.pickF rfl rfl) ?_
        refine RW.nil ?_
        refine PW.go ?_
        refine CW.condF rfl ?_
        refine CW.skip ?_
        refine PW.go ?_
        refine CW.region ?_
        refine RW.y (.inl rfl) rfl (Yv.move rfl) ?_
        refine RW.y (.inl rfl) rfl (Yv.loadK (vs := [_, _, _]) Tryz.isAgg79 Tryz.sizeOf79 rfl (CFs.whole 0 rfl)) ?_
        refine RW.o _ (.inl rfl) rfl (Ow.lit (len := 1) (vs := [_]) (cs := [_, _, _]) Tryz.underlying22 info79 rfl rfl rfl rfl rfl rfl rfl) ?_
        rintro _ _ ⟨b73, rfl, rfl⟩
        refine RW.o _ (.inl rfl) rfl (Ow.append 2 0 Tryz.underlying22 info79 rfl rfl rfl rfl rfl rfl rfl rfl (by omega) (by omega)) ?_
        rintro v74 _ rfl
        refine RW.y (.inl rfl) rfl (Yv.assign rfl) ?_
        refine RW.nil ?_
        refine PW.block ?_
        refine PW.go ?_
        refine CW.region ?_
        refine RW.y (.inl rfl) rfl (Yv.move rfl) ?_
        refine RW.y (.inl rfl) rfl (Yv.add rfl rfl (by omega)) ?_
        refine RW.y (.inl rfl) rfl (Yv.assign rfl) ?_
        refine RW.nil ?_
        have hO := (stepC (e := e) hx hok (by unfold keyEq; omega) (by first | (left; simpa using hc46) | (right; unfold keyLt; omega)))
        refine PW.mem _ (fun w h => h.row_eq (m' := (stepO l e (k + 1) d).length) (xs' := cellsE (stepO l e (k + 1) d)) 2 rfl (by rw [hO.1]; simp) (by rw [hO.1]; simp [cellsE_append]; simp [cellsE, encE])) ?_
        exact PW.next (k + 1, d, v74) (hO.2) ⟨rfl, rfl, rfl, rfl, rfl, rfl, trivial⟩ (fun w h => ((h).erase 0).erase 0) (by show l.length - (k + 1) < l.length - k; omega)
  ·
    refine CW.exit ?_
    refine PW.then_exit ?_
    refine PW.then_exit ?_
    refine PW.block_exit ?_
    refine PW.go ?_
    refine CW.seq ?_
    refine CW.seq ?_
    obtain rfl : k = l.length := by omega
    have hend := stepEnd hok
    refine CW.region ?_
    refine RW.y (.inl rfl) rfl (Yv.move rfl) ?_
    refine RW.y (.inl rfl) rfl (Yv.not rfl) ?_
    refine RW.nil ?_
    refine PW.go ?_
    refine CW.cond rfl (fun hc76 => ?_) (fun hc76 => ?_)
    ·
      refine CW.region ?_
      refine RW.y (.inl rfl) rfl (Yv.move rfl) ?_
      refine RW.y (.inl rfl) rfl (Yv.loadK (vs := [_, _, _]) Tryz.isAgg79 Tryz.sizeOf79 rfl (CFs.whole 2 rfl)) ?_
      refine RW.o _ (.inl rfl) rfl (Ow.lit (len := 1) (vs := [_]) (cs := [_, _, _]) Tryz.underlying22 info79 rfl rfl rfl rfl rfl rfl rfl) ?_
      rintro _ _ ⟨b79, rfl, rfl⟩
      refine RW.o _ (.inl rfl) rfl (Ow.append 1 0 Tryz.underlying22 info79 rfl rfl rfl rfl rfl rfl rfl rfl (by omega) (by omega)) ?_
      rintro v80 _ rfl
      refine RW.y (.inl rfl) rfl (Yv.assign rfl) ?_
      refine RW.nil ?_
      refine PW.go ?_
      refine CW.seq ?_
      obtain rfl : d = false := by simpa using hc76
      have hend' : addE l e = stepO l e l.length false ++ [e] := by simpa using hend
      refine CW.mem _ (fun w h => h.row_eq (m' := (addE l e).length) (xs' := cellsE (addE l e)) 1 rfl (by rw [hend']; simp) (by rw [hend']; simp [cellsE_append]; simp [cellsE, encE])) ?_
      refine CW.facts _ (fun w h => h.row_slice 1 rfl) ?_
      rintro ⟨Ao, co, rfl⟩
      refine CW.region ?_
      refine RW.y (.inl rfl) rfl (Yv.move rfl) ?_
      refine RW.y (.inl rfl) rfl (Yv.build rfl (fun w => by exact bld98_0_1 _ _ _ _ w)) ?_
      refine RW.o _ (.inl rfl) rfl (Ow.storeW (vs := [_, _]) 2 Tryz.sizeOf98 rfl rfl (rfl) rfl (rfl)) ?_
      rintro _ _ ⟨rfl, rfl⟩
      refine RW.nil ?_
      refine PW.go ?_
      refine CW.ret ?_
      refine PW.retC (vs := [_, _]) Tryz.results94 rfl Tryz.isAgg98 Tryz.sizeOf98 (CFs.whole 2 rfl) (fun w1 hs => ?_)
      obtain ⟨F, hF, hk⟩ := hs.out 1 rfl
      exact ⟨(Ao, co), rfl, hs.mod.below, F, hF, hk⟩
    ·
      refine CW.skip ?_
      refine PW.go ?_
      refine CW.seq ?_
      obtain rfl : d = true := by simpa using hc76
      have hend' : addE l e = stepO l e l.length true := by simpa using hend
      refine CW.mem _ (fun w h => h.row_eq (m' := (addE l e).length) (xs' := cellsE (addE l e)) 0 rfl (by rw [hend']) (by rw [hend'])) ?_
      refine CW.facts _ (fun w h => h.row_slice 0 rfl) ?_
      rintro ⟨Ao, co, rfl⟩
      refine CW.region ?_
      refine RW.y (.inl rfl) rfl (Yv.move rfl) ?_
      refine RW.y (.inl rfl) rfl (Yv.build rfl (fun w => by exact bld98_0_1 _ _ _ _ w)) ?_
      refine RW.o _ (.inl rfl) rfl (Ow.storeW (vs := [_, _]) 1 Tryz.sizeOf98 rfl rfl (rfl) rfl (rfl)) ?_
      rintro _ _ ⟨rfl, rfl⟩
      refine RW.nil ?_
      refine PW.go ?_
      refine CW.ret ?_
      refine PW.retC (vs := [_, _]) Tryz.results94 rfl Tryz.isAgg98 Tryz.sizeOf98 (CFs.whole 1 rfl) (fun w1 hs => ?_)
      obtain ⟨F, hF, hk⟩ := hs.out 0 rfl
      exact ⟨(Ao, co), rfl, hs.mod.below, F, hF, hk⟩

set_option maxRecDepth 100000 in
theorem ref15Merge (A : Option Addr) (c : Nat) (l : List Edg) (w : World) (hr : Rd w A 3 l.length (cellsE l)) (hnn : nonneg l) (htot : totalW l ≤ 2305843009213693952) (hlen : l.length ≤ 1073741824) : Calls Tryz.prog 45 #[.slice A l.length c] w fun en w1 => ∃ p : Option Addr × Nat, en = .returned (.agg #[.slice p.1 (mergeL l).length p.2, .bool true]) ∧ Gr w w1 ∧ ∃ F, (row (.slice p.1 (mergeL l).length p.2) 79 3 (mergeL l).length (cellsE (mergeL l))).holds w1 F ∧ ∀ k, F k → w.heap.size ≤ k ∧ k < w1.heap.size := by
  refine CW.enter (P := Tryz.prog) (F0 := none0) (L := [(0, _)]) 59 [] Tryz.func45 rfl Tryz.ntmps45 (Nat.le_of_ble_eq_true rfl) (St.start w none0) rfl ?_
  refine CW.seq ?_
  refine CW.region ?_
  refine RW.o _ (.inl rfl) rfl (Ow.alloc (cs := [_, _]) Tryz.zeroValue98 rfl) ?_
  rintro _ _ ⟨b2, rfl, rfl⟩
  refine RW.nil ?_
  refine PW.go ?_
  refine CW.seq ?_
  refine CW.region ?_
  refine RW.mem _ (fun w h => h.emptyRow 79 3) ?_
  refine RW.y (.inl rfl) rfl (Yv.assign rfl) ?_
  refine RW.nil ?_
  refine PW.go ?_
  refine CW.seq ?_
  refine CW.seq ?_
  refine CW.region ?_
  refine RW.y (.inl rfl) rfl (Yv.assign rfl) ?_
  refine RW.nil ?_
  refine PW.go ?_
  refine CW.block ?_
  refine CW.loop (σ := Nat × Option Addr × Nat) (fun s => s.1 ≤ l.length) (fun s => [(0, .slice A l.length c), (2, .pointer (some ⟨b2, 0, none⟩)), (3, .slice s.2.1 (sumAll (l.take s.1)).length s.2.2), (4, .int .i64 (s.1 : Nat))]) (fun s => [row (.slice s.2.1 (sumAll (l.take s.1)).length s.2.2) 79 3 (sumAll (l.take s.1)).length (cellsE (sumAll (l.take s.1))), blk b2 [.slice none 0 0, .bool false] 98]) (fun s => l.length - s.1) (0, none, 0) (by simp) ⟨rfl, rfl, rfl, rfl, trivial⟩ (fun w h => h) ?_
  rintro ⟨k, a, ca⟩ hkle
  (try dsimp only at *)
  obtain ⟨hso, hsl, hsn⟩ := sumAll_ok (l.take k)
  obtain ⟨hsnn, hst⟩ := hsn (nonneg_take hnn k)
  have htk := total_take hnn k
  have hlt := List.length_take_le k l
  refine CW.seq ?_
  refine CW.seq ?_
  refine CW.region ?_
  refine RW.y (.inl rfl) rfl (Yv.move rfl) ?_
  refine RW.y (.inl rfl) rfl (Yv.move rfl) ?_
  refine RW.y (.inl rfl) rfl (Yv.len Tryz.underlying22 rfl) ?_
  refine RW.y (.inl rfl) rfl (Yv.lt rfl rfl) ?_
  refine RW.nil ?_
  refine PW.go ?_
  refine CW.condD rfl (fun hc11 => ?_) (fun hc11 => ?_)
  ·
    refine CW.skip ?_
    refine PW.go ?_
    refine CW.seq ?_
    refine CW.block ?_
    refine CW.seq ?_
    have hkl : k < l.length := by omega
    obtain ⟨b, o, rfl, hb, hc⟩ := hr.2.2 (by omega)
    obtain ⟨x, hx⟩ : ∃ x, l[k]? = some x := ⟨_, List.getElem?_eq_getElem hkl⟩
    have hcx := cellsE_get l k x hx
    have hxw := hnn x (List.mem_of_getElem? hx)
    refine CW.draw0 mixed ?_
    refine HW.take 0 rfl (by kernel_rfl) (by kernel_rfl) (by kernel_rfl) (fun _ _ _ h => h) (.inl rfl) rfl (fun _ h => h) (Yv.move rfl) ?_
    refine HW.take 1 rfl (by kernel_rfl) (by kernel_rfl) (by kernel_rfl) (fun _ _ _ h => h) (.inl rfl) rfl (fun _ h => h) (Yv.move rfl) ?_
    refine HW.take 2 rfl (by kernel_rfl) (by kernel_rfl) (by kernel_rfl) (fun _ _ _ h => h) (.inl rfl) rfl (fun _ h => h) (Yv.indexK Tryz.underlying22 Tryz.sizeOf79 rfl rfl (by omega) (by omega)) ?_
    refine HW.take 3 rfl (by kernel_rfl) (by kernel_rfl) (by kernel_rfl) (fun _ _ _ h => h) (.inl rfl) rfl (fun _ h => h) (Yv.fieldAddr Tryz.underlying79 rfl Tryz.sizeOf3 rfl rfl) ?_
    refine HW.take 4 rfl (by kernel_rfl) (by kernel_rfl) (by kernel_rfl) (fun _ _ _ h => h) (.inl rfl) rfl (fun _ h => h) (Yv.load1 Tryz.isAgg3 rfl (CF.old (hc _ _ (hcx 0 _ rfl)) (not_none0 _))) ?_
    refine HW.take 5 rfl (by kernel_rfl) (by kernel_rfl) (by kernel_rfl) (fun _ _ _ h => h) (.inl rfl) rfl (fun _ h => h) (Yv.move rfl) ?_
    refine HW.take 6 rfl (by kernel_rfl) (by kernel_rfl) (by kernel_rfl) (fun _ _ _ h => h) (.inl rfl) rfl (fun _ h => h) (Yv.move rfl) ?_
    refine HW.take 7 rfl (by kernel_rfl) (by kernel_rfl) (by kernel_rfl) (fun _ _ _ h => h) (.inl rfl) rfl (fun _ h => h) (Yv.indexK Tryz.underlying22 Tryz.sizeOf79 rfl rfl (by omega) (by omega)) ?_
    refine HW.take 8 rfl (by kernel_rfl) (by kernel_rfl) (by kernel_rfl) (fun _ _ _ h => h) (.inl rfl) rfl (fun _ h => h) (Yv.fieldAddr Tryz.underlying79 rfl Tryz.sizeOf3 rfl rfl) ?_
    refine HW.take 9 rfl (by kernel_rfl) (by kernel_rfl) (by kernel_rfl) (fun _ _ _ h => h) (.inl rfl) rfl (fun _ h => h) (Yv.load1 Tryz.isAgg3 rfl (CF.old (hc _ _ (hcx 1 _ rfl)) (not_none0 _))) ?_
    refine HW.take 10 rfl (by kernel_rfl) (by kernel_rfl) (by kernel_rfl) (fun _ _ _ h => h) (.inl rfl) rfl (fun _ h => h) (Yv.ne rfl rfl) ?_
    refine HW.done (by kernel_rfl) ?_
    refine PW.go ?_
    refine CW.condD rfl (fun hc24 => ?_) (fun hc24 => ?_)
    ·
      refine CW.seq ?_
      refine CW.region ?_
      refine RW.y (.inl rfl) rfl (Yv.move rfl) ?_
      refine RW.y (.inl rfl) rfl (Yv.move rfl) ?_
      refine RW.y (.inl rfl) rfl (Yv.move rfl) ?_
      refine RW.y (.inl rfl) rfl (Yv.indexK Tryz.underlying22 Tryz.sizeOf79 rfl rfl (by omega) (by omega)) ?_
      refine RW.y (.inl rfl) rfl (Yv.loadK (vs := [_, _, _]) Tryz.isAgg79 Tryz.sizeOf79 rfl (CFs.old (vs := encE x) (fun j v hj => by rw [add_plain', Nat.add_assoc]; exact hc _ v (hcx j v hj)) (fun _ _ _ => not_none0 _))) ?_
      refine RW.o _ (.inl rfl) rfl (Ow.call e95 rfl (C.val (fun w hs => ref15Normal x _))) ?_
      rintro _ _ ⟨rfl, rfl⟩
      refine RW.o _ (.inl rfl) rfl (Ow.call e94 rfl (C.new (val := fun (p : Option Addr × Nat) => .agg #[.slice p.1 (addE (sumAll (l.take k)) (normE x)).length p.2, .bool true]) (φ := fun _ => True) (Ψ := fun p => row (.slice p.1 (addE (sumAll (l.take k)) (normE x)).length p.2) 79 3 (addE (sumAll (l.take k)) (normE x)).length (cellsE (addE (sumAll (l.take k)) (normE x)))) (fun w2 hs => (ref15Add a ca _ (normE x) w2 (hs.row_Rd 0 rfl (by omega)) hso (fun z hz => ⟨hsnn z hz, by have := le_total hsnn hz; have := le_total hnn (List.mem_of_getElem? hx); rw [normE_w]; omega⟩) (by rw [normE_w]; omega) (by omega)).mono (fun en w3 ⟨p, he, hb, F, hF, hk⟩ => ⟨p, trivial, he, hb, F, hF, hk⟩)))) ?_
      rintro _ _ ⟨⟨a2, c2⟩, -, rfl, rfl⟩
      refine RW.o _ (.inl rfl) rfl (Ow.alloc (cs := [_, _]) Tryz.zeroValue98 rfl) ?_
      rintro _ _ ⟨b5, rfl, rfl⟩
      refine RW.o _ (.inl rfl) rfl (Ow.storeW (vs := [_, _]) 0 Tryz.sizeOf98 rfl rfl (rfl) rfl (rfl)) ?_
      rintro _ _ ⟨rfl, rfl⟩
      refine RW.nil ?_
      refine PW.go ?_
      refine CW.seq ?_
      refine CW.seq ?_
      refine CW.region ?_
      refine RW.y (.inl rfl) rfl (Yv.fieldAddr Tryz.underlying98 rfl Tryz.sizeOf4 rfl rfl) ?_
      refine RW.y (.inl rfl) rfl (Yv.load1 Tryz.isAgg4 rfl (CF.blk 0 rfl rfl)) ?_
      refine RW.y (.inl rfl) rfl (Yv.not rfl) ?_
      refine RW.nil ?_
      refine PW.go ?_
      refine CW.cond rfl (fun hc34 => ?_) (fun hc34 => ?_)
      ·
        cases hc34
      ·
        refine CW.skip ?_
        refine PW.go ?_
        refine CW.region ?_
        refine RW.y (.inl rfl) rfl (Yv.fieldAddr Tryz.underlying98 rfl Tryz.sizeOf22 rfl rfl) ?_
        refine RW.y (.inl rfl) rfl (Yv.load1 Tryz.isAgg22 rfl (CF.blk 0 rfl rfl)) ?_
        refine RW.y (.inl rfl) rfl (Yv.assign rfl) ?_
        refine RW.nil ?_
        refine PW.block ?_
        refine PW.go ?_
        refine CW.region ?_
        refine RW.y (.inl rfl) rfl (Yv.move rfl) ?_
        refine RW.y (.inl rfl) rfl (Yv.add rfl rfl (by omega)) ?_
        refine RW.y (.inl rfl) rfl (Yv.assign rfl) ?_
        refine RW.nil ?_
        have hO : sumAll (l.take (k + 1)) = addE (sumAll (l.take k)) (normE x) := by rw [take_snoc hx, sumAll_snoc, if_pos (by simpa using hc24)]
        rw [← hO]
        exact PW.next (k + 1, a2, c2) (by show k + 1 ≤ l.length; omega) ⟨rfl, rfl, rfl, rfl, trivial⟩ (fun w h => ((h).erase 0).erase 1) (by show l.length - (k + 1) < l.length - k; omega)
    ·
      refine CW.skip ?_
      refine PW.block ?_
      refine PW.go ?_
      refine CW.region ?_
      refine RW.y (.inl rfl) rfl (Yv.move rfl) ?_
      refine RW.y (.inl rfl) rfl (Yv.add rfl rfl (by omega)) ?_
      refine RW.y (.inl rfl) rfl (Yv.assign rfl) ?_
      refine RW.nil ?_
      have hO : sumAll (l.take (k + 1)) = sumAll (l.take k) := by rw [take_snoc hx, sumAll_snoc, if_neg (by simpa using hc24)]
      rw [← hO]
      exact PW.next (k + 1, a, ca) (by show k + 1 ≤ l.length; omega) ⟨rfl, rfl, rfl, rfl, trivial⟩ (fun w h => h) (by show l.length - (k + 1) < l.length - k; omega)
  ·
    refine CW.exit ?_
    refine PW.then_exit ?_
    refine PW.then_exit ?_
    refine PW.block_exit ?_
    refine PW.go ?_
    refine CW.seq ?_
    obtain rfl : k = l.length := by omega
    have hO : sumAll (l.take l.length) = sumAll l := by simp
    rw [hO] at hsl hso hsnn ⊢
    refine CW.region ?_
    refine RW.mem _ (fun w h => h.emptyRow 79 3) ?_
    refine RW.y (.inl rfl) rfl (Yv.assign rfl) ?_
    refine RW.nil ?_
    refine PW.go ?_
    refine CW.seq ?_
    refine CW.seq ?_
    refine CW.region ?_
    refine RW.y (.inl rfl) rfl (Yv.assign rfl) ?_
    refine RW.nil ?_
    refine PW.go ?_
    refine CW.block ?_
    refine CW.loop (σ := Nat × Value) (fun s => s.1 ≤ (sumAll l).length) (fun s => [(2, .pointer (some ⟨b2, 0, none⟩)), (3, .slice a (sumAll l).length ca), (6, s.2), (7, .int .i64 (s.1 : Nat))]) (fun s => [row s.2 79 3 (((sumAll l).take s.1).filter (fun e => e.w ≠ 0)).length (cellsE (((sumAll l).take s.1).filter (fun e => e.w ≠ 0))), row (.slice a (sumAll l).length ca) 79 3 (sumAll l).length (cellsE (sumAll l)), blk b2 [.slice none 0 0, .bool false] 98]) (fun s => (sumAll l).length - s.1) (0, .slice none 0 0) (by simp) ⟨rfl, rfl, rfl, rfl, trivial⟩ (fun w h => h) ?_
    rintro ⟨j, v⟩ hjle
    (try dsimp only at *)
    have hfl : (((sumAll l).take j).filter (fun e => e.w ≠ 0)).length ≤ (sumAll l).length := Nat.le_trans (List.length_filter_le _ _) (by simp; omega)
    refine CW.seq ?_
    refine CW.seq ?_
    refine CW.region ?_
    refine RW.y (.inl rfl) rfl (Yv.move rfl) ?_
    refine RW.y (.inl rfl) rfl (Yv.move rfl) ?_
    refine RW.y (.inl rfl) rfl (Yv.len Tryz.underlying22 rfl) ?_
    refine RW.y (.inl rfl) rfl (Yv.lt rfl rfl) ?_
    refine RW.nil ?_
    refine PW.go ?_
    refine CW.condD rfl (fun hc41 => ?_) (fun hc41 => ?_)
    ·
      refine CW.skip ?_
      refine PW.go ?_
      refine CW.seq ?_
      refine CW.block ?_
      refine CW.seq ?_
      have hjl : j < (sumAll l).length := by omega
      refine CW.facts _ (fun w h => h.row_some 1 rfl (by omega)) ?_
      rintro ⟨ba, rfl⟩
      obtain ⟨y, hy⟩ : ∃ y, (sumAll l)[j]? = some y := ⟨_, List.getElem?_eq_getElem hjl⟩
      have hcy := cellsE_get _ j y hy
      refine CW.region ?_
      refine RW.y (.inl rfl) rfl (Yv.move rfl) ?_
      refine RW.y (.inl rfl) rfl (Yv.move rfl) ?_
      refine RW.y (.inl rfl) rfl (Yv.index0K Tryz.underlying22 Tryz.sizeOf79 rfl rfl (by omega) (by omega)) ?_
      refine RW.y (.inl rfl) rfl (Yv.fieldAddr Tryz.underlying79 rfl Tryz.sizeOf2 rfl rfl) ?_
      refine RW.y (.inl rfl) rfl (Yv.load1 Tryz.isAgg2 rfl (CF.row 1 rfl (hcy 2 _ rfl))) ?_
      refine RW.y (.inl rfl) rfl (Yv.ne rfl rfl) ?_
      refine RW.nil ?_
      refine PW.go ?_
      refine CW.condD rfl (fun hc49 => ?_) (fun hc49 => ?_)
      ·
        refine CW.region ?_
        refine RW.y (.inl rfl) rfl (Yv.move rfl) ?_
        refine RW.y (.inl rfl) rfl (Yv.move rfl) ?_
        refine RW.y (.inl rfl) rfl (Yv.move rfl) ?_
        refine RW.y (.inl rfl) rfl (Yv.index0K Tryz.underlying22 Tryz.sizeOf79 rfl rfl (by omega) (by omega)) ?_
        refine RW.y (.inl rfl) rfl (Yv.loadK (vs := [_, _, _]) Tryz.isAgg79 Tryz.sizeOf79 rfl (CFs.row (vs := encE y) 1 rfl hcy)) ?_
        refine RW.o _ (.inl rfl) rfl (Ow.lit (len := 1) (vs := [_]) (cs := [_, _, _]) Tryz.underlying22 info79 rfl rfl rfl rfl rfl rfl rfl) ?_
        rintro _ _ ⟨b55, rfl, rfl⟩
        refine RW.o _ (.inl rfl) rfl (Ow.append 1 0 Tryz.underlying22 info79 rfl rfl rfl rfl rfl rfl rfl rfl (by omega) (by omega)) ?_
        rintro v56 _ rfl
        refine RW.y (.inl rfl) rfl (Yv.assign rfl) ?_
        refine RW.nil ?_
        refine PW.block ?_
        refine PW.go ?_
        refine CW.region ?_
        refine RW.y (.inl rfl) rfl (Yv.move rfl) ?_
        refine RW.y (.inl rfl) rfl (Yv.add rfl rfl (by omega)) ?_
        refine RW.y (.inl rfl) rfl (Yv.assign rfl) ?_
        refine RW.nil ?_
        have hO := filter_snoc hy (fun e => e.w ≠ 0)
        rw [if_pos (by simpa using hc49)] at hO
        refine PW.mem _ (fun w h => h.row_eq (m' := (((sumAll l).take (j + 1)).filter (fun e => e.w ≠ 0)).length) (xs' := cellsE (((sumAll l).take (j + 1)).filter (fun e => e.w ≠ 0))) 1 rfl (by rw [hO]; simp) (by rw [hO]; simp [cellsE_append]; simp [cellsE, encE])) ?_
        exact PW.next (j + 1, v56) (by show j + 1 ≤ _; omega) ⟨rfl, rfl, rfl, rfl, trivial⟩ (fun w h => (h).erase 0) (by show (sumAll l).length - (j + 1) < (sumAll l).length - j; omega)
      ·
        refine CW.skip ?_
        refine PW.block ?_
        refine PW.go ?_
        refine CW.region ?_
        refine RW.y (.inl rfl) rfl (Yv.move rfl) ?_
        refine RW.y (.inl rfl) rfl (Yv.add rfl rfl (by omega)) ?_
        refine RW.y (.inl rfl) rfl (Yv.assign rfl) ?_
        refine RW.nil ?_
        have hO := filter_snoc hy (fun e => e.w ≠ 0)
        rw [if_neg (by simpa using hc49), List.append_nil] at hO
        rw [← hO]
        exact PW.next (j + 1, v) (by show j + 1 ≤ _; omega) ⟨rfl, rfl, rfl, rfl, trivial⟩ (fun w h => h) (by show (sumAll l).length - (j + 1) < (sumAll l).length - j; omega)
    ·
      refine CW.exit ?_
      refine PW.then_exit ?_
      refine PW.then_exit ?_
      refine PW.block_exit ?_
      refine PW.go ?_
      refine CW.seq ?_
      obtain rfl : j = (sumAll l).length := by omega
      have hO : ((sumAll l).take (sumAll l).length).filter (fun e => e.w ≠ 0) = mergeL l := by simp [mergeL]
      rw [hO]
      refine CW.facts _ (fun w h => h.row_slice 0 rfl) ?_
      rintro ⟨Ao, co, rfl⟩
      refine CW.region ?_
      refine RW.y (.inl rfl) rfl (Yv.move rfl) ?_
      refine RW.y (.inl rfl) rfl (Yv.build rfl (fun w => by exact bld98_0_1 _ _ _ _ w)) ?_
      refine RW.o _ (.inl rfl) rfl (Ow.storeW (vs := [_, _]) 2 Tryz.sizeOf98 rfl rfl (rfl) rfl (rfl)) ?_
      rintro _ _ ⟨rfl, rfl⟩
      refine RW.nil ?_
      refine PW.go ?_
      refine CW.ret ?_
      refine PW.retC (vs := [_, _]) Tryz.results45 rfl Tryz.isAgg98 Tryz.sizeOf98 (CFs.whole 2 rfl) (fun w1 hs => ?_)
      obtain ⟨F, hF, hk⟩ := hs.out 0 rfl
      exact ⟨(Ao, co), rfl, hs.mod.below, F, hF, hk⟩

end Go.Proofs.YtipoblpnkkcpgaaGreat
