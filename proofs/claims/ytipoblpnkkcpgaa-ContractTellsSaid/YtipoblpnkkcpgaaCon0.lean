/- Walks, written by a program of this session (gen.py) out of a spec. -/
import Derived.Test.YtipoblpnkkcpgaaConP
import Derived.Test.YtipoblpnkkcpgaaRef0
set_option linter.unusedVariables false
set_option linter.unusedSimpArgs false
namespace Go.Proofs.Ytipoblpnkkcpgaa
open Go Go.RowKit Go.Proofs.Ytipoblpnkkcpgaa.B

set_option maxRecDepth 100000 in
theorem accPut (b : Nat) (x y : Int) (hx : 0 ≤ x) (hy : 0 ≤ y) (hxy : x + y ≤ 9223372036854775807) (w : World) (F : Nat → Prop) (h : (blk b [.int .i64 x, .bool false] 126).holds w F) (hF : ∀ k, F k → k < w.heap.size) : Calls Try.prog 80 #[.pointer (some ⟨b, 0, none⟩), .int .i64 y] w fun e w1 => ∃ u : Unit, True ∧ e = .returned (.bool true) ∧ Mod F w w1 ∧ ∃ F', (blk b [.int .i64 (x + y), .bool false] 126).holds w1 F' ∧ ∀ k, F' k → F k ∨ (w.heap.size ≤ k ∧ k < w1.heap.size) := by
  refine CW.enter (P := Try.prog) (F0 := F) (L := [(0, _), (1, _)]) 34 [blk b [.int .i64 x, .bool false] 126] Try.func80 rfl Try.ntmps80 (Nat.le_of_ble_eq_true rfl) (St.start1 w h hF) rfl ?_
  refine CW.seq ?_
  refine CW.region ?_
  refine RW.y (.inl rfl) rfl (Yv.assign rfl) ?_
  refine RW.nil ?_
  refine PW.go ?_
  refine CW.seq ?_
  refine CW.seq ?_
  refine CW.region ?_
  refine RW.y (.inl rfl) rfl (Yv.move rfl) ?_
  refine RW.y (.inl rfl) rfl (Yv.ptrNil Try.underlying154 rfl rfl) ?_
  refine RW.y (.inl rfl) rfl (Yv.move rfl) ?_
  refine RW.isB (c := false) 9 rfl (rfl) ?_
  refine RW.y (.inr ⟨_, _, 9, rfl, rfl, rfl⟩) rfl (Yv.move rfl) ?_
  refine RW.y (.inr ⟨_, _, 9, rfl, rfl, rfl⟩) rfl (Yv.nilCheck rfl) ?_
  refine RW.y (.inr ⟨_, _, 9, rfl, rfl, rfl⟩) rfl (Yv.fieldAddr Try.underlying126 rfl Try.sizeOf4 rfl rfl) ?_
  refine RW.y (.inr ⟨_, _, 9, rfl, rfl, rfl⟩) rfl (Yv.load1 Try.isAgg4 rfl (CF.blk 0 rfl rfl)) ?_
  refine RW.y (.inl rfl) rfl (Yv.pickF rfl rfl) ?_
  refine RW.nil ?_
  refine PW.go ?_
  refine CW.cond rfl (fun hc14 => ?_) (fun hc14 => ?_)
  ·
    cases hc14
  ·
    refine CW.skip ?_
    refine PW.go ?_
    refine CW.seq ?_
    refine CW.region ?_
    refine RW.y (.inl rfl) rfl (Yv.move rfl) ?_
    refine RW.y (.inl rfl) rfl (Yv.nilCheck rfl) ?_
    refine RW.y (.inl rfl) rfl (Yv.fieldAddr Try.underlying126 rfl Try.sizeOf2 rfl rfl) ?_
    refine RW.y (.inl rfl) rfl (Yv.load1 Try.isAgg2 rfl (CF.blk 0 rfl rfl)) ?_
    refine RW.y (.inl rfl) rfl (Yv.move rfl) ?_
    refine RW.o _ (.inl rfl) rfl (Ow.call e64 rfl (C.val (fun w hs => numAdd x y hx hy hxy _))) ?_
    rintro _ _ ⟨rfl, rfl⟩
    refine RW.y (.inl rfl) rfl (Yv.move rfl) ?_
    refine RW.y (.inl rfl) rfl (Yv.extract rfl rfl) ?_
    refine RW.y (.inl rfl) rfl (Yv.extract rfl rfl) ?_
    refine RW.y (.inl rfl) rfl (Yv.assign rfl) ?_
    refine RW.y (.inl rfl) rfl (Yv.assign rfl) ?_
    refine RW.nil ?_
    refine PW.go ?_
    refine CW.seq ?_
    refine CW.region ?_
    refine RW.y (.inl rfl) rfl (Yv.move rfl) ?_
    refine RW.y (.inl rfl) rfl (Yv.move rfl) ?_
    refine RW.y (.inl rfl) rfl (Yv.move rfl) ?_
    refine RW.y (.inl rfl) rfl (Yv.move rfl) ?_
    refine RW.y (.inl rfl) rfl (Yv.not rfl) ?_
    refine RW.y (.inl rfl) rfl (Yv.nilCheck rfl) ?_
    refine RW.y (.inl rfl) rfl (Yv.fieldAddr Try.underlying126 rfl Try.sizeOf2 rfl rfl) ?_
    refine RW.o _ (.inl rfl) rfl (Ow.store1 0 Try.sizeOf2 rfl rfl (rfl) rfl (Nat.le_of_ble_eq_true rfl)) ?_
    rintro _ _ ⟨rfl, rfl⟩
    refine RW.y (.inl rfl) rfl (Yv.nilCheck rfl) ?_
    refine RW.y (.inl rfl) rfl (Yv.fieldAddr Try.underlying126 rfl Try.sizeOf4 rfl rfl) ?_
    refine RW.o _ (.inl rfl) rfl (Ow.store1 0 Try.sizeOf4 rfl rfl (rfl) rfl (Nat.le_of_ble_eq_true rfl)) ?_
    rintro _ _ ⟨rfl, rfl⟩
    refine RW.nil ?_
    refine PW.go ?_
    refine CW.seq ?_
    refine CW.region ?_
    refine RW.y (.inl rfl) rfl (Yv.move rfl) ?_
    refine RW.y (.inl rfl) rfl (Yv.assign rfl) ?_
    refine RW.nil ?_
    refine PW.go ?_
    refine CW.ret ?_
    refine PW.ret1 Try.results80 rfl (fun w1 hs => ?_)
    obtain ⟨F', h', hk⟩ := hs.outMut 0 rfl
    exact ⟨(), trivial, rfl, hs.mod, F', h', hk⟩

set_option maxRecDepth 100000 in
theorem accValue (b : Nat) (x : Int) (w : World) (h : w.heap[b]? = some (.cells [Value.int .i64 x, .bool false].toArray 126 (0, 0))) : Calls Try.prog 82 #[.pointer (some ⟨b, 0, none⟩)] w fun e w1 => e = .returned (.tuple #[.int .i64 x, .bool true]) ∧ Gr w w1 := by
  refine CW.enter (P := Try.prog) (F0 := none0) (L := [(0, _)]) 16 [] Try.func82 rfl Try.ntmps82 (Nat.le_of_ble_eq_true rfl) (St.start w none0) rfl ?_
  refine CW.seq ?_
  refine CW.region ?_
  refine RW.y (.inl rfl) rfl (Yv.assign rfl) ?_
  refine RW.y (.inl rfl) rfl (Yv.assign rfl) ?_
  refine RW.nil ?_
  refine PW.go ?_
  refine CW.seq ?_
  refine CW.seq ?_
  refine CW.region ?_
  refine RW.y (.inl rfl) rfl (Yv.move rfl) ?_
  refine RW.y (.inl rfl) rfl (Yv.ptrNil Try.underlying154 rfl rfl) ?_
  refine RW.y (.inl rfl) rfl (Yv.move rfl) ?_
  refine RW.isB (c := false) 6 rfl (rfl) ?_
  refine RW.y (.inr ⟨_, _, 6, rfl, rfl, rfl⟩) rfl (Yv.move rfl) ?_
  refine RW.y (.inr ⟨_, _, 6, rfl, rfl, rfl⟩) rfl (Yv.nilCheck rfl) ?_
  refine RW.y (.inr ⟨_, _, 6, rfl, rfl, rfl⟩) rfl (Yv.fieldAddr Try.underlying126 rfl Try.sizeOf4 rfl rfl) ?_
  refine RW.y (.inr ⟨_, _, 6, rfl, rfl, rfl⟩) rfl (Yv.load1 Try.isAgg4 rfl (CF.old (cell_of h rfl) (not_none0 _))) ?_
  refine RW.y (.inl rfl) rfl (Yv.pickF rfl rfl) ?_
  refine RW.nil ?_
  refine PW.go ?_
  refine CW.cond rfl (fun hc11 => ?_) (fun hc11 => ?_)
  ·
    cases hc11
  ·
    refine CW.skip ?_
    refine PW.go ?_
    refine CW.seq ?_
    refine CW.region ?_
    refine RW.y (.inl rfl) rfl (Yv.move rfl) ?_
    refine RW.y (.inl rfl) rfl (Yv.nilCheck rfl) ?_
    refine RW.y (.inl rfl) rfl (Yv.fieldAddr Try.underlying126 rfl Try.sizeOf2 rfl rfl) ?_
    refine RW.y (.inl rfl) rfl (Yv.load1 Try.isAgg2 rfl (CF.old (cell_of h rfl) (not_none0 _))) ?_
    refine RW.y (.inl rfl) rfl (Yv.assign rfl) ?_
    refine RW.y (.inl rfl) rfl (Yv.assign rfl) ?_
    refine RW.nil ?_
    refine PW.go ?_
    refine CW.ret ?_
    refine PW.ret2 Try.results82 rfl rfl (fun w1 hs => ?_)
    exact ⟨rfl, hs.mod.below⟩

set_option maxRecDepth 100000 in
theorem edgePieces (x : Edg) (h : 1 ≤ x.w ∧ x.w ≤ 4611686018427387904) (w : World) : Calls Try.prog 81 #[aggE x] w fun e w1 => e = .returned (.int .i64 (pcsE x : Nat)) ∧ Gr w w1 := by
  refine CW.enter (P := Try.prog) (F0 := none0) (L := [(0, _)]) 9 [] Try.func81 rfl Try.ntmps81 (Nat.le_of_ble_eq_true rfl) (St.start w none0) rfl ?_
  refine CW.seq ?_
  refine CW.region ?_
  refine RW.o _ (.inl rfl) rfl (Ow.box (cs := [_, _, _]) rfl rfl) ?_
  rintro _ _ ⟨b1, rfl, rfl⟩
  refine RW.y (.inl rfl) rfl (Yv.assign rfl) ?_
  refine RW.nil ?_
  refine PW.go ?_
  refine CW.seq ?_
  refine CW.region ?_
  refine RW.y (.inl rfl) rfl (Yv.fieldAddr Try.underlying72 rfl Try.sizeOf2 rfl rfl) ?_
  refine RW.y (.inl rfl) rfl (Yv.load1 Try.isAgg2 rfl (CF.blk 0 rfl rfl)) ?_
  refine RW.y (.inl rfl) rfl (Yv.sub rfl rfl (by omega)) ?_
  refine RW.y (.inl rfl) rfl (Yv.quo rfl rfl (by omega) (by omega)) ?_
  refine RW.y (.inl rfl) rfl (Yv.add rfl rfl (by omega)) ?_
  refine RW.y (.inl rfl) rfl (Yv.max rfl rfl) ?_
  refine RW.y (.inl rfl) rfl (Yv.assign rfl) ?_
  refine RW.nil ?_
  refine PW.go ?_
  refine CW.ret ?_
  refine PW.ret1 Try.results81 rfl (fun w1 hs => ?_)
  refine ⟨?_, hs.mod.below⟩
  have := pcsE_bd h.1
  have e1 : max 1 ((x.w - 1) / 2147483648 + 1) = ((pcsE x : Nat) : Int) := by
    unfold pcsE at *
    rw [Int.max_def]; split <;> omega
  rw [e1]

theorem splitL_snoc (l : List Edg) (e : Edg) : splitL (l ++ [e]) = splitL l ++ splitE e := by unfold splitL; rw [List.flatMap_append]; simp
theorem splitL_take_le {l : List Edg} (k : Nat) : (splitL (l.take k)).length ≤ (splitL l).length := by
  have h : splitL l = splitL (l.take k) ++ splitL (l.drop k) := by unfold splitL; rw [← List.flatMap_append, List.take_append_drop]
  rw [h, List.length_append]; omega
theorem splitL_take {l : List Edg} {k : Nat} {x : Edg} (hx : l[k]? = some x) : splitL (l.take (k + 1)) = splitL (l.take k) ++ splitE x := by rw [take_snoc hx, splitL_snoc]

set_option maxHeartbeats 1000000 in
set_option maxRecDepth 100000 in
theorem edgeSplit (A : Option Addr) (c : Nat) (l : List Edg) (w : World) (hr : Rd w A 3 l.length (cellsE l)) (hw : ∀ e ∈ l, 1 ≤ e.w ∧ e.w ≤ 4611686018427387904) (hlen : (splitL l).length ≤ 1048576) : Calls Try.prog 59 #[.slice A l.length c] w fun en w1 => ∃ p : Option Addr × Nat, en = .returned (.tuple #[.slice p.1 (splitL l).length p.2, .bool true]) ∧ Gr w w1 ∧ ∃ F, (row (.slice p.1 (splitL l).length p.2) 72 3 (splitL l).length (cellsE (splitL l))).holds w1 F ∧ ∀ k, F k → w.heap.size ≤ k ∧ k < w1.heap.size := by
  have hll := hr.2.1
  refine CW.enter (P := Try.prog) (F0 := none0) (L := [(0, _)]) 65 [] Try.func59 rfl Try.ntmps59 (Nat.le_of_ble_eq_true rfl) (St.start w none0) rfl ?_
  refine CW.seq ?_
  refine CW.region ?_
  refine RW.y (.inl rfl) rfl (Yv.assign rfl) ?_
  refine RW.y (.inl rfl) rfl (Yv.assign rfl) ?_
  refine RW.nil ?_
  refine PW.go ?_
  refine CW.seq ?_
  refine CW.region ?_
  refine RW.o _ (.inl rfl) rfl (Ow.alloc (cs := [_, _]) Try.zeroValue126 rfl) ?_
  rintro _ _ ⟨b4, rfl, rfl⟩
  refine RW.nil ?_
  refine PW.go ?_
  refine CW.seq ?_
  refine CW.seq ?_
  refine CW.region ?_
  refine RW.y (.inl rfl) rfl (Yv.move rfl) ?_
  refine RW.y (.inl rfl) rfl (Yv.len Try.underlying22 rfl) ?_
  refine RW.y (.inl rfl) rfl (Yv.move rfl) ?_
  refine RW.nil ?_
  refine PW.go ?_
  refine CW.block ?_
  refine CW.loop (σ := Nat) (fun k => k ≤ l.length) (fun k => [(0, .slice A l.length c), (4, .pointer (some ⟨b4, 0, none⟩)), (12, .slice A l.length c), (13, .int .i64 l.length), (14, .int .i64 (k : Nat))]) (fun k => [blk b4 [.int .i64 ((splitL (l.take k)).length : Nat), .bool false] 126]) (fun k => l.length - k) 0 (by simp) ⟨rfl, rfl, rfl, rfl, rfl, trivial⟩ (fun w h => h) ?_
  intro k hk
  refine CW.seq ?_
  refine CW.region ?_
  refine RW.y (.inl rfl) rfl (Yv.lt rfl rfl) ?_
  refine RW.nil ?_
  refine PW.go ?_
  refine CW.seq ?_
  refine CW.condD rfl (fun hc15 => ?_) (fun hc15 => ?_)
  ·
    refine CW.skip ?_
    refine PW.go ?_
    refine CW.seq ?_
    refine CW.block ?_
    refine CW.seq ?_
    have hkl : k < l.length := by omega
    obtain ⟨b, o, rfl, hb, hc⟩ := hr.2.2 (by omega)
    obtain ⟨x, hx⟩ : ∃ x, l[k]? = some x := ⟨_, List.getElem?_eq_getElem hkl⟩
    have hcx := cellsE_get l k x hx
    have hxm := List.mem_of_getElem? hx
    have hxw := hw x hxm
    have hxb := pcsE_bd hxw.1
    have hxl := splitE_length hxw.1
    have htl := splitL_take_le (l := l) k
    refine CW.region ?_
    refine RW.y (.inl rfl) rfl (Yv.indexK Try.underlying22 Try.sizeOf72 rfl rfl (by omega) (by omega)) ?_
    refine RW.y (.inl rfl) rfl (Yv.loadK (vs := [_, _, _]) Try.isAgg72 Try.sizeOf72 rfl (CFs.old (vs := encE x) (fun j v hj => by rw [add_plain', Nat.add_assoc]; exact hc _ v (hcx j v hj)) (fun _ _ _ => not_none0 _))) ?_
    refine RW.o _ (.inl rfl) rfl (Ow.alloc (cs := [_, _, _]) Try.zeroValue72 rfl) ?_
    rintro _ _ ⟨b6, rfl, rfl⟩
    refine RW.o _ (.inl rfl) rfl (Ow.storeW (vs := [_, _, _]) 0 Try.sizeOf72 rfl rfl (rfl) rfl (rfl)) ?_
    rintro _ _ ⟨rfl, rfl⟩
    refine RW.nil ?_
    refine PW.go ?_
    refine CW.seq ?_
    refine CW.seq ?_
    refine CW.region ?_
    refine RW.y (.inl rfl) rfl (Yv.fieldAddr Try.underlying72 rfl Try.sizeOf2 rfl rfl) ?_
    refine RW.y (.inl rfl) rfl (Yv.load1 Try.isAgg2 rfl (CF.blk 0 rfl rfl)) ?_
    refine RW.y (.inl rfl) rfl (Yv.lt rfl rfl) ?_
    refine RW.nil ?_
    refine PW.go ?_
    refine CW.condD rfl (fun hc20 => ?_) (fun hc20 => ?_)
    ·
      omega
    ·
      refine CW.skip ?_
      refine PW.go ?_
      refine CW.region ?_
      refine RW.y (.inl rfl) rfl (Yv.loadK (vs := [_, _, _]) Try.isAgg72 Try.sizeOf72 rfl (CFs.whole 0 rfl)) ?_
      refine RW.o _ (.inl rfl) rfl (Ow.call e81 rfl (C.val (fun w hs => edgePieces x hxw _))) ?_
      rintro _ _ ⟨rfl, rfl⟩
      refine RW.o _ (.inl rfl) rfl (Ow.call e80 rfl (C.mut (val := fun _ : Unit => .bool true) (Ψ := fun _ : Unit => blk b4 [.int .i64 (((splitL (l.take k)).length : Nat) + (pcsE x : Nat)), .bool false] 126) (φ := fun _ => True) 1 rfl (fun w2 F2 h2 h3 => accPut b4 ((splitL (l.take k)).length : Nat) (pcsE x : Nat) (by omega) (by omega) (by omega) w2 F2 h2 h3))) ?_
      rintro _ _ ⟨_, -, rfl, rfl⟩
      refine RW.nil ?_
      refine PW.block ?_
      refine PW.go ?_
      refine CW.region ?_
      refine RW.y (.inl rfl) rfl (Yv.add rfl rfl (by omega)) ?_
      refine RW.y (.inl rfl) rfl (Yv.move rfl) ?_
      refine RW.nil ?_
      have hst := splitL_take hx
      have hsl : (splitL (l.take (k + 1))).length = (splitL (l.take k)).length + pcsE x := by rw [hst, List.length_append, hxl]
      refine PW.mem _ (fun w h => h.erase 0) ?_
      rw [← show (((splitL (l.take (k + 1))).length : Nat) : Int) = ((splitL (l.take k)).length : Nat) + (pcsE x : Nat) by omega]
      exact PW.next (k + 1) (by omega) ⟨rfl, rfl, rfl, rfl, rfl, trivial⟩ (fun w h => h) (by omega)
  ·
    refine CW.exit ?_
    refine PW.then_exit ?_
    refine PW.then_exit ?_
    refine PW.block_exit ?_
    refine PW.go ?_
    refine CW.seq ?_
    refine CW.seq ?_
    obtain rfl : k = l.length := by omega
    rw [List.take_length]
    refine CW.region ?_
    refine RW.o _ (.inl rfl) rfl (Ow.call e82 rfl (C.val (fun w hs => accValue b4 _ _ (blk_at (hs.hold 0 _ rfl))))) ?_
    rintro _ _ ⟨rfl, rfl⟩
    refine RW.y (.inl rfl) rfl (Yv.move rfl) ?_
    refine RW.y (.inl rfl) rfl (Yv.extract rfl rfl) ?_
    refine RW.y (.inl rfl) rfl (Yv.extract rfl rfl) ?_
    refine RW.y (.inl rfl) rfl (Yv.assign rfl) ?_
    refine RW.y (.inl rfl) rfl (Yv.assign rfl) ?_
    refine RW.nil ?_
    refine PW.go ?_
    refine CW.seq ?_
    refine CW.region ?_
    refine RW.y (.inl rfl) rfl (Yv.move rfl) ?_
    refine RW.y (.inl rfl) rfl (Yv.not rfl) ?_
    refine RW.y (.inl rfl) rfl (Yv.move rfl) ?_
    refine RW.isB (c := false) 31 rfl (rfl) ?_
    refine RW.y (.inr ⟨_, _, 31, rfl, rfl, rfl⟩) rfl (Yv.move rfl) ?_
    refine RW.y (.inr ⟨_, _, 31, rfl, rfl, rfl⟩) rfl (Yv.gt rfl rfl) ?_
    refine RW.y (.inl rfl) rfl (Yv.pickF rfl rfl) ?_
    refine RW.nil ?_
    refine PW.go ?_
    refine CW.condD rfl (fun hc34 => ?_) (fun hc34 => ?_)
    ·
      omega
    ·
      refine CW.skip ?_
      refine PW.go ?_
      refine CW.seq ?_
      refine CW.region ?_
      refine RW.mem _ (fun w h => h.emptyRow 72 3) ?_
      refine RW.y (.inl rfl) rfl (Yv.assign rfl) ?_
      refine RW.nil ?_
      refine PW.go ?_
      refine CW.seq ?_
      refine CW.seq ?_
      refine CW.region ?_
      refine RW.y (.inl rfl) rfl (Yv.move rfl) ?_
      refine RW.y (.inl rfl) rfl (Yv.len Try.underlying22 rfl) ?_
      refine RW.y (.inl rfl) rfl (Yv.move rfl) ?_
      refine RW.nil ?_
      refine PW.go ?_
      refine CW.block ?_
      refine CW.loop (σ := Nat × Value) (fun s => s.1 ≤ l.length) (fun s => [(9, s.2), (35, .slice A l.length c), (36, .int .i64 l.length), (37, .int .i64 (s.1 : Nat))]) (fun s => [row (s.2) 72 3 (splitL (l.take s.1)).length (cellsE (splitL (l.take s.1)))]) (fun s => l.length - s.1) (0, .slice none 0 0) (by simp) ⟨rfl, rfl, rfl, rfl, trivial⟩ (fun w h => (h).erase 1) ?_
      rintro ⟨k, vo⟩ hk
      (try dsimp only at *)
      refine CW.seq ?_
      refine CW.region ?_
      refine RW.y (.inl rfl) rfl (Yv.lt rfl rfl) ?_
      refine RW.nil ?_
      refine PW.go ?_
      refine CW.seq ?_
      refine CW.condD rfl (fun hc38 => ?_) (fun hc38 => ?_)
      ·
        refine CW.skip ?_
        refine PW.go ?_
        refine CW.seq ?_
        refine CW.block ?_
        refine CW.seq ?_
        have hkl : k < l.length := by omega
        obtain ⟨b, o, rfl, hb, hc⟩ := hr.2.2 (by omega)
        obtain ⟨x, hx⟩ : ∃ x, l[k]? = some x := ⟨_, List.getElem?_eq_getElem hkl⟩
        have hcx := cellsE_get l k x hx
        have hxm := List.mem_of_getElem? hx
        have hxw := hw x hxm
        have hxb := pcsE_bd hxw.1
        have hxl := splitE_length hxw.1
        have htl := splitL_take_le (l := l) (k + 1)
        rw [splitL_take hx, List.length_append, hxl] at htl
        refine CW.region ?_
        refine RW.y (.inl rfl) rfl (Yv.indexK Try.underlying22 Try.sizeOf72 rfl rfl (by omega) (by omega)) ?_
        refine RW.y (.inl rfl) rfl (Yv.loadK (vs := [_, _, _]) Try.isAgg72 Try.sizeOf72 rfl (CFs.old (vs := encE x) (fun j v hj => by rw [add_plain', Nat.add_assoc]; exact hc _ v (hcx j v hj)) (fun _ _ _ => not_none0 _))) ?_
        refine RW.o _ (.inl rfl) rfl (Ow.alloc (cs := [_, _, _]) Try.zeroValue72 rfl) ?_
        rintro _ _ ⟨b11, rfl, rfl⟩
        refine RW.o _ (.inl rfl) rfl (Ow.storeW (vs := [_, _, _]) 0 Try.sizeOf72 rfl rfl (rfl) rfl (rfl)) ?_
        rintro _ _ ⟨rfl, rfl⟩
        refine RW.nil ?_
        refine PW.go ?_
        refine CW.seq ?_
        refine CW.seq ?_
        refine CW.region ?_
        refine RW.y (.inl rfl) rfl (Yv.loadK (vs := [_, _, _]) Try.isAgg72 Try.sizeOf72 rfl (CFs.whole 0 rfl)) ?_
        refine RW.o _ (.inl rfl) rfl (Ow.call e81 rfl (C.val (fun w hs => edgePieces x hxw _))) ?_
        rintro _ _ ⟨rfl, rfl⟩
        refine RW.y (.inl rfl) rfl (Yv.sub rfl rfl (by omega)) ?_
        refine RW.mem _ (fun w h => h.row_eq (m' := (splitL (l.take k) ++ List.replicate 0 (pieE x)).length) (xs' := cellsE (splitL (l.take k) ++ List.replicate 0 (pieE x))) 1 rfl (by simp) (by simp)) ?_
        refine RW.mem _ (fun w h => h.blk_eq (cs' := encE (endE x 0)) 0 rfl (by simp [encE, endE])) ?_
        refine RW.y (.inl rfl) rfl (Yv.move rfl) ?_
        refine RW.nil ?_
        refine PW.go ?_
        refine CW.block ?_
        refine CW.loop (σ := Nat × Value) (fun s => s.1 ≤ pcsE x - 1) (fun s => [(9, s.2), (11, .pointer (some ⟨b11, 0, none⟩)), (35, .slice (some ⟨b, o, none⟩) l.length c), (36, .int .i64 l.length), (37, .int .i64 (k : Nat)), (43, .int .i64 ((pcsE x : Nat) - 1)), (44, .int .i64 (s.1 : Nat))]) (fun s => [blk b11 (encE (endE x s.1)) 72, row (s.2) 72 3 (splitL (l.take k) ++ List.replicate s.1 (pieE x)).length (cellsE (splitL (l.take k) ++ List.replicate s.1 (pieE x)))]) (fun s => pcsE x - 1 - s.1) (0, vo) (by simp) ⟨rfl, rfl, rfl, rfl, rfl, rfl, rfl, trivial⟩ (fun w h => h) ?_
        rintro ⟨j, vo⟩ hj
        (try dsimp only at *)
        refine CW.seq ?_
        refine CW.region ?_
        refine RW.y (.inl rfl) rfl (Yv.lt rfl rfl) ?_
        refine RW.nil ?_
        refine PW.go ?_
        refine CW.seq ?_
        refine CW.condD rfl (fun hc45 => ?_) (fun hc45 => ?_)
        ·
          refine CW.skip ?_
          refine PW.go ?_
          refine CW.seq ?_
          refine CW.block ?_
          refine CW.seq ?_
          have hjl : (splitL (l.take k) ++ List.replicate j (pieE x)).length = (splitL (l.take k)).length + j := by simp
          refine CW.region ?_
          refine RW.y (.inl rfl) rfl (Yv.move rfl) ?_
          refine RW.y (.inl rfl) rfl (Yv.fieldAddr Try.underlying72 rfl Try.sizeOf3 rfl rfl) ?_
          refine RW.y (.inl rfl) rfl (Yv.load1 Try.isAgg3 rfl (CF.blk 0 rfl rfl)) ?_
          refine RW.y (.inl rfl) rfl (Yv.fieldAddr Try.underlying72 rfl Try.sizeOf3 rfl rfl) ?_
          refine RW.y (.inl rfl) rfl (Yv.load1 Try.isAgg3 rfl (CF.blk 0 rfl rfl)) ?_
          refine RW.y (.inl rfl) rfl (Yv.build rfl (fun w => by exact bld72_0_1_2 _ _ _ w)) ?_
          refine RW.o _ (.inl rfl) rfl (Ow.lit (len := 1) (vs := [_]) (cs := [_, _, _]) Try.underlying22 info72 rfl rfl rfl rfl rfl rfl rfl) ?_
          rintro _ _ ⟨b52, rfl, rfl⟩
          refine RW.o _ (.inl rfl) rfl (Ow.append 2 0 Try.underlying22 info72 rfl rfl rfl rfl rfl rfl rfl rfl (by omega) (by omega)) ?_
          rintro v53 _ rfl
          refine RW.y (.inl rfl) rfl (Yv.assign rfl) ?_
          refine RW.nil ?_
          refine PW.go ?_
          refine CW.region ?_
          refine RW.y (.inl rfl) rfl (Yv.fieldAddr Try.underlying72 rfl Try.sizeOf2 rfl rfl) ?_
          refine RW.y (.inl rfl) rfl (Yv.load1 Try.isAgg2 rfl (CF.blk 1 rfl rfl)) ?_
          refine RW.y (.inl rfl) rfl (Yv.sub rfl rfl (by show _ ≤ x.w - (j : Int) * 2147483648 - 2147483648 ∧ x.w - (j : Int) * 2147483648 - 2147483648 ≤ _; omega)) ?_
          refine RW.y (.inl rfl) rfl (Yv.fieldAddr Try.underlying72 rfl Try.sizeOf2 rfl rfl) ?_
          refine RW.o _ (.inl rfl) rfl (Ow.store1 1 Try.sizeOf2 rfl rfl (rfl) rfl (Nat.le_of_ble_eq_true rfl)) ?_
          rintro _ _ ⟨rfl, rfl⟩
          refine RW.nil ?_
          refine PW.block ?_
          refine PW.go ?_
          refine CW.region ?_
          refine RW.y (.inl rfl) rfl (Yv.add rfl rfl (by omega)) ?_
          refine RW.y (.inl rfl) rfl (Yv.move rfl) ?_
          refine RW.nil ?_
          refine PW.mem _ (fun w h => h.erase 0) ?_
          refine PW.mem _ (fun w h => h.row_eq (m' := (splitL (l.take k) ++ List.replicate (j + 1) (pieE x)).length) (xs' := cellsE (splitL (l.take k) ++ List.replicate (j + 1) (pieE x))) 1 rfl (by simp; omega) (by rw [List.replicate_succ', ← List.append_assoc, cellsE_append _ [pieE x]]; rfl)) ?_
          refine PW.mem _ (fun w h => h.blk_eq (cs' := encE (endE x (j + 1))) 0 rfl (by simp [encE, endE]; omega)) ?_
          exact PW.next (j + 1, v53) (by show j + 1 ≤ pcsE x - 1; omega) ⟨rfl, rfl, rfl, rfl, rfl, rfl, rfl, trivial⟩ (fun w h => h) (by show pcsE x - 1 - (j + 1) < pcsE x - 1 - j; omega)
        ·
          refine CW.exit ?_
          refine PW.then_exit ?_
          refine PW.then_exit ?_
          refine PW.block_exit ?_
          refine PW.go ?_
          have hjl : (splitL (l.take k) ++ List.replicate j (pieE x)).length = (splitL (l.take k)).length + j := by simp
          refine CW.region ?_
          refine RW.y (.inl rfl) rfl (Yv.move rfl) ?_
          refine RW.y (.inl rfl) rfl (Yv.loadK (vs := [_, _, _]) Try.isAgg72 Try.sizeOf72 rfl (CFs.whole 0 rfl)) ?_
          refine RW.o _ (.inl rfl) rfl (Ow.lit (len := 1) (vs := [_]) (cs := [_, _, _]) Try.underlying22 info72 rfl rfl rfl rfl rfl rfl rfl) ?_
          rintro _ _ ⟨b61, rfl, rfl⟩
          refine RW.o _ (.inl rfl) rfl (Ow.append 2 0 Try.underlying22 info72 rfl rfl rfl rfl rfl rfl rfl rfl (by omega) (by omega)) ?_
          rintro v62 _ rfl
          refine RW.y (.inl rfl) rfl (Yv.assign rfl) ?_
          refine RW.nil ?_
          refine PW.block ?_
          refine PW.go ?_
          refine CW.region ?_
          refine RW.y (.inl rfl) rfl (Yv.add rfl rfl (by omega)) ?_
          refine RW.y (.inl rfl) rfl (Yv.move rfl) ?_
          refine RW.nil ?_
          refine PW.mem _ (fun w h => h.row_eq (m' := (splitL (l.take (k + 1))).length) (xs' := cellsE (splitL (l.take (k + 1)))) 2 rfl (by rw [splitL_take hx]; simp [splitE]; omega) (by rw [splitL_take hx]; simp only [splitE, cellsE_append]; rw [show pcsE x - 1 = j by omega, List.append_assoc]; rfl)) ?_
          exact PW.next (k + 1, v62) (by show k + 1 ≤ l.length; omega) ⟨rfl, rfl, rfl, rfl, trivial⟩ (fun w h => ((h).erase 0).erase 0) (by show l.length - (k + 1) < l.length - k; omega)
      ·
        refine CW.exit ?_
        refine PW.then_exit ?_
        refine PW.then_exit ?_
        refine PW.block_exit ?_
        refine PW.go ?_
        refine CW.seq ?_
        refine CW.region ?_
        refine RW.y (.inl rfl) rfl (Yv.move rfl) ?_
        refine RW.y (.inl rfl) rfl (Yv.assign rfl) ?_
        refine RW.y (.inl rfl) rfl (Yv.assign rfl) ?_
        refine RW.nil ?_
        refine PW.go ?_
        refine CW.ret ?_
        refine PW.ret2 Try.results59 rfl rfl (fun w1 hs => ?_)
        have hkl : k = l.length := by omega
        obtain ⟨Ao, co, rfl⟩ := hs.row_slice 0 rfl
        subst hkl
        rw [List.take_length] at *
        obtain ⟨F, hF, hk⟩ := hs.out 0 rfl
        exact ⟨(Ao, co), rfl, hs.mod.below, F, hF, hk⟩

end Go.Proofs.Ytipoblpnkkcpgaa
