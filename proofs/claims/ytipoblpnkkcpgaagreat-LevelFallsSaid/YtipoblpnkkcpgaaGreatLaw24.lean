/- Walks, written by a program of this session (gen.py) out of a spec. -/
import Derived.Test.YtipoblpnkkcpgaaGreatLaw23c
import Derived.Test.YtipoblpnkkcpgaaGreatLev1
set_option linter.unusedVariables false
set_option linter.unusedSimpArgs false
namespace Go.Proofs.YtipoblpnkkcpgaaGreat
open Go Go.RowKit Go.Proofs.YtipoblpnkkcpgaaGreat.B

set_option maxRecDepth 100000 in
theorem rests_err (n : Int) (hn : 0 ≤ n ∧ n ≤ 255) (A : Option Addr) (c : Nat) (l : List Edg) (B : Option Addr) (d : Nat) (ops : List (Int × Int)) (w : World) (hr : Rd w A 3 l.length (cellsE l)) (hrO : Rd w B 2 ops.length (cellsA ops)) (hb : ∀ o ∈ ops, (-9223372036854775808 ≤ o.1 ∧ o.1 ≤ 9223372036854775807) ∧ -9223372036854775808 ≤ o.2 ∧ o.2 ≤ 9223372036854775807) (hl40 : l.length ≤ 40) (ho40 : ops.length ≤ 40) (k : Int) (i : Nat) (hk : k ≠ 0) (he : NewE n l k i) : Calls Tryz.prog 28 #[.int .u8 n, .slice A l.length c, .slice B ops.length d] w fun e w1 => e = .returned (.tuple #[.pointer none, .agg #[.int .i64 0, .slice none 0 0, .slice none 0 0]]) ∧ Gr w w1 := by
  refine CW.enter (P := Tryz.prog) (F0 := none0) (L := [(0, _), (1, _), (2, _)]) 68 [] Tryz.func28 rfl Tryz.ntmps28 (Nat.le_of_ble_eq_true rfl) (St.start w none0) rfl ?_
  refine CW.seq ?_
  refine CW.region ?_
  refine RW.y (.inl rfl) rfl (Yv.assign rfl) ?_
  refine RW.o _ (.inl rfl) rfl (Ow.alloc (cs := [_, _, _]) Tryz.zeroValue35 rfl) ?_
  rintro _ _ ⟨b7, rfl, rfl⟩
  refine RW.nil ?_
  refine PW.go ?_
  refine CW.seq ?_
  refine CW.region ?_
  refine RW.y (.inl rfl) rfl (Yv.move rfl) ?_
  refine RW.y (.inl rfl) rfl (Yv.conv64 Tryz.underlying5 Tryz.underlying3 rfl (by omega)) ?_
  refine RW.y (.inl rfl) rfl (Yv.move rfl) ?_
  refine RW.o _ (.inl rfl) rfl (Ow.call e7 rfl (C.val (fun w hs => netNew_err n A c l _ (hr.below hs.mod.below) k i hk he))) ?_
  rintro _ _ ⟨rfl, rfl⟩
  refine RW.y (.inl rfl) rfl (Yv.move rfl) ?_
  refine RW.y (.inl rfl) rfl (Yv.extract rfl rfl) ?_
  refine RW.y (.inl rfl) rfl (Yv.extract rfl rfl) ?_
  refine RW.y (.inl rfl) rfl (Yv.extract rfl rfl) ?_
  refine RW.y (.inl rfl) rfl (Yv.assign rfl) ?_
  refine RW.y (.inl rfl) rfl (Yv.assign rfl) ?_
  refine RW.y (.inl rfl) rfl (Yv.assign rfl) ?_
  refine RW.nil ?_
  refine PW.go ?_
  refine CW.seq ?_
  refine CW.seq ?_
  refine CW.region ?_
  refine RW.y (.inl rfl) rfl (Yv.move rfl) ?_
  refine RW.y (.inl rfl) rfl (Yv.ne rfl rfl) ?_
  refine RW.nil ?_
  refine PW.go ?_
  refine CW.condD rfl (fun hc23 => ?_) (fun hc23 => ?_)
  ·
    refine CW.seq ?_
    refine CW.region ?_
    refine RW.y (.inl rfl) rfl (Yv.build rfl (fun w => by exact bld35_  w)) ?_
    refine RW.y (.inl rfl) rfl (Yv.assign rfl) ?_
    refine RW.o _ (.inl rfl) rfl (Ow.storeW (vs := [_, _, _]) 0 Tryz.sizeOf35 rfl rfl (rfl) rfl (rfl)) ?_
    rintro _ _ ⟨rfl, rfl⟩
    refine RW.nil ?_
    refine PW.go ?_
    refine CW.ret ?_
    refine PW.then_ret ?_
    refine PW.retTC (vs := [_, _, _]) Tryz.results28 rfl rfl Tryz.isAgg35 Tryz.sizeOf35 (CFs.whole 0 rfl) (fun w1 hs => ?_)
    exact ⟨rfl, hs.mod.below⟩
  ·
    exact absurd hk hc23

set_option maxHeartbeats 1000000 in
set_option maxRecDepth 100000 in
theorem rests_ok (n : Int) (hn : 0 ≤ n ∧ n ≤ 255) (A : Option Addr) (c : Nat) (l : List Edg) (B : Option Addr) (d : Nat) (ops : List (Int × Int)) (w : World) (hr : Rd w A 3 l.length (cellsE l)) (hrO : Rd w B 2 ops.length (cellsA ops)) (hb : ∀ o ∈ ops, (-9223372036854775808 ≤ o.1 ∧ o.1 ≤ 9223372036854775807) ∧ -9223372036854775808 ≤ o.2 ∧ o.2 ≤ 9223372036854775807) (hl40 : l.length ≤ 40) (ho40 : ops.length ≤ 40) (hok : NewOk n l) : Calls Tryz.prog 28 #[.int .u8 n, .slice A l.length c, .slice B ops.length d] w fun en w1 => ∃ x : RI × List Int × List Int × (Option Addr × Nat) × (Option Addr × Nat), ((∀ v, v < n.toNat → (csrD n.toNat (mergeL l) x.2.1).of v = outOf n.toNat (mergeL l) v) ∧ FlowOk (mergeL l) x.2.2.1) ∧ en = .returned (.tuple #[.pointer (some ⟨x.1.b, 0, none⟩), .agg #[.int .i64 n, .slice x.2.2.2.1.1 (mergeL l).length x.2.2.2.1.2, .slice x.2.2.2.2.1 x.2.2.1.length x.2.2.2.2.2]]) ∧ Gr w w1 ∧ ∃ F, (Ass.star (nowA (fun w' => IsArcs w' x.1.ba (csrD n.toNat (mergeL l) x.2.1))) (restA x.1 n.toNat (2 * (mergeL l).length) (leftL (mergeL l) x.2.2.1) (overL n.toNat (mergeL l) x.2.2.1))).holds w1 F ∧ ∀ k, F k → w.heap.size ≤ k ∧ k < w1.heap.size := by
  obtain ⟨N, rfl⟩ : ∃ N : Nat, n = N := ⟨n.toNat, by omega⟩
  have hml := mergeL_length l
  have hao : ArcsOk N (mergeL l) := hok.arcs
  have hT := hok.mtot
  have hF0 := flow0 hok
  refine CW.enter (P := Tryz.prog) (F0 := none0) (L := [(0, _), (1, _), (2, _)]) 68 [] Tryz.func28 rfl Tryz.ntmps28 (Nat.le_of_ble_eq_true rfl) (St.start w none0) rfl ?_
  refine CW.seq ?_
  refine CW.region ?_
  refine RW.y (.inl rfl) rfl (Yv.assign rfl) ?_
  refine RW.o _ (.inl rfl) rfl (Ow.alloc (cs := [_, _, _]) Tryz.zeroValue35 rfl) ?_
  rintro _ _ ⟨b7, rfl, rfl⟩
  refine RW.nil ?_
  refine PW.go ?_
  refine CW.seq ?_
  refine CW.region ?_
  refine RW.y (.inl rfl) rfl (Yv.move rfl) ?_
  refine RW.y (.inl rfl) rfl (Yv.conv64 Tryz.underlying5 Tryz.underlying3 rfl (by omega)) ?_
  refine RW.y (.inl rfl) rfl (Yv.move rfl) ?_
  refine RW.o _ (.inl rfl) rfl (Ow.call e7 rfl (C.new (val := fun (b : Nat) => .tuple #[.pointer (some ⟨b, 0, none⟩), .int .i64 0, .int .i64 0]) (φ := fun _ => True) (Ψ := fun b => nowA (fun w' => IsNet w' b (netOf (N : Int) l))) (fun w2 hs => (netNew_ok (N : Int) A c l w2 (hr.below hs.mod.below) hok).mono (fun en w3 ⟨b, ht, he, hb, F, hF, hk⟩ => ⟨b, ht, he, hb, F, hF, hk⟩)))) ?_
  rintro _ _ ⟨bg, -, rfl, rfl⟩
  refine RW.y (.inl rfl) rfl (Yv.move rfl) ?_
  refine RW.y (.inl rfl) rfl (Yv.extract rfl rfl) ?_
  refine RW.y (.inl rfl) rfl (Yv.extract rfl rfl) ?_
  refine RW.y (.inl rfl) rfl (Yv.extract rfl rfl) ?_
  refine RW.y (.inl rfl) rfl (Yv.assign rfl) ?_
  refine RW.y (.inl rfl) rfl (Yv.assign rfl) ?_
  refine RW.y (.inl rfl) rfl (Yv.assign rfl) ?_
  refine RW.nil ?_
  refine PW.go ?_
  refine CW.seq ?_
  refine CW.seq ?_
  refine CW.region ?_
  refine RW.y (.inl rfl) rfl (Yv.move rfl) ?_
  refine RW.y (.inl rfl) rfl (Yv.ne rfl rfl) ?_
  refine RW.nil ?_
  refine PW.go ?_
  refine CW.condD rfl (fun hc23 => ?_) (fun hc23 => ?_)
  ·
    exact absurd rfl hc23
  ·
    refine CW.skip ?_
    refine PW.go ?_
    refine CW.seq ?_
    refine CW.region ?_
    refine RW.y (.inl rfl) rfl (Yv.move rfl) ?_
    refine RW.o _ (.inl rfl) rfl (Ow.call e8 rfl (C.new (val := fun (x : RI × List Int) => .pointer (some ⟨x.1.b, 0, none⟩)) (φ := fun x => ∀ v, v < N → (csrD (N) (mergeL l) x.2).of v = outOf (N) (mergeL l) v) (Ψ := fun x => Ass.star (nowA (fun w' => IsArcs w' x.1.ba (csrD (N) (mergeL l) x.2))) (restA x.1 (N) (2 * (mergeL l).length) (leftL (mergeL l) (List.replicate (mergeL l).length 0)) (overL (N) (mergeL l) (List.replicate (mergeL l).length 0)))) (fun w2 hs => residNewG bg (N : Int) l hok w2 (hs.now 0 rfl)))) ?_
    rintro _ _ ⟨⟨R, out⟩, hof, rfl, rfl⟩
    refine RW.y (.inl rfl) rfl (Yv.move rfl) ?_
    refine RW.y (.inl rfl) rfl (Yv.conv64 Tryz.underlying5 Tryz.underlying3 rfl (by omega)) ?_
    refine RW.y (.inl rfl) rfl (Yv.move rfl) ?_
    refine RW.o _ (.inl rfl) rfl (Ow.call e10 rfl (C.new (val := fun (p : Option Addr × Nat) => .agg #[.int .i64 (N : Int), .slice p.1 (mergeL l).length p.2, .int .i64 0, .int .i64 0]) (φ := fun _ => True) (Ψ := fun p => row (.slice p.1 (mergeL l).length p.2) 79 3 (mergeL l).length (cellsE (mergeL l))) (fun w2 hs => (ref16New_ok (N : Int) A c l w2 (hr.below hs.mod.below) hok).mono (fun en w3 ⟨p, he, hb, F, hF, hk⟩ => ⟨p, trivial, he, hb, F, hF, hk⟩)))) ?_
    rintro _ _ ⟨⟨Am, cm⟩, -, rfl, rfl⟩
    refine RW.y (.inl rfl) rfl (Yv.fieldK (vs := [_, _]) Tryz.underlying38 rfl Tryz.isAgg32 Tryz.sizeOf32 rfl rfl) ?_
    refine RW.o _ (.inl rfl) rfl (Ow.call e9 rfl (C.new (val := fun (x : Option Addr × Nat) => .agg #[.int .i64 (N : Nat), .slice Am (mergeL l).length cm, .slice x.1 (List.replicate (mergeL l).length 0).length x.2]) (φ := fun _ => True) (Ψ := fun x => nowA (fun w' => Rd w' x.1 1 (List.replicate (mergeL l).length 0).length (i64s (List.replicate (mergeL l).length 0)))) (fun w2 hs => ref23New N Am cm (mergeL l) (by omega) w2))) ?_
    rintro _ _ ⟨q0, -, rfl, rfl⟩
    refine RW.o _ (.inl rfl) rfl (Ow.alloc (cs := [_, _, _]) Tryz.zeroValue35 rfl) ?_
    rintro _ _ ⟨b12, rfl, rfl⟩
    refine RW.y (.inl rfl) rfl (Yv.assign rfl) ?_
    refine RW.o _ (.inl rfl) rfl (Ow.storeW (vs := [_, _, _]) 0 Tryz.sizeOf35 rfl rfl (rfl) rfl (rfl)) ?_
    rintro _ _ ⟨rfl, rfl⟩
    refine RW.nil ?_
    refine PW.go ?_
    refine CW.seq ?_
    refine CW.seq ?_
    refine CW.mem _ (fun w h => h.front 3 rfl) ?_
    refine CW.mem _ (fun w h => h.split) ?_
    refine CW.mem _ (fun w h => h.front 1 rfl) ?_
    refine CW.mem _ (fun w h => h.front 6 rfl) ?_
    refine CW.mem _ (fun w h => h.front 5 rfl) ?_
    refine CW.mem _ (fun w h => h.front 4 rfl) ?_
    refine CW.mem _ (fun w h => h.front 5 rfl) ?_
    refine CW.mem _ (fun w h => h.front 5 rfl) ?_
    refine CW.mem _ (fun w h => h.front 5 rfl) ?_
    refine CW.region ?_
    refine RW.y (.inl rfl) rfl (Yv.assign rfl) ?_
    refine RW.nil ?_
    refine PW.go ?_
    refine CW.block ?_
    refine CW.loop (σ := Nat × List Int × (Option Addr × Nat)) (fun s => s.1 ≤ ops.length ∧ FlowOk (mergeL l) s.2.1) (fun s => [(2, .slice B ops.length d), (7, .pointer (some ⟨b7, 0, none⟩)), (11, .pointer (some ⟨R.b, 0, none⟩)), (12, .pointer (some ⟨b12, 0, none⟩)), (13, .int .i64 (s.1 : Nat))]) (fun s => [restA R N (2 * (mergeL l).length) (leftL (mergeL l) s.2.1) (overL N (mergeL l) s.2.1), nowA (fun w' => IsArcs w' R.ba (csrD N (mergeL l) out)), nowA (fun w' => Rd w' s.2.2.1 1 s.2.1.length (i64s s.2.1)), blk b12 [.int .i64 (N : Nat), .slice Am (mergeL l).length cm, .slice s.2.2.1 s.2.1.length s.2.2.2] 35, row (.slice Am (mergeL l).length cm) 79 3 (mergeL l).length (cellsE (mergeL l)), blk b7 [.int .i64 0, .slice none 0 0, .slice none 0 0] 35]) (fun s => ops.length - s.1) (0, (List.replicate (mergeL l).length 0), q0) (⟨by simp, hF0⟩) ⟨rfl, rfl, rfl, rfl, rfl, trivial⟩ (fun w h => (h).erase 6) ?_
    rintro ⟨k, f, q0⟩ ⟨hk, hF⟩
    (try dsimp only at *)
    refine CW.seq ?_
    refine CW.seq ?_
    refine CW.region ?_
    refine RW.y (.inl rfl) rfl (Yv.move rfl) ?_
    refine RW.y (.inl rfl) rfl (Yv.move rfl) ?_
    refine RW.y (.inl rfl) rfl (Yv.len Tryz.underlying23 rfl) ?_
    refine RW.y (.inl rfl) rfl (Yv.lt rfl rfl) ?_
    refine RW.nil ?_
    refine PW.go ?_
    refine CW.condD rfl (fun hc36 => ?_) (fun hc36 => ?_)
    ·
      have hko : k < ops.length := by omega
      obtain ⟨bO, oO, rfl, hbO, hcO⟩ := hrO.2.2 (by omega)
      obtain ⟨o, ho⟩ : ∃ x, ops[k]? = some x := ⟨_, List.getElem?_eq_getElem hko⟩
      have hca := cellsA_get ops k o ho
      obtain ⟨hb1, hb2⟩ := hb o (List.mem_of_getElem? ho)
      refine CW.skip ?_
      refine PW.go ?_
      refine CW.seq ?_
      refine CW.block ?_
      refine CW.seq ?_
      refine CW.drawE mixed (fun _ h => (h).erase 0) ?_
      refine HW.take 0 rfl (by kernel_rfl) (by kernel_rfl) (by kernel_rfl) (fun _ _ _ h => h) (.inl rfl) rfl (fun _ h => (h).erase 0) (Yv.move rfl) ?_
      refine HW.take 1 rfl (by kernel_rfl) (by kernel_rfl) (by kernel_rfl) (fun _ _ _ h => h) (.inl rfl) rfl (fun _ h => (h).erase 0) (Yv.move rfl) ?_
      refine HW.take 2 rfl (by kernel_rfl) (by kernel_rfl) (by kernel_rfl) (fun _ _ _ h => h) (.inl rfl) rfl (fun _ h => (h).erase 0) (Yv.move rfl) ?_
      refine HW.take 3 rfl (by kernel_rfl) (by kernel_rfl) (by kernel_rfl) (fun _ _ _ h => h) (.inl rfl) rfl (fun _ h => (h).erase 0) (Yv.indexK Tryz.underlying23 Tryz.sizeOf45 rfl rfl (by omega) (by omega)) ?_
      refine HW.take 4 rfl (by kernel_rfl) (by kernel_rfl) (by kernel_rfl) (fun _ _ _ h => h) (.inl rfl) rfl (fun _ h => (h).erase 0) (Yv.fieldAddr Tryz.underlying45 rfl Tryz.sizeOf3 rfl rfl) ?_
      refine HW.take 5 rfl (by kernel_rfl) (by kernel_rfl) (by kernel_rfl) (fun _ _ _ h => h) (.inl rfl) rfl (fun _ h => (h).erase 0) (Yv.load1 Tryz.isAgg3 rfl (CF.old (hcO _ _ hca.1) (not_none0 _))) ?_
      refine HW.take 6 rfl (by kernel_rfl) (by kernel_rfl) (by kernel_rfl) (fun _ _ _ h => h) (.inl rfl) rfl (fun _ h => (h).erase 0) (Yv.move rfl) ?_
      refine HW.take 7 rfl (by kernel_rfl) (by kernel_rfl) (by kernel_rfl) (fun _ _ _ h => h) (.inl rfl) rfl (fun _ h => (h).erase 0) (Yv.move rfl) ?_
      refine HW.take 8 rfl (by kernel_rfl) (by kernel_rfl) (by kernel_rfl) (fun _ _ _ h => h) (.inl rfl) rfl (fun _ h => (h).erase 0) (Yv.indexK Tryz.underlying23 Tryz.sizeOf45 rfl rfl (by omega) (by omega)) ?_
      refine HW.take 9 rfl (by kernel_rfl) (by kernel_rfl) (by kernel_rfl) (fun _ _ _ h => h) (.inl rfl) rfl (fun _ h => (h).erase 0) (Yv.fieldAddr Tryz.underlying45 rfl Tryz.sizeOf2 rfl rfl) ?_
      refine HW.take 10 rfl (by kernel_rfl) (by kernel_rfl) (by kernel_rfl) (fun _ _ _ h => h) (.inl rfl) rfl (fun _ h => (h).erase 0) (Yv.load1 Tryz.isAgg2 rfl (CF.old (hcO _ _ hca.2) (not_none0 _))) ?_
      refine HW.run 11 rfl (by kernel_rfl) _ (.inl rfl) rfl (Ow.call e14 rfl (C.mut0 (val := fun _ : List Int => .bool (decide (okPush (mergeL l) f o.1 o.2))) (Ψ := fun f_ => restA R (N) (2 * (mergeL l).length) (leftL (mergeL l) f_) (overL (N) (mergeL l) f_)) (φ := fun f_ => f_ = pushR (mergeL l) f o.1 o.2) (fun w2 F2 h2 h3 h4 => restPush R (csrD N (mergeL l) out) f hao hT hF o.1 o.2 w2 F2 h2 h3 (fun W hM => now_of (h4 W hM 0 _ rfl))))) (by rintro _ _ ⟨f', hf', rfl, rfl⟩ w h; exact (h).erase 0) ?_
      rintro _ _ ⟨f', hf', rfl, rfl⟩
      refine HW.done (by kernel_rfl) ?_
      refine PW.go ?_
      refine CW.drawE mixed (fun _ h => (h).erase 3) ?_
      refine HW.take 1 rfl (by kernel_rfl) (by kernel_rfl) (by kernel_rfl) (fun _ _ _ h => h) (.inl rfl) rfl (fun _ h => (h).erase 3) (Yv.move rfl) ?_
      refine HW.take 2 rfl (by kernel_rfl) (by kernel_rfl) (by kernel_rfl) (fun _ _ _ h => h) (.inl rfl) rfl (fun _ h => (h).erase 3) (Yv.move rfl) ?_
      refine HW.take 3 rfl (by kernel_rfl) (by kernel_rfl) (by kernel_rfl) (fun _ _ _ h => h) (.inl rfl) rfl (fun _ h => (h).erase 3) (Yv.indexK Tryz.underlying23 Tryz.sizeOf45 rfl rfl (by omega) (by omega)) ?_
      refine HW.take 4 rfl (by kernel_rfl) (by kernel_rfl) (by kernel_rfl) (fun _ _ _ h => h) (.inl rfl) rfl (fun _ h => (h).erase 3) (Yv.fieldAddr Tryz.underlying45 rfl Tryz.sizeOf3 rfl rfl) ?_
      refine HW.take 5 rfl (by kernel_rfl) (by kernel_rfl) (by kernel_rfl) (fun _ _ _ h => h) (.inl rfl) rfl (fun _ h => (h).erase 3) (Yv.load1 Tryz.isAgg3 rfl (CF.old (hcO _ _ hca.1) (not_none0 _))) ?_
      refine HW.take 6 rfl (by kernel_rfl) (by kernel_rfl) (by kernel_rfl) (fun _ _ _ h => h) (.inl rfl) rfl (fun _ h => (h).erase 3) (Yv.move rfl) ?_
      refine HW.take 7 rfl (by kernel_rfl) (by kernel_rfl) (by kernel_rfl) (fun _ _ _ h => h) (.inl rfl) rfl (fun _ h => (h).erase 3) (Yv.move rfl) ?_
      refine HW.take 8 rfl (by kernel_rfl) (by kernel_rfl) (by kernel_rfl) (fun _ _ _ h => h) (.inl rfl) rfl (fun _ h => (h).erase 3) (Yv.indexK Tryz.underlying23 Tryz.sizeOf45 rfl rfl (by omega) (by omega)) ?_
      refine HW.take 9 rfl (by kernel_rfl) (by kernel_rfl) (by kernel_rfl) (fun _ _ _ h => h) (.inl rfl) rfl (fun _ h => (h).erase 3) (Yv.fieldAddr Tryz.underlying45 rfl Tryz.sizeOf2 rfl rfl) ?_
      refine HW.take 10 rfl (by kernel_rfl) (by kernel_rfl) (by kernel_rfl) (fun _ _ _ h => h) (.inl rfl) rfl (fun _ h => (h).erase 3) (Yv.load1 Tryz.isAgg2 rfl (CF.old (hcO _ _ hca.2) (not_none0 _))) ?_
      refine HW.run 0 rfl (by kernel_rfl) _ (.inl rfl) rfl (Yv.ow (Yv.loadK (vs := [_, _, _]) Tryz.isAgg35 Tryz.sizeOf35 rfl (CFs.whole 3 rfl))) (by rintro _ _ ⟨rfl, rfl⟩ w h; exact (h).erase 3) ?_
      rintro _ _ ⟨rfl, rfl⟩
      refine HW.run 11 rfl (by kernel_rfl) _ (.inl rfl) rfl (Ow.call e13 rfl (C.new (val := fun (q : Option Addr × Nat) => .tuple #[.agg #[.int .i64 (N : Nat), .slice Am (mergeL l).length cm, .slice q.1 (pushR (mergeL l) f o.1 o.2).length q.2], .bool (decide (okPush (mergeL l) f o.1 o.2))]) (φ := fun q => ¬ okPush (mergeL l) f o.1 o.2 → q = (q0.1, q0.2)) (Ψ := fun q => nowA (fun w' => okPush (mergeL l) f o.1 o.2 → Rd w' q.1 1 (pushR (mergeL l) f o.1 o.2).length (i64s (pushR (mergeL l) f o.1 o.2)))) (fun w2 hs => ref23Push N Am cm (mergeL l) q0.1 q0.2 f w2 (hs.row_Rd 4 rfl (by omega)) (hs.now 2 rfl) hao hF o.1 o.2 hb1 hb2))) (by rintro _ _ ⟨q, hq, rfl, rfl⟩ w h; exact ((h).erase 0).erase 3) ?_
      rintro _ _ ⟨q, hq, rfl, rfl⟩
      refine HW.take 12 rfl (by kernel_rfl) (by kernel_rfl) (by kernel_rfl) (fun _ _ _ h => h) (.inl rfl) rfl (fun _ h => ((h).erase 0).erase 3) (Yv.move rfl) ?_
      refine HW.take 13 rfl (by kernel_rfl) (by kernel_rfl) (by kernel_rfl) (fun _ _ _ h => h) (.inl rfl) rfl (fun _ h => ((h).erase 0).erase 3) (Yv.extract rfl rfl) ?_
      refine HW.take 14 rfl (by kernel_rfl) (by kernel_rfl) (by kernel_rfl) (fun _ _ _ h => h) (.inl rfl) rfl (fun _ h => ((h).erase 0).erase 3) (Yv.extract rfl rfl) ?_
      refine HW.run 15 rfl (by kernel_rfl) _ (.inl rfl) rfl (Ow.storeW (vs := [_, _, _]) 4 Tryz.sizeOf35 rfl rfl (rfl) rfl (rfl)) (by rintro _ _ ⟨rfl, rfl⟩ w h; exact ((h).erase 0).erase 3) ?_
      rintro _ _ ⟨rfl, rfl⟩
      refine HW.done (by kernel_rfl) ?_
      refine PW.block ?_
      refine PW.go ?_
      refine CW.region ?_
      refine RW.y (.inl rfl) rfl (Yv.move rfl) ?_
      refine RW.y (.inl rfl) rfl (Yv.add rfl rfl (by omega)) ?_
      refine RW.y (.inl rfl) rfl (Yv.assign rfl) ?_
      refine RW.nil ?_
      subst hf'
      refine PW.mem _ (fun w h => h.front 3 rfl) ?_
      refine PW.mem _ (fun w h => h.front 1 rfl) ?_
      refine PW.mem _ (fun w h => h.nowJoin) ?_
      refine PW.mem _ (fun w h => h.nowWeak 0 rfl (fun w h => rd_new h.1 h.2 hq)) ?_
      refine PW.mem _ (fun w h => h.front 2 rfl) ?_
      refine PW.mem _ (fun w h => h.front 2 rfl) ?_
      exact PW.next (k + 1, (pushR (mergeL l) f o.1 o.2), q) (⟨by show k + 1 ≤ ops.length; omega, pushR_ok hF⟩) ⟨rfl, rfl, rfl, rfl, rfl, trivial⟩ (fun w h => h) (by show ops.length - (k + 1) < ops.length - k; omega)
    ·
      refine CW.exit ?_
      refine PW.then_exit ?_
      refine PW.then_exit ?_
      refine PW.block_exit ?_
      refine PW.go ?_
      refine CW.seq ?_
      refine CW.drawE mixed (fun _ h => (h).erase 5) ?_
      refine HW.take 0 rfl (by kernel_rfl) (by kernel_rfl) (by kernel_rfl) (fun _ _ _ h => h) (.inl rfl) rfl (fun _ h => (h).erase 5) (Yv.move rfl) ?_
      refine HW.take 1 rfl (by kernel_rfl) (by kernel_rfl) (by kernel_rfl) (fun _ _ _ h => h) (.inl rfl) rfl (fun _ h => (h).erase 5) (Yv.loadK (vs := [_, _, _]) Tryz.isAgg35 Tryz.sizeOf35 rfl (CFs.whole 3 rfl)) ?_
      refine HW.take 2 rfl (by kernel_rfl) (by kernel_rfl) (by kernel_rfl) (fun _ _ _ h => h) (.inl rfl) rfl (fun _ h => (h).erase 5) (Yv.assign rfl) ?_
      refine HW.run 3 rfl (by kernel_rfl) _ (.inl rfl) rfl (Ow.storeW (vs := [_, _, _]) 5 Tryz.sizeOf35 rfl rfl (rfl) rfl (rfl)) (by rintro _ _ ⟨rfl, rfl⟩ w h; exact (h).erase 5) ?_
      rintro _ _ ⟨rfl, rfl⟩
      refine HW.done (by kernel_rfl) ?_
      refine PW.go ?_
      refine CW.ret ?_
      refine PW.retTC (vs := [_, _, _]) Tryz.results28 rfl rfl Tryz.isAgg35 Tryz.sizeOf35 (CFs.whole 5 rfl) (fun w1 hs => ?_)
      obtain ⟨F, hF1, hF2⟩ := ((hs.front 1 rfl).join).out 0 rfl
      exact ⟨(R, out, f, (Am, cm), q0), ⟨hof, hF⟩, rfl, hs.mod.below, F, hF1, hF2⟩

def awk24 : List Edg := [⟨0, 1, 7⟩, ⟨1, 2, 3⟩]
theorem awk24_ok : NewOk 4 awk24 := newOk_of (by decide) (by decide) (by decide) (by decide)
theorem awk24_to : Dist 4 (nbT 4 (mergeL awk24) (List.replicate (mergeL awk24).length 0)) 2 [2, 1, 0, -1] := chk_dist (by decide)
theorem awk24_from : Dist 4 (nbF 4 (mergeL awk24) (List.replicate (mergeL awk24).length 0)) 0 [0, 1, 2, -1] := chk_dist (by decide)
theorem awk24_way : wayOf 4 (mergeL awk24) (List.replicate (mergeL awk24).length 0) [2, 1, 0, -1] 0 = [0, 2] := by decide
theorem awk24_room : roomP (([0, 2] : List Int).map (atI (leftL (mergeL awk24) (List.replicate (mergeL awk24).length 0)))) = 3 := by decide

set_option maxRecDepth 100000 in
theorem awake24 (w : World) : Calls Tryz.prog 27 #[] w fun e w1 => e = .returned (.bool true) ∧ Gr w w1 := by
  have hF0 := flow0 awk24_ok
  refine CW.enter (P := Tryz.prog) (F0 := none0) (L := []) 37 [] Tryz.func27 rfl Tryz.ntmps27 (Nat.le_of_ble_eq_true rfl) (St.start w none0) rfl ?_
  refine CW.seq ?_
  refine CW.region ?_
  refine RW.y (.inl rfl) rfl (Yv.assign rfl) ?_
  refine RW.nil ?_
  refine PW.go ?_
  refine CW.seq ?_
  refine CW.region ?_
  refine RW.y (.inl rfl) rfl (Yv.build rfl (fun w => by exact bld79_1_2 _ _ w)) ?_
  refine RW.y (.inl rfl) rfl (Yv.build rfl (fun w => by exact bld79_0_1_2 _ _ _ w)) ?_
  refine RW.o _ (.inl rfl) rfl (Ow.lit (len := 2) (vs := [_, _]) (cs := [_, _, _, _, _, _]) Tryz.underlying22 info79 rfl rfl rfl rfl rfl rfl rfl) ?_
  rintro _ _ ⟨b9, rfl, rfl⟩
  refine RW.o _ (.inl rfl) rfl (Ow.call e7 rfl (C.new (val := fun (b : Nat) => .tuple #[.pointer (some ⟨b, 0, none⟩), .int .i64 0, .int .i64 0]) (φ := fun _ => True) (Ψ := fun b => nowA (fun w' => IsNet w' b (netOf 4 awk24))) (fun w2 hs => (netNew_ok 4 (some ⟨b9, 0, none⟩) 2 awk24 w2 (hs.blk_Rd 0 rfl rfl (by decide)) awk24_ok).mono (fun en w3 ⟨b, ht, he, hb, F, hF, hk⟩ => ⟨b, ht, he, hb, F, hF, hk⟩)))) ?_
  rintro _ _ ⟨bg, -, rfl, rfl⟩
  refine RW.y (.inl rfl) rfl (Yv.move rfl) ?_
  refine RW.y (.inl rfl) rfl (Yv.extract rfl rfl) ?_
  refine RW.y (.inl rfl) rfl (Yv.extract rfl rfl) ?_
  refine RW.y (.inl rfl) rfl (Yv.extract rfl rfl) ?_
  refine RW.y (.inl rfl) rfl (Yv.assign rfl) ?_
  refine RW.y (.inl rfl) rfl (Yv.assign rfl) ?_
  refine RW.y (.inl rfl) rfl (Yv.assign rfl) ?_
  refine RW.nil ?_
  refine PW.go ?_
  refine CW.seq ?_
  refine CW.region ?_
  refine RW.y (.inl rfl) rfl (Yv.move rfl) ?_
  refine RW.o _ (.inl rfl) rfl (Ow.call e8 rfl (C.new (val := fun (x : RI × List Int) => .pointer (some ⟨x.1.b, 0, none⟩)) (φ := fun x => ∀ v, v < (4 : Int).toNat → (csrD ((4 : Int).toNat) (mergeL awk24) x.2).of v = outOf ((4 : Int).toNat) (mergeL awk24) v) (Ψ := fun x => Ass.star (nowA (fun w' => IsArcs w' x.1.ba (csrD ((4 : Int).toNat) (mergeL awk24) x.2))) (restA x.1 ((4 : Int).toNat) (2 * (mergeL awk24).length) (leftL (mergeL awk24) (List.replicate (mergeL awk24).length 0)) (overL ((4 : Int).toNat) (mergeL awk24) (List.replicate (mergeL awk24).length 0)))) (fun w2 hs => residNewG bg 4 awk24 awk24_ok w2 (hs.now 0 rfl)))) ?_
  rintro _ _ ⟨⟨R, out⟩, hof, rfl, rfl⟩
  refine RW.y (.inl rfl) rfl (Yv.assign rfl) ?_
  refine RW.nil ?_
  refine PW.go ?_
  refine CW.seq ?_
  refine CW.mem _ (fun w h => h.front 0 rfl) ?_
  refine CW.mem _ (fun w h => h.split) ?_
  refine CW.mem _ (fun w h => h.front 1 rfl) ?_
  refine CW.region ?_
  refine RW.y (.inl rfl) rfl (Yv.move rfl) ?_
  refine RW.o _ (.inl rfl) rfl (Ow.call e33 rfl (C.new (val := fun (x : List Int × Value) => x.2) (φ := fun x => ((0 ≤ (2 : Int) ∧ (2 : Int) < ((csrD (4 : Int).toNat (mergeL awk24) out)).n → Dist ((csrD (4 : Int).toNat (mergeL awk24) out)).n (nbT ((csrD (4 : Int).toNat (mergeL awk24) out)).n ((csrD (4 : Int).toNat (mergeL awk24) out)).l (List.replicate (mergeL awk24).length 0)) (2 : Int) x.1) ∧ (¬ (0 ≤ (2 : Int) ∧ (2 : Int) < ((csrD (4 : Int).toNat (mergeL awk24) out)).n) → x.1 = List.replicate ((csrD (4 : Int).toNat (mergeL awk24) out)).n (-1)))) (Ψ := fun x => row x.2 3 1 (wayOf ((csrD (4 : Int).toNat (mergeL awk24) out)).n ((csrD (4 : Int).toNat (mergeL awk24) out)).l (List.replicate (mergeL awk24).length 0) x.1 (0 : Int)).length (i64s (wayOf ((csrD (4 : Int).toNat (mergeL awk24) out)).n ((csrD (4 : Int).toNat (mergeL awk24) out)).l (List.replicate (mergeL awk24).length 0) x.1 (0 : Int)))) (fun w2 hs => levelWay R (csrD (4 : Int).toNat (mergeL awk24) out) (List.replicate (mergeL awk24).length 0) _ awk24_ok.arcs hF0 hof (0 : Int) (2 : Int) w2 (IsRest.of (D := (csrD (4 : Int).toNat (mergeL awk24) out)) (hs.hold 0 _ rfl) (hs.now 1 rfl))))) ?_
  rintro _ _ ⟨⟨out2, vw⟩, hwy, rfl, rfl⟩
  refine RW.y (.inl rfl) rfl (Yv.assign rfl) ?_
  refine RW.nil ?_
  refine PW.go ?_
  refine CW.seq ?_
  (try dsimp only)
  obtain rfl : out2 = [2, 1, 0, -1] := dist_unique (hwy.1 (by show (0 : Int) ≤ 2 ∧ (2 : Int) < ((4 : Nat) : Int); omega)) awk24_to
  have hw0 : wayOf (csrD (4 : Int).toNat (mergeL awk24) out).n (csrD (4 : Int).toNat (mergeL awk24) out).l (List.replicate (mergeL awk24).length 0) [2, 1, 0, -1] 0 = [0, 2] := awk24_way
  refine CW.mem _ (fun w h => h.row_eq (m' := 2) (xs' := i64s [0, 2]) 0 rfl (by rw [hw0]; rfl) (by rw [hw0])) ?_
  refine CW.facts _ (fun w h => h.row_slice 0 rfl) ?_
  rintro ⟨Aw, cw, rfl⟩
  refine CW.region ?_
  refine RW.y (.inl rfl) rfl (Yv.move rfl) ?_
  refine RW.y (.inl rfl) rfl (Yv.eq rfl rfl) ?_
  refine RW.y (.inl rfl) rfl (Yv.move rfl) ?_
  refine RW.isB (c := true) 20 rfl (by first | rfl | exact decide_eq_true (by decide) | decide) ?_
  refine RW.y (.inr ⟨_, _, 20, rfl, rfl, rfl⟩) rfl (Yv.move rfl) ?_
  refine RW.o _ (.inr ⟨_, _, 20, rfl, rfl, rfl⟩) rfl (Ow.call e75 rfl (C.new (val := fun (x : Nat × List Int) => .slice (some ⟨x.1, 0, none⟩) ((csrD (4 : Int).toNat (mergeL awk24) out)).n ((csrD (4 : Int).toNat (mergeL awk24) out)).n) (φ := fun x => ((0 ≤ (0 : Int) ∧ (0 : Int) < ((csrD (4 : Int).toNat (mergeL awk24) out)).n → Dist ((csrD (4 : Int).toNat (mergeL awk24) out)).n (nbF ((csrD (4 : Int).toNat (mergeL awk24) out)).n ((csrD (4 : Int).toNat (mergeL awk24) out)).l (List.replicate (mergeL awk24).length 0)) (0 : Int) x.2) ∧ (¬ (0 ≤ (0 : Int) ∧ (0 : Int) < ((csrD (4 : Int).toNat (mergeL awk24) out)).n) → x.2 = List.replicate ((csrD (4 : Int).toNat (mergeL awk24) out)).n (-1)))) (Ψ := fun x => row (.slice (some ⟨x.1, 0, none⟩) ((csrD (4 : Int).toNat (mergeL awk24) out)).n ((csrD (4 : Int).toNat (mergeL awk24) out)).n) 3 1 ((csrD (4 : Int).toNat (mergeL awk24) out)).n (i64s x.2)) (fun w2 hs => levelFrom R (csrD (4 : Int).toNat (mergeL awk24) out) (List.replicate (mergeL awk24).length 0) _ awk24_ok.arcs hof (0 : Int) w2 (IsRest.of (D := (csrD (4 : Int).toNat (mergeL awk24) out)) (hs.hold 1 _ rfl) (hs.now 2 rfl))))) ?_
  rintro _ _ ⟨⟨bt, out3⟩, hto, rfl, rfl⟩
  obtain rfl : out3 = [0, 1, 2, -1] := dist_unique (hto.1 (by show (0 : Int) ≤ 0 ∧ (0 : Int) < ((4 : Nat) : Int); omega)) awk24_from
  refine RW.o _ (.inr ⟨_, _, 20, rfl, rfl, rfl⟩) rfl (Ow.lit (len := 4) (vs := [_, _, _, _]) (cs := [_, _, _, _]) Tryz.underlying51 info3 rfl rfl rfl rfl rfl rfl rfl) ?_
  rintro _ _ ⟨b23, rfl, rfl⟩
  refine RW.o _ (.inr ⟨_, _, 20, rfl, rfl, rfl⟩) rfl (Ow.call e49 rfl (C.val (fun w hs => ref09Ints _ (some ⟨bt, 0, none⟩) 4 [0, 1, 2, -1] (hs.row_Rd 1 rfl (show 4 ≤ 4611686018427387904 by omega)) (some ⟨b23, 0, none⟩) 4 [0, 1, 2, -1] (hs.blk_Rd 0 rfl rfl (by decide))))) ?_
  rintro _ _ ⟨rfl, rfl⟩
  refine RW.y (.inl rfl) rfl (Yv.pickT rfl rfl) ?_
  refine RW.y (.inl rfl) rfl (Yv.move rfl) ?_
  refine RW.isB (c := true) 26 rfl (by first | rfl | exact decide_eq_true (by decide) | decide) ?_
  refine RW.y (.inr ⟨_, _, 26, rfl, rfl, rfl⟩) rfl (Yv.move rfl) ?_
  refine RW.o _ (.inr ⟨_, _, 26, rfl, rfl, rfl⟩) rfl (Ow.lit (len := 2) (vs := [_, _]) (cs := [_, _]) Tryz.underlying51 info3 rfl rfl rfl rfl rfl rfl rfl) ?_
  rintro _ _ ⟨b28, rfl, rfl⟩
  refine RW.o _ (.inr ⟨_, _, 26, rfl, rfl, rfl⟩) rfl (Ow.call e49 rfl (C.val (fun w hs => ref09Ints _ Aw cw [0, 2] (hs.row_Rd 3 rfl (show 2 ≤ 4611686018427387904 by omega)) (some ⟨b28, 0, none⟩) 2 [0, 2] (hs.blk_Rd 0 rfl rfl (by decide))))) ?_
  rintro _ _ ⟨rfl, rfl⟩
  refine RW.y (.inl rfl) rfl (Yv.pickT rfl rfl) ?_
  refine RW.y (.inl rfl) rfl (Yv.move rfl) ?_
  refine RW.isB (c := true) 31 rfl (by first | rfl | exact decide_eq_true (by decide) | decide) ?_
  refine RW.y (.inr ⟨_, _, 31, rfl, rfl, rfl⟩) rfl (Yv.move rfl) ?_
  refine RW.y (.inr ⟨_, _, 31, rfl, rfl, rfl⟩) rfl (Yv.move rfl) ?_
  refine RW.o _ (.inr ⟨_, _, 31, rfl, rfl, rfl⟩) rfl (Ow.call e34 rfl (C.val (fun w hs => (awk24_room ▸ levelRoom R (csrD (4 : Int).toNat (mergeL awk24) out) (List.replicate (mergeL awk24).length 0) _ awk24_ok.arcs Aw cw [0, 2] (show ∀ i ∈ ([0, 2] : List Int), 0 ≤ i ∧ i < 2 * ((mergeL awk24).length : Int) by decide) _ (hs.row_Rd 3 rfl (show 2 ≤ 4611686018427387904 by omega)) (IsRest.of (D := (csrD (4 : Int).toNat (mergeL awk24) out)) (hs.hold 4 _ rfl) (hs.now 5 rfl)))))) ?_
  rintro _ _ ⟨rfl, rfl⟩
  refine RW.y (.inr ⟨_, _, 31, rfl, rfl, rfl⟩) rfl (Yv.eq rfl rfl) ?_
  refine RW.y (.inl rfl) rfl (Yv.pickT rfl rfl) ?_
  refine RW.y (.inl rfl) rfl (Yv.assign rfl) ?_
  refine RW.nil ?_
  refine PW.go ?_
  refine CW.ret ?_
  refine PW.ret1 Tryz.results27 rfl (fun w1 hs => ?_)
  exact ⟨by first | rfl | (rw [decide_eq_true (by decide)]), hs.mod.below⟩

set_option maxRecDepth 100000 in
theorem levelFalls_long (n S T : Int) (V3 V4 : Value) (A B : Option Addr) (c d m mo : Nat) (w : World) (h : 40 < m ∨ 40 < mo ∨ 30 < n) : Calls Tryz.prog 5 #[.int .u8 n, .slice A m c, .agg #[.slice B mo d, .int .i64 S, .int .i64 T, V3, V4]] w fun e w1 => e = .returned (.bool true) ∧ Gr w w1 := by
  refine CW.enter (P := Tryz.prog) (F0 := none0) (L := [(0, _), (1, _), (2, _)]) 122 [] Tryz.func5 rfl Tryz.ntmps5 (Nat.le_of_ble_eq_true rfl) (St.start w none0) rfl ?_
  refine CW.seq ?_
  refine CW.region ?_
  refine RW.o _ (.inl rfl) rfl (Ow.box (cs := [_, _, _, _, _]) rfl rfl) ?_
  rintro _ _ ⟨b5, rfl, rfl⟩
  refine RW.y (.inl rfl) rfl (Yv.assign rfl) ?_
  refine RW.nil ?_
  refine PW.go ?_
  refine CW.seq ?_
  refine CW.seq ?_
  refine CW.region ?_
  refine RW.y (.inl rfl) rfl (Yv.move rfl) ?_
  refine RW.y (.inl rfl) rfl (Yv.len Tryz.underlying22 rfl) ?_
  refine RW.y (.inl rfl) rfl (Yv.gt rfl rfl) ?_
  refine RW.y (.inl rfl) rfl (Yv.move rfl) ?_
  refine RW.splitD 19 rfl (fun hc19 => ?_) (fun hc19 => ?_)
  ·
    refine RW.no ⟨_, _, 19, _, rfl, rfl, rfl, fun h => by simp [undef] at h⟩ rfl ?_
    refine RW.no ⟨_, _, 19, _, rfl, rfl, rfl, fun h => by simp [undef] at h⟩ rfl ?_
    refine RW.no ⟨_, _, 19, _, rfl, rfl, rfl, fun h => by simp [undef] at h⟩ rfl ?_
    refine RW.no ⟨_, _, 19, _, rfl, rfl, rfl, fun h => by simp [undef] at h⟩ rfl ?_
    refine RW.y (.inl rfl) rfl (Yv.pickT rfl rfl) ?_
    refine RW.y (.inl rfl) rfl (Yv.move rfl) ?_
    refine RW.no ⟨_, _, 25, _, rfl, rfl, rfl, fun h => by simp [undef] at h⟩ rfl ?_
    refine RW.no ⟨_, _, 25, _, rfl, rfl, rfl, fun h => by simp [undef] at h⟩ rfl ?_
    refine RW.y (.inl rfl) rfl (Yv.pickT rfl rfl) ?_
    refine RW.nil ?_
    refine PW.go ?_
    refine CW.condT rfl ?_
    refine CW.seq ?_
    refine CW.region ?_
    refine RW.o _ (.inl rfl) rfl (Ow.call e27 rfl (C.val (fun w hs => awake24 _))) ?_
    rintro _ _ ⟨rfl, rfl⟩
    refine RW.y (.inl rfl) rfl (Yv.assign rfl) ?_
    refine RW.nil ?_
    refine PW.go ?_
    refine CW.ret ?_
    refine PW.then_ret ?_
    refine PW.ret1 Tryz.results5 rfl (fun w1 hs => ?_)
    exact ⟨rfl, hs.mod.below⟩
  ·
    refine RW.y (.inr ⟨_, _, 19, rfl, rfl, rfl⟩) rfl (Yv.fieldAddr Tryz.underlying69 rfl Tryz.sizeOf23 rfl rfl) ?_
    refine RW.y (.inr ⟨_, _, 19, rfl, rfl, rfl⟩) rfl (Yv.load1 Tryz.isAgg23 rfl (CF.blk 0 rfl rfl)) ?_
    refine RW.y (.inr ⟨_, _, 19, rfl, rfl, rfl⟩) rfl (Yv.len Tryz.underlying23 rfl) ?_
    refine RW.y (.inr ⟨_, _, 19, rfl, rfl, rfl⟩) rfl (Yv.gt rfl rfl) ?_
    refine RW.y (.inl rfl) rfl (Yv.pickF rfl rfl) ?_
    refine RW.y (.inl rfl) rfl (Yv.move rfl) ?_
    refine RW.splitD 25 rfl (fun hc25 => ?_) (fun hc25 => ?_)
    ·
      refine RW.no ⟨_, _, 25, _, rfl, rfl, rfl, fun h => by simp [undef] at h⟩ rfl ?_
      refine RW.no ⟨_, _, 25, _, rfl, rfl, rfl, fun h => by simp [undef] at h⟩ rfl ?_
      refine RW.y (.inl rfl) rfl (Yv.pickT rfl rfl) ?_
      refine RW.nil ?_
      refine PW.go ?_
      refine CW.condT rfl ?_
      refine CW.seq ?_
      refine CW.region ?_
      refine RW.o _ (.inl rfl) rfl (Ow.call e27 rfl (C.val (fun w hs => awake24 _))) ?_
      rintro _ _ ⟨rfl, rfl⟩
      refine RW.y (.inl rfl) rfl (Yv.assign rfl) ?_
      refine RW.nil ?_
      refine PW.go ?_
      refine CW.ret ?_
      refine PW.then_ret ?_
      refine PW.ret1 Tryz.results5 rfl (fun w1 hs => ?_)
      exact ⟨rfl, hs.mod.below⟩
    ·
      refine RW.y (.inr ⟨_, _, 25, rfl, rfl, rfl⟩) rfl (Yv.move rfl) ?_
      refine RW.y (.inr ⟨_, _, 25, rfl, rfl, rfl⟩) rfl (Yv.gt rfl rfl) ?_
      refine RW.y (.inl rfl) rfl (Yv.pickF rfl rfl) ?_
      refine RW.nil ?_
      refine PW.go ?_
      refine CW.condD rfl (fun hc28 => ?_) (fun hc28 => ?_)
      ·
        refine CW.seq ?_
        refine CW.region ?_
        refine RW.o _ (.inl rfl) rfl (Ow.call e27 rfl (C.val (fun w hs => awake24 _))) ?_
        rintro _ _ ⟨rfl, rfl⟩
        refine RW.y (.inl rfl) rfl (Yv.assign rfl) ?_
        refine RW.nil ?_
        refine PW.go ?_
        refine CW.ret ?_
        refine PW.then_ret ?_
        refine PW.ret1 Tryz.results5 rfl (fun w1 hs => ?_)
        exact ⟨rfl, hs.mod.below⟩
      ·
        omega

set_option maxRecDepth 100000 in
theorem levelFalls_err (n : Int) (hn : 0 ≤ n ∧ n ≤ 255) (A : Option Addr) (c : Nat) (l : List Edg) (B : Option Addr) (d : Nat) (ops : List (Int × Int)) (S T : Int) (V3 V4 : Value) (w : World) (hr : Rd w A 3 l.length (cellsE l)) (hrO : Rd w B 2 ops.length (cellsA ops)) (hb : ∀ o ∈ ops, (-9223372036854775808 ≤ o.1 ∧ o.1 ≤ 9223372036854775807) ∧ -9223372036854775808 ≤ o.2 ∧ o.2 ≤ 9223372036854775807) (hl40 : l.length ≤ 40) (ho40 : ops.length ≤ 40) (hn30 : n ≤ 30) (k : Int) (i : Nat) (hk : k ≠ 0) (he : NewE n l k i) : Calls Tryz.prog 5 #[.int .u8 n, .slice A l.length c, .agg #[.slice B ops.length d, .int .i64 S, .int .i64 T, V3, V4]] w fun e w1 => e = .returned (.bool true) ∧ Gr w w1 := by
  refine CW.enter (P := Tryz.prog) (F0 := none0) (L := [(0, _), (1, _), (2, _)]) 122 [] Tryz.func5 rfl Tryz.ntmps5 (Nat.le_of_ble_eq_true rfl) (St.start w none0) rfl ?_
  refine CW.seq ?_
  refine CW.region ?_
  refine RW.o _ (.inl rfl) rfl (Ow.box (cs := [_, _, _, _, _]) rfl rfl) ?_
  rintro _ _ ⟨b5, rfl, rfl⟩
  refine RW.y (.inl rfl) rfl (Yv.assign rfl) ?_
  refine RW.nil ?_
  refine PW.go ?_
  refine CW.seq ?_
  refine CW.seq ?_
  refine CW.region ?_
  refine RW.y (.inl rfl) rfl (Yv.move rfl) ?_
  refine RW.y (.inl rfl) rfl (Yv.len Tryz.underlying22 rfl) ?_
  refine RW.y (.inl rfl) rfl (Yv.gt rfl rfl) ?_
  refine RW.y (.inl rfl) rfl (Yv.move rfl) ?_
  refine RW.isF 19 rfl (by omega) ?_
  refine RW.y (.inr ⟨_, _, 19, rfl, rfl, rfl⟩) rfl (Yv.fieldAddr Tryz.underlying69 rfl Tryz.sizeOf23 rfl rfl) ?_
  refine RW.y (.inr ⟨_, _, 19, rfl, rfl, rfl⟩) rfl (Yv.load1 Tryz.isAgg23 rfl (CF.blk 0 rfl rfl)) ?_
  refine RW.y (.inr ⟨_, _, 19, rfl, rfl, rfl⟩) rfl (Yv.len Tryz.underlying23 rfl) ?_
  refine RW.y (.inr ⟨_, _, 19, rfl, rfl, rfl⟩) rfl (Yv.gt rfl rfl) ?_
  refine RW.y (.inl rfl) rfl (Yv.pickF rfl rfl) ?_
  refine RW.y (.inl rfl) rfl (Yv.move rfl) ?_
  refine RW.isF 25 rfl (by omega) ?_
  refine RW.y (.inr ⟨_, _, 25, rfl, rfl, rfl⟩) rfl (Yv.move rfl) ?_
  refine RW.y (.inr ⟨_, _, 25, rfl, rfl, rfl⟩) rfl (Yv.gt rfl rfl) ?_
  refine RW.y (.inl rfl) rfl (Yv.pickF rfl rfl) ?_
  refine RW.nil ?_
  refine PW.go ?_
  refine CW.condD rfl (fun hc28 => ?_) (fun hc28 => ?_)
  ·
    omega
  ·
    refine CW.skip ?_
    refine PW.go ?_
    refine CW.seq ?_
    refine CW.region ?_
    refine RW.y (.inl rfl) rfl (Yv.move rfl) ?_
    refine RW.y (.inl rfl) rfl (Yv.move rfl) ?_
    refine RW.y (.inl rfl) rfl (Yv.fieldAddr Tryz.underlying69 rfl Tryz.sizeOf23 rfl rfl) ?_
    refine RW.y (.inl rfl) rfl (Yv.load1 Tryz.isAgg23 rfl (CF.blk 0 rfl rfl)) ?_
    refine RW.o _ (.inl rfl) rfl (Ow.call e28 rfl (C.val (fun w hs => rests_err n hn A c l B d ops _ (hr.below hs.mod.below) (hrO.below hs.mod.below) hb hl40 ho40 k i hk he))) ?_
    rintro _ _ ⟨rfl, rfl⟩
    refine RW.y (.inl rfl) rfl (Yv.move rfl) ?_
    refine RW.y (.inl rfl) rfl (Yv.extract rfl rfl) ?_
    refine RW.y (.inl rfl) rfl (Yv.extract rfl rfl) ?_
    refine RW.o _ (.inl rfl) rfl (Ow.alloc (cs := [_, _, _]) Tryz.zeroValue35 rfl) ?_
    rintro _ _ ⟨b8, rfl, rfl⟩
    refine RW.y (.inl rfl) rfl (Yv.assign rfl) ?_
    refine RW.o _ (.inl rfl) rfl (Ow.storeW (vs := [_, _, _]) 0 Tryz.sizeOf35 rfl rfl (rfl) rfl (rfl)) ?_
    rintro _ _ ⟨rfl, rfl⟩
    refine RW.nil ?_
    refine PW.go ?_
    refine CW.seq ?_
    refine CW.seq ?_
    refine CW.region ?_
    refine RW.y (.inl rfl) rfl (Yv.move rfl) ?_
    refine RW.y (.inl rfl) rfl (Yv.ptrNil Tryz.underlying29 rfl rfl) ?_
    refine RW.nil ?_
    refine PW.go ?_
    refine CW.cond rfl (fun hc39 => ?_) (fun hc39 => ?_)
    ·
      refine CW.seq ?_
      refine CW.region ?_
      refine RW.o _ (.inl rfl) rfl (Ow.call e27 rfl (C.val (fun w hs => awake24 _))) ?_
      rintro _ _ ⟨rfl, rfl⟩
      refine RW.y (.inl rfl) rfl (Yv.assign rfl) ?_
      refine RW.nil ?_
      refine PW.go ?_
      refine CW.ret ?_
      refine PW.then_ret ?_
      refine PW.ret1 Tryz.results5 rfl (fun w1 hs => ?_)
      exact ⟨rfl, hs.mod.below⟩
    ·
      cases hc39

set_option maxHeartbeats 1000000 in
set_option maxRecDepth 100000 in
theorem levelFalls_ok (n : Int) (hn : 0 ≤ n ∧ n ≤ 255) (A : Option Addr) (c : Nat) (l : List Edg) (B : Option Addr) (d : Nat) (ops : List (Int × Int)) (S T : Int) (V3 V4 : Value) (w : World) (hr : Rd w A 3 l.length (cellsE l)) (hrO : Rd w B 2 ops.length (cellsA ops)) (hb : ∀ o ∈ ops, (-9223372036854775808 ≤ o.1 ∧ o.1 ≤ 9223372036854775807) ∧ -9223372036854775808 ≤ o.2 ∧ o.2 ≤ 9223372036854775807) (hl40 : l.length ≤ 40) (ho40 : ops.length ≤ 40) (hn30 : n ≤ 30) (hok : NewOk n l) : Calls Tryz.prog 5 #[.int .u8 n, .slice A l.length c, .agg #[.slice B ops.length d, .int .i64 S, .int .i64 T, V3, V4]] w fun e w1 => e = .returned (.bool true) ∧ Gr w w1 := by
  obtain ⟨N, rfl⟩ : ∃ N : Nat, n = N := ⟨n.toNat, by omega⟩
  have hml := mergeL_length l
  have hao : ArcsOk N (mergeL l) := hok.arcs
  have hT := hok.mtot
  refine CW.enter (P := Tryz.prog) (F0 := none0) (L := [(0, _), (1, _), (2, _)]) 122 [] Tryz.func5 rfl Tryz.ntmps5 (Nat.le_of_ble_eq_true rfl) (St.start w none0) rfl ?_
  refine CW.seq ?_
  refine CW.region ?_
  refine RW.o _ (.inl rfl) rfl (Ow.box (cs := [_, _, _, _, _]) rfl rfl) ?_
  rintro _ _ ⟨b5, rfl, rfl⟩
  refine RW.y (.inl rfl) rfl (Yv.assign rfl) ?_
  refine RW.nil ?_
  refine PW.go ?_
  refine CW.seq ?_
  refine CW.seq ?_
  refine CW.region ?_
  refine RW.y (.inl rfl) rfl (Yv.move rfl) ?_
  refine RW.y (.inl rfl) rfl (Yv.len Tryz.underlying22 rfl) ?_
  refine RW.y (.inl rfl) rfl (Yv.gt rfl rfl) ?_
  refine RW.y (.inl rfl) rfl (Yv.move rfl) ?_
  refine RW.isF 19 rfl (by omega) ?_
  refine RW.y (.inr ⟨_, _, 19, rfl, rfl, rfl⟩) rfl (Yv.fieldAddr Tryz.underlying69 rfl Tryz.sizeOf23 rfl rfl) ?_
  refine RW.y (.inr ⟨_, _, 19, rfl, rfl, rfl⟩) rfl (Yv.load1 Tryz.isAgg23 rfl (CF.blk 0 rfl rfl)) ?_
  refine RW.y (.inr ⟨_, _, 19, rfl, rfl, rfl⟩) rfl (Yv.len Tryz.underlying23 rfl) ?_
  refine RW.y (.inr ⟨_, _, 19, rfl, rfl, rfl⟩) rfl (Yv.gt rfl rfl) ?_
  refine RW.y (.inl rfl) rfl (Yv.pickF rfl rfl) ?_
  refine RW.y (.inl rfl) rfl (Yv.move rfl) ?_
  refine RW.isF 25 rfl (by omega) ?_
  refine RW.y (.inr ⟨_, _, 25, rfl, rfl, rfl⟩) rfl (Yv.move rfl) ?_
  refine RW.y (.inr ⟨_, _, 25, rfl, rfl, rfl⟩) rfl (Yv.gt rfl rfl) ?_
  refine RW.y (.inl rfl) rfl (Yv.pickF rfl rfl) ?_
  refine RW.nil ?_
  refine PW.go ?_
  refine CW.condD rfl (fun hc28 => ?_) (fun hc28 => ?_)
  ·
    omega
  ·
    refine CW.skip ?_
    refine PW.go ?_
    refine CW.seq ?_
    refine CW.region ?_
    refine RW.y (.inl rfl) rfl (Yv.move rfl) ?_
    refine RW.y (.inl rfl) rfl (Yv.move rfl) ?_
    refine RW.y (.inl rfl) rfl (Yv.fieldAddr Tryz.underlying69 rfl Tryz.sizeOf23 rfl rfl) ?_
    refine RW.y (.inl rfl) rfl (Yv.load1 Tryz.isAgg23 rfl (CF.blk 0 rfl rfl)) ?_
    refine RW.o _ (.inl rfl) rfl (Ow.call e28 rfl (C.new (val := fun (x : RI × List Int × List Int × (Option Addr × Nat) × (Option Addr × Nat)) => .tuple #[.pointer (some ⟨x.1.b, 0, none⟩), .agg #[.int .i64 (N : Int), .slice x.2.2.2.1.1 (mergeL l).length x.2.2.2.1.2, .slice x.2.2.2.2.1 x.2.2.1.length x.2.2.2.2.2]]) (φ := fun x => (∀ v, v < N → (csrD N (mergeL l) x.2.1).of v = outOf N (mergeL l) v) ∧ FlowOk (mergeL l) x.2.2.1) (Ψ := fun x => Ass.star (nowA (fun w' => IsArcs w' x.1.ba (csrD N (mergeL l) x.2.1))) (restA x.1 N (2 * (mergeL l).length) (leftL (mergeL l) x.2.2.1) (overL N (mergeL l) x.2.2.1))) (fun w2 hs => rests_ok (N : Int) hn A c l B d ops w2 (hr.below hs.mod.below) (hrO.below hs.mod.below) hb hl40 ho40 hok))) ?_
    rintro _ _ ⟨⟨R, out, f, ⟨Am, cm⟩, q0⟩, ⟨hof, hF⟩, rfl, rfl⟩
    refine RW.y (.inl rfl) rfl (Yv.move rfl) ?_
    refine RW.y (.inl rfl) rfl (Yv.extract rfl rfl) ?_
    refine RW.y (.inl rfl) rfl (Yv.extract rfl rfl) ?_
    refine RW.o _ (.inl rfl) rfl (Ow.alloc (cs := [_, _, _]) Tryz.zeroValue35 rfl) ?_
    rintro _ _ ⟨b8, rfl, rfl⟩
    refine RW.y (.inl rfl) rfl (Yv.assign rfl) ?_
    refine RW.o _ (.inl rfl) rfl (Ow.storeW (vs := [_, _, _]) 0 Tryz.sizeOf35 rfl rfl (rfl) rfl (rfl)) ?_
    rintro _ _ ⟨rfl, rfl⟩
    refine RW.nil ?_
    refine PW.go ?_
    refine CW.seq ?_
    refine CW.seq ?_
    refine CW.mem _ (fun w h => h.front 1 rfl) ?_
    refine CW.mem _ (fun w h => h.split) ?_
    refine CW.mem _ (fun w h => h.front 1 rfl) ?_
    refine CW.region ?_
    refine RW.y (.inl rfl) rfl (Yv.move rfl) ?_
    refine RW.y (.inl rfl) rfl (Yv.ptrNil Tryz.underlying29 rfl rfl) ?_
    refine RW.nil ?_
    refine PW.go ?_
    refine CW.cond rfl (fun hc39 => ?_) (fun hc39 => ?_)
    ·
      cases hc39
    ·
      refine CW.skip ?_
      refine PW.go ?_
      refine CW.seq ?_
      refine CW.draw0 mixed ?_
      refine HW.take 0 rfl (by kernel_rfl) (by kernel_rfl) (by kernel_rfl) (fun _ _ _ h => h) (.inl rfl) rfl (fun _ h => h) (Yv.move rfl) ?_
      refine HW.take 2 rfl (by kernel_rfl) (by kernel_rfl) (by kernel_rfl) (fun _ _ _ h => h) (.inl rfl) rfl (fun _ h => h) (Yv.move rfl) ?_
      refine HW.take 3 rfl (by kernel_rfl) (by kernel_rfl) (by kernel_rfl) (fun _ _ _ h => h) (.inl rfl) rfl (fun _ h => h) (Yv.fieldAddr Tryz.underlying69 rfl Tryz.sizeOf3 rfl rfl) ?_
      refine HW.take 4 rfl (by kernel_rfl) (by kernel_rfl) (by kernel_rfl) (fun _ _ _ h => h) (.inl rfl) rfl (fun _ h => h) (Yv.load1 Tryz.isAgg3 rfl (CF.blk 3 rfl rfl)) ?_
      refine HW.run 1 rfl (by kernel_rfl) _ (.inl rfl) rfl (Ow.call e15 rfl (C.val (fun w hs => restArcs R N (2 * (mergeL l).length) _ (IsRest.of (D := (csrD N (mergeL l) out)) (hs.hold 0 _ rfl) (hs.now 1 rfl)).hb))) (by rintro _ _ ⟨rfl, rfl⟩ w h; exact h) ?_
      rintro _ _ ⟨rfl, rfl⟩
      refine HW.run 5 rfl (by kernel_rfl) _ (.inl rfl) rfl (Ow.call e29 rfl (C.new (val := fun (x : Nat × List Int) => .slice (some ⟨x.1, 0, none⟩) ((csrD N (mergeL l) out)).n ((csrD N (mergeL l) out)).n) (φ := fun x => ((0 ≤ T ∧ T < ((csrD N (mergeL l) out)).n → Dist ((csrD N (mergeL l) out)).n (nbT ((csrD N (mergeL l) out)).n ((csrD N (mergeL l) out)).l f) T x.2) ∧ (¬ (0 ≤ T ∧ T < ((csrD N (mergeL l) out)).n) → x.2 = List.replicate ((csrD N (mergeL l) out)).n (-1)))) (Ψ := fun x => row (.slice (some ⟨x.1, 0, none⟩) ((csrD N (mergeL l) out)).n ((csrD N (mergeL l) out)).n) 3 1 ((csrD N (mergeL l) out)).n (i64s x.2)) (fun w2 hs => levelTo R (csrD N (mergeL l) out) f _ hao hof T w2 (IsRest.of (D := (csrD N (mergeL l) out)) (hs.hold 0 _ rfl) (hs.now 1 rfl))))) (by rintro _ _ ⟨⟨bt, out3⟩, hto, rfl, rfl⟩ w h; exact (h).erase 0) ?_
      rintro _ _ ⟨⟨bt, out3⟩, hto, rfl, rfl⟩
      refine HW.take 6 rfl (by kernel_rfl) (by kernel_rfl) (by kernel_rfl) (fun _ _ _ h => h) (.inl rfl) rfl (fun _ h => (h).erase 0) (Yv.assign rfl) ?_
      refine HW.take 7 rfl (by kernel_rfl) (by kernel_rfl) (by kernel_rfl) (fun _ _ _ h => h) (.inl rfl) rfl (fun _ h => (h).erase 0) (Yv.assign rfl) ?_
      refine HW.done (by kernel_rfl) ?_
      refine PW.go ?_
      refine CW.seq ?_
      refine CW.seq ?_
      (try dsimp only at hto hof hF)
      have hlen3 : out3.length = N := by
        by_cases h : 0 ≤ T ∧ T < (N : Int)
        · exact (hto.1 h).len
        · rw [hto.2 h]; simp; rfl
      have hcl : ∀ i : Nat, i < 2 * (mergeL l).length → 0 < atI (leftL (mergeL l) f) (i : Int) → 0 ≤ oAt out3 (headOf (mergeL l) (i : Int)) → 0 ≤ oAt out3 (tailOf (mergeL l) (i : Int)) ∧ oAt out3 (tailOf (mergeL l) (i : Int)) ≤ oAt out3 (headOf (mergeL l) (i : Int)) + 1 := by
        intro i hi hl h0
        by_cases h : 0 ≤ T ∧ T < (N : Int)
        · exact (hto.1 h).clo _ h0 _ (mem_nbT hao hi hl)
        · rw [hto.2 h, oAt_rep] at h0; omega
      refine CW.mem _ (fun w h => h.front 4 rfl) ?_
      refine CW.mem _ (fun w h => h.front 3 rfl) ?_
      refine CW.mem _ (fun w h => h.front 3 rfl) ?_
      refine CW.mem _ (fun w h => h.front 3 rfl) ?_
      refine CW.region ?_
      refine RW.y (.inl rfl) rfl (Yv.assign rfl) ?_
      refine RW.nil ?_
      refine PW.go ?_
      refine CW.block ?_
      refine CW.loop (σ := Nat) (fun i => i ≤ 2 * (mergeL l).length) (fun i => [(5, .pointer (some ⟨b5, 0, none⟩)), (7, .pointer (some ⟨R.b, 0, none⟩)), (9, .pointer (some ⟨R.ba, 0, none⟩)), (10, .slice (some ⟨bt, 0, none⟩) N N), (11, .int .i64 (i : Nat))]) (fun i => [row (.slice (some ⟨bt, 0, none⟩) N N) 3 1 N (i64s out3), restA R N (2 * (mergeL l).length) (leftL (mergeL l) f) (overL N (mergeL l) f), nowA (fun w' => IsArcs w' R.ba (csrD N (mergeL l) out)), blk b5 [.slice B ops.length d, .int .i64 S, .int .i64 T, V3, V4] 69]) (fun i => 2 * (mergeL l).length - i) 0 (by simp) ⟨rfl, rfl, rfl, rfl, rfl, trivial⟩ (fun w h => (h).erase 4) ?_
      intro i hi
      refine CW.seq ?_
      refine CW.seq ?_
      refine CW.region ?_
      refine RW.y (.inl rfl) rfl (Yv.move rfl) ?_
      refine RW.y (.inl rfl) rfl (Yv.move rfl) ?_
      refine RW.o _ (.inl rfl) rfl (Ow.call e16 rfl (C.val (fun w hs => arcsLen R.ba (csrD N (mergeL l) out) _ (hs.now 2 rfl)))) ?_
      rintro _ _ ⟨rfl, rfl⟩
      refine RW.y (.inl rfl) rfl (Yv.lt rfl rfl) ?_
      refine RW.nil ?_
      refine PW.go ?_
      refine CW.condD rfl (fun hc50 => ?_) (fun hc50 => ?_)
      ·
        have hil : i < 2 * (mergeL l).length := Int.ofNat_lt.1 hc50
        refine CW.skip ?_
        refine PW.go ?_
        refine CW.seq ?_
        refine CW.block ?_
        refine CW.seq ?_
        have hhr := head_rng hao (i := (i : Int)) (by omega) (by omega)
        obtain ⟨xu, hxu⟩ : ∃ x, out3[(tailOf (mergeL l) (i : Int)).toNat]? = some x := ⟨_, List.getElem?_eq_getElem (by omega)⟩
        obtain ⟨xv, hxv⟩ : ∃ x, out3[(headOf (mergeL l) (i : Int)).toNat]? = some x := ⟨_, List.getElem?_eq_getElem (by omega)⟩
        have hou := oAt_of hhr.2.2.1 hxu
        have hov := oAt_of hhr.1 hxv
        have hci := hcl i hil
        rw [hou, hov] at hci
        have hxb : -1 ≤ xv ∧ xv ≤ 5000 := by
          by_cases h : 0 ≤ T ∧ T < (N : Int)
          · have := (hto.1 h).lo (headOf (mergeL l) (i : Int)); rw [hov] at this; exact ⟨this.1, Int.le_trans this.2 (by show (N : Int) ≤ 5000; omega)⟩
          · rw [hto.2 h, oAt_rep] at hov; omega
        refine CW.draw0 mixed ?_
        refine HW.take 0 rfl (by kernel_rfl) (by kernel_rfl) (by kernel_rfl) (fun _ _ _ h => h) (.inl rfl) rfl (fun _ h => h) (Yv.move rfl) ?_
        refine HW.take 1 rfl (by kernel_rfl) (by kernel_rfl) (by kernel_rfl) (fun _ _ _ h => h) (.inl rfl) rfl (fun _ h => h) (Yv.move rfl) ?_
        refine HW.take 2 rfl (by kernel_rfl) (by kernel_rfl) (by kernel_rfl) (fun _ _ _ h => h) (.inl rfl) rfl (fun _ h => h) (Yv.move rfl) ?_
        refine HW.take 6 rfl (by kernel_rfl) (by kernel_rfl) (by kernel_rfl) (fun _ _ _ h => h) (.inl rfl) rfl (fun _ h => h) (Yv.move rfl) ?_
        refine HW.take 7 rfl (by kernel_rfl) (by kernel_rfl) (by kernel_rfl) (fun _ _ _ h => h) (.inl rfl) rfl (fun _ h => h) (Yv.move rfl) ?_
        refine HW.take 8 rfl (by kernel_rfl) (by kernel_rfl) (by kernel_rfl) (fun _ _ _ h => h) (.inl rfl) rfl (fun _ h => h) (Yv.move rfl) ?_
        refine HW.run 3 rfl (by kernel_rfl) _ (.inl rfl) rfl (Ow.call e30 rfl (C.val (fun w hs => arcsTailT R.ba (csrD N (mergeL l) out) (i : Nat) (by omega) _ (show tailOf (mergeL l) (i : Int) = _ from rfl) _ (hs.now 2 rfl)))) (by rintro _ _ ⟨rfl, rfl⟩ w h; exact h) ?_
        rintro _ _ ⟨rfl, rfl⟩
        refine HW.take 4 rfl (by kernel_rfl) (by kernel_rfl) (by kernel_rfl) (fun _ _ _ h => h) (.inl rfl) rfl (fun _ h => h) (Yv.index0 Tryz.underlying51 Tryz.sizeOf3 rfl rfl (by omega) (by omega)) ?_
        refine HW.take 5 rfl (by kernel_rfl) (by kernel_rfl) (by kernel_rfl) (fun _ _ _ h => h) (.inl rfl) rfl (fun _ h => h) (Yv.load1 Tryz.isAgg3 rfl (CF.row 0 rfl (i64s_get _ _ _ hxu))) ?_
        refine HW.run 9 rfl (by kernel_rfl) _ (.inl rfl) rfl (Ow.call e31 rfl (C.val (fun w hs => arcsHeadT R.ba (csrD N (mergeL l) out) (i : Nat) _ (show headOf (mergeL l) (i : Int) = _ from rfl) _ (hs.now 2 rfl)))) (by rintro _ _ ⟨rfl, rfl⟩ w h; exact h) ?_
        rintro _ _ ⟨rfl, rfl⟩
        refine HW.take 10 rfl (by kernel_rfl) (by kernel_rfl) (by kernel_rfl) (fun _ _ _ h => h) (.inl rfl) rfl (fun _ h => h) (Yv.index0 Tryz.underlying51 Tryz.sizeOf3 rfl rfl (by omega) (by omega)) ?_
        refine HW.take 11 rfl (by kernel_rfl) (by kernel_rfl) (by kernel_rfl) (fun _ _ _ h => h) (.inl rfl) rfl (fun _ h => h) (Yv.load1 Tryz.isAgg3 rfl (CF.row 0 rfl (i64s_get _ _ _ hxv))) ?_
        refine HW.take 12 rfl (by kernel_rfl) (by kernel_rfl) (by kernel_rfl) (fun _ _ _ h => h) (.inl rfl) rfl (fun _ h => h) (Yv.assign rfl) ?_
        refine HW.take 13 rfl (by kernel_rfl) (by kernel_rfl) (by kernel_rfl) (fun _ _ _ h => h) (.inl rfl) rfl (fun _ h => h) (Yv.assign rfl) ?_
        refine HW.done (by kernel_rfl) ?_
        refine PW.go ?_
        refine CW.seq ?_
        refine CW.region ?_
        refine RW.y (.inl rfl) rfl (Yv.move rfl) ?_
        refine RW.y (.inl rfl) rfl (Yv.move rfl) ?_
        refine RW.o _ (.inl rfl) rfl (Ow.call e32 rfl (C.val (fun w hs => restLeftT R (csrD N (mergeL l) out) _ _ (i : Int) _ (IsRest.of (D := (csrD N (mergeL l) out)) (hs.hold 1 _ rfl) (hs.now 2 rfl)) (a := atI (leftL (mergeL l) f) (i : Int)) rfl))) ?_
        rintro _ _ ⟨rfl, rfl⟩
        refine RW.y (.inl rfl) rfl (Yv.gt rfl rfl) ?_
        refine RW.y (.inl rfl) rfl (Yv.move rfl) ?_
        refine RW.splitD 69 rfl (fun hc69 => ?_) (fun hc69 => ?_)
        ·
          refine RW.y (.inr ⟨_, _, 69, rfl, rfl, rfl⟩) rfl (Yv.move rfl) ?_
          refine RW.y (.inr ⟨_, _, 69, rfl, rfl, rfl⟩) rfl (Yv.ge rfl rfl) ?_
          refine RW.y (.inl rfl) rfl (Yv.pickT rfl rfl) ?_
          refine RW.y (.inl rfl) rfl (Yv.move rfl) ?_
          refine RW.splitD 73 rfl (fun hc73 => ?_) (fun hc73 => ?_)
          ·
            refine RW.y (.inr ⟨_, _, 73, rfl, rfl, rfl⟩) rfl (Yv.move rfl) ?_
            refine RW.y (.inr ⟨_, _, 73, rfl, rfl, rfl⟩) rfl (Yv.lt rfl rfl) ?_
            refine RW.y (.inr ⟨_, _, 73, rfl, rfl, rfl⟩) rfl (Yv.move rfl) ?_
            refine RW.splitD 76 rfl (fun hc76 => ?_) (fun hc76 => ?_)
            ·
              refine RW.no ⟨_, _, 76, _, rfl, rfl, rfl, fun h => by simp [undef] at h⟩ rfl ?_
              refine RW.no ⟨_, _, 76, _, rfl, rfl, rfl, fun h => by simp [undef] at h⟩ rfl ?_
              refine RW.no ⟨_, _, 76, _, rfl, rfl, rfl, fun h => by simp [undef] at h⟩ rfl ?_
              refine RW.no ⟨_, _, 76, _, rfl, rfl, rfl, fun h => by simp [undef] at h⟩ rfl ?_
              refine RW.y (.inr ⟨_, _, 73, rfl, rfl, rfl⟩) rfl (Yv.pickT rfl rfl) ?_
              refine RW.y (.inl rfl) rfl (Yv.pickT rfl rfl) ?_
              refine RW.nil ?_
              refine PW.go ?_
              refine CW.condT rfl ?_
              refine CW.seq ?_
              refine CW.region ?_
              refine RW.y (.inl rfl) rfl (Yv.assign rfl) ?_
              refine RW.nil ?_
              refine PW.go ?_
              refine CW.ret ?_
              refine PW.block_ret ?_
              refine PW.then_ret ?_
              refine PW.then_ret ?_
              refine PW.block_ret ?_
              refine PW.then_ret ?_
              refine PW.ret1 Tryz.results5 rfl (fun w1 hs => ?_)
              exfalso; omega
            ·
              refine RW.y (.inr ⟨_, _, 76, rfl, rfl, rfl⟩) rfl (Yv.move rfl) ?_
              refine RW.y (.inr ⟨_, _, 76, rfl, rfl, rfl⟩) rfl (Yv.move rfl) ?_
              refine RW.y (.inr ⟨_, _, 76, rfl, rfl, rfl⟩) rfl (Yv.add rfl rfl (by omega)) ?_
              refine RW.y (.inr ⟨_, _, 76, rfl, rfl, rfl⟩) rfl (Yv.gt rfl rfl) ?_
              refine RW.y (.inr ⟨_, _, 73, rfl, rfl, rfl⟩) rfl (Yv.pickF rfl rfl) ?_
              refine RW.y (.inl rfl) rfl (Yv.pickT rfl rfl) ?_
              refine RW.nil ?_
              refine PW.go ?_
              refine CW.condD rfl (fun hc82 => ?_) (fun hc82 => ?_)
              ·
                omega
              ·
                refine CW.skip ?_
                refine PW.block ?_
                refine PW.go ?_
                refine CW.region ?_
                refine RW.y (.inl rfl) rfl (Yv.move rfl) ?_
                refine RW.y (.inl rfl) rfl (Yv.add rfl rfl (by omega)) ?_
                refine RW.y (.inl rfl) rfl (Yv.assign rfl) ?_
                refine RW.nil ?_
                exact PW.next (i + 1) (by omega) ⟨rfl, rfl, rfl, rfl, rfl, trivial⟩ (fun w h => h) (by omega)
          ·
            refine RW.no ⟨_, _, 73, _, rfl, rfl, rfl, fun h => by simp [undef] at h⟩ rfl ?_
            refine RW.no ⟨_, _, 73, _, rfl, rfl, rfl, fun h => by simp [undef] at h⟩ rfl ?_
            refine RW.no ⟨_, _, 73, _, rfl, rfl, rfl, fun h => by simp [undef] at h⟩ rfl ?_
            refine RW.no ⟨_, _, 76, _, rfl, rfl, rfl, fun h => by simp [undef] at h⟩ rfl ?_
            refine RW.no ⟨_, _, 76, _, rfl, rfl, rfl, fun h => by simp [undef] at h⟩ rfl ?_
            refine RW.no ⟨_, _, 76, _, rfl, rfl, rfl, fun h => by simp [undef] at h⟩ rfl ?_
            refine RW.no ⟨_, _, 76, _, rfl, rfl, rfl, fun h => by simp [undef] at h⟩ rfl ?_
            refine RW.no ⟨_, _, 73, _, rfl, rfl, rfl, fun h => by simp [undef] at h⟩ rfl ?_
            refine RW.y (.inl rfl) rfl (Yv.pickF rfl rfl) ?_
            refine RW.nil ?_
            refine PW.go ?_
            refine CW.condF rfl ?_
            refine CW.skip ?_
            refine PW.block ?_
            refine PW.go ?_
            refine CW.region ?_
            refine RW.y (.inl rfl) rfl (Yv.move rfl) ?_
            refine RW.y (.inl rfl) rfl (Yv.add rfl rfl (by omega)) ?_
            refine RW.y (.inl rfl) rfl (Yv.assign rfl) ?_
            refine RW.nil ?_
            exact PW.next (i + 1) (by omega) ⟨rfl, rfl, rfl, rfl, rfl, trivial⟩ (fun w h => h) (by omega)
        ·
          refine RW.no ⟨_, _, 69, _, rfl, rfl, rfl, fun h => by simp [undef] at h⟩ rfl ?_
          refine RW.no ⟨_, _, 69, _, rfl, rfl, rfl, fun h => by simp [undef] at h⟩ rfl ?_
          refine RW.y (.inl rfl) rfl (Yv.pickF rfl rfl) ?_
          refine RW.y (.inl rfl) rfl (Yv.move rfl) ?_
          refine RW.no ⟨_, _, 73, _, rfl, rfl, rfl, fun h => by simp [undef] at h⟩ rfl ?_
          refine RW.no ⟨_, _, 73, _, rfl, rfl, rfl, fun h => by simp [undef] at h⟩ rfl ?_
          refine RW.no ⟨_, _, 73, _, rfl, rfl, rfl, fun h => by simp [undef] at h⟩ rfl ?_
          refine RW.no ⟨_, _, 76, _, rfl, rfl, rfl, fun h => by simp [undef] at h⟩ rfl ?_
          refine RW.no ⟨_, _, 76, _, rfl, rfl, rfl, fun h => by simp [undef] at h⟩ rfl ?_
          refine RW.no ⟨_, _, 76, _, rfl, rfl, rfl, fun h => by simp [undef] at h⟩ rfl ?_
          refine RW.no ⟨_, _, 76, _, rfl, rfl, rfl, fun h => by simp [undef] at h⟩ rfl ?_
          refine RW.no ⟨_, _, 73, _, rfl, rfl, rfl, fun h => by simp [undef] at h⟩ rfl ?_
          refine RW.y (.inl rfl) rfl (Yv.pickF rfl rfl) ?_
          refine RW.nil ?_
          refine PW.go ?_
          refine CW.condF rfl ?_
          refine CW.skip ?_
          refine PW.block ?_
          refine PW.go ?_
          refine CW.region ?_
          refine RW.y (.inl rfl) rfl (Yv.move rfl) ?_
          refine RW.y (.inl rfl) rfl (Yv.add rfl rfl (by omega)) ?_
          refine RW.y (.inl rfl) rfl (Yv.assign rfl) ?_
          refine RW.nil ?_
          exact PW.next (i + 1) (by omega) ⟨rfl, rfl, rfl, rfl, rfl, trivial⟩ (fun w h => h) (by omega)
      ·
        have hil : ¬ i < 2 * (mergeL l).length := fun h => hc50 (Int.ofNat_lt.2 h)
        refine CW.exit ?_
        refine PW.then_exit ?_
        refine PW.then_exit ?_
        refine PW.block_exit ?_
        refine PW.go ?_
        refine CW.seq ?_
        refine CW.region ?_
        refine RW.y (.inl rfl) rfl (Yv.move rfl) ?_
        refine RW.y (.inl rfl) rfl (Yv.fieldAddr Tryz.underlying69 rfl Tryz.sizeOf3 rfl rfl) ?_
        refine RW.y (.inl rfl) rfl (Yv.load1 Tryz.isAgg3 rfl (CF.blk 3 rfl rfl)) ?_
        refine RW.y (.inl rfl) rfl (Yv.fieldAddr Tryz.underlying69 rfl Tryz.sizeOf3 rfl rfl) ?_
        refine RW.y (.inl rfl) rfl (Yv.load1 Tryz.isAgg3 rfl (CF.blk 3 rfl rfl)) ?_
        refine RW.o _ (.inl rfl) rfl (Ow.call e33 rfl (C.new (val := fun (x : List Int × Value) => x.2) (φ := fun x => ((0 ≤ T ∧ T < ((csrD N (mergeL l) out)).n → Dist ((csrD N (mergeL l) out)).n (nbT ((csrD N (mergeL l) out)).n ((csrD N (mergeL l) out)).l f) T x.1) ∧ (¬ (0 ≤ T ∧ T < ((csrD N (mergeL l) out)).n) → x.1 = List.replicate ((csrD N (mergeL l) out)).n (-1)))) (Ψ := fun x => row x.2 3 1 (wayOf ((csrD N (mergeL l) out)).n ((csrD N (mergeL l) out)).l f x.1 S).length (i64s (wayOf ((csrD N (mergeL l) out)).n ((csrD N (mergeL l) out)).l f x.1 S))) (fun w2 hs => levelWay R (csrD N (mergeL l) out) f _ hao hF hof S T w2 (IsRest.of (D := (csrD N (mergeL l) out)) (hs.hold 1 _ rfl) (hs.now 2 rfl))))) ?_
        rintro _ _ ⟨⟨out2, vw⟩, hwy, rfl, rfl⟩
        refine RW.y (.inl rfl) rfl (Yv.assign rfl) ?_
        refine RW.nil ?_
        refine PW.go ?_
        refine CW.seq ?_
        (try dsimp only at hwy ⊢)
        have heq : ∀ u, oAt out2 u = oAt out3 u := by
          intro u
          by_cases h : 0 ≤ T ∧ T < (N : Int)
          · exact dist_at (hwy.1 h) (hto.1 h) u
          · rw [hwy.2 h, hto.2 h]
        have hlo : ∀ u, -1 ≤ oAt out3 u := by
          intro u
          by_cases h : 0 ≤ T ∧ T < (N : Int)
          · exact ((hto.1 h).lo u).1
          · rw [hto.2 h, oAt_rep]; omega
        have hwl := wayOf_length (n := N) (l := mergeL l) (f := f) (out := out2) (s := S) (by rw [heq]; exact hlo S)
        rw [heq] at hwl
        have hwb : (wayOf N (mergeL l) f out2 S).length ≤ 5000 := by
          have h5 : oAt out3 S ≤ 5000 := by
            by_cases h : 0 ≤ T ∧ T < (N : Int)
            · exact Int.le_trans ((hto.1 h).lo S).2 (by show (N : Int) ≤ 5000; omega)
            · rw [hto.2 h, oAt_rep]; omega
          have h6 := hwl
          rw [Int.max_def] at h6
          split at h6 <;> omega
        refine CW.facts _ (fun w h => h.row_slice 0 rfl) ?_
        rintro ⟨Aw, cw, rfl⟩
        refine CW.region ?_
        refine RW.y (.inl rfl) rfl (Yv.assign rfl) ?_
        refine RW.nil ?_
        refine PW.go ?_
        refine CW.seq ?_
        refine CW.seq ?_
        refine CW.region ?_
        refine RW.y (.inl rfl) rfl (Yv.fieldAddr Tryz.underlying69 rfl Tryz.sizeOf3 rfl rfl) ?_
        refine RW.y (.inl rfl) rfl (Yv.load1 Tryz.isAgg3 rfl (CF.blk 4 rfl rfl)) ?_
        refine RW.y (.inl rfl) rfl (Yv.ge rfl rfl) ?_
        refine RW.y (.inl rfl) rfl (Yv.move rfl) ?_
        refine RW.splitD 92 rfl (fun hc92 => ?_) (fun hc92 => ?_)
        ·
          refine RW.y (.inr ⟨_, _, 92, rfl, rfl, rfl⟩) rfl (Yv.fieldAddr Tryz.underlying69 rfl Tryz.sizeOf3 rfl rfl) ?_
          refine RW.y (.inr ⟨_, _, 92, rfl, rfl, rfl⟩) rfl (Yv.load1 Tryz.isAgg3 rfl (CF.blk 4 rfl rfl)) ?_
          refine RW.y (.inr ⟨_, _, 92, rfl, rfl, rfl⟩) rfl (Yv.move rfl) ?_
          refine RW.y (.inr ⟨_, _, 92, rfl, rfl, rfl⟩) rfl (Yv.len Tryz.underlying51 rfl) ?_
          refine RW.y (.inr ⟨_, _, 92, rfl, rfl, rfl⟩) rfl (Yv.lt rfl rfl) ?_
          refine RW.y (.inl rfl) rfl (Yv.pickT rfl rfl) ?_
          refine RW.nil ?_
          refine PW.go ?_
          refine CW.condD rfl (fun hc98 => ?_) (fun hc98 => ?_)
          ·
            obtain ⟨xs, hxs⟩ : ∃ x, out3[S.toNat]? = some x := ⟨_, List.getElem?_eq_getElem (by omega)⟩
            have hoS := oAt_of (by omega) hxs
            rw [hoS] at hwl
            refine CW.region ?_
            refine RW.y (.inl rfl) rfl (Yv.move rfl) ?_
            refine RW.y (.inl rfl) rfl (Yv.fieldAddr Tryz.underlying69 rfl Tryz.sizeOf3 rfl rfl) ?_
            refine RW.y (.inl rfl) rfl (Yv.load1 Tryz.isAgg3 rfl (CF.blk 4 rfl rfl)) ?_
            refine RW.y (.inl rfl) rfl (Yv.index0 Tryz.underlying51 Tryz.sizeOf3 rfl rfl (by omega) (by omega)) ?_
            refine RW.y (.inl rfl) rfl (Yv.load1 Tryz.isAgg3 rfl (CF.row 1 rfl (i64s_get _ _ _ hxs))) ?_
            refine RW.y (.inl rfl) rfl (Yv.max rfl rfl) ?_
            refine RW.y (.inl rfl) rfl (Yv.assign rfl) ?_
            refine RW.nil ?_
            refine PW.go ?_
            refine CW.seq ?_
            refine CW.region ?_
            refine RW.y (.inl rfl) rfl (Yv.move rfl) ?_
            refine RW.y (.inl rfl) rfl (Yv.lenRow 0 Tryz.underlying51 rfl rfl) ?_
            refine RW.y (.inl rfl) rfl (Yv.move rfl) ?_
            refine RW.y (.inl rfl) rfl (Yv.eq rfl rfl) ?_
            refine RW.y (.inl rfl) rfl (Yv.move rfl) ?_
            refine RW.isT 109 rfl (by first | exact hwl | (rw [show (0 : Int) = max 0 (-1) from rfl]; exact hwl)) ?_
            refine RW.y (.inr ⟨_, _, 109, rfl, rfl, rfl⟩) rfl (Yv.move rfl) ?_
            refine RW.y (.inr ⟨_, _, 109, rfl, rfl, rfl⟩) rfl (Yv.eq rfl rfl) ?_
            refine RW.y (.inr ⟨_, _, 109, rfl, rfl, rfl⟩) rfl (Yv.move rfl) ?_
            refine RW.splitD 112 rfl (fun hc112 => ?_) (fun hc112 => ?_)
            ·
              refine RW.no ⟨_, _, 112, _, rfl, rfl, rfl, fun h => by simp [undef] at h⟩ rfl ?_
              refine RW.no ⟨_, _, 112, _, rfl, rfl, rfl, fun h => by simp [undef] at h⟩ rfl ?_
              refine RW.no ⟨_, _, 112, _, rfl, rfl, rfl, fun h => by simp [undef] at h⟩ rfl ?_
              refine RW.no ⟨_, _, 112, _, rfl, rfl, rfl, fun h => by simp [undef] at h⟩ rfl ?_
              refine RW.y (.inr ⟨_, _, 109, rfl, rfl, rfl⟩) rfl (Yv.pickT rfl rfl) ?_
              refine RW.y (.inl rfl) rfl (Yv.pickT rfl rfl) ?_
              refine RW.y (.inl rfl) rfl (Yv.move rfl) ?_
              refine RW.o _ (.inr ⟨_, _, 119, rfl, rfl, rfl⟩) rfl (Ow.call e27 rfl (C.val (fun w hs => awake24 _))) ?_
              rintro _ _ ⟨rfl, rfl⟩
              refine RW.y (.inl rfl) rfl (Yv.pickT rfl rfl) ?_
              refine RW.y (.inl rfl) rfl (Yv.assign rfl) ?_
              refine RW.nil ?_
              refine PW.go ?_
              refine CW.ret ?_
              refine PW.ret1 Tryz.results5 rfl (fun w1 hs => ?_)
              exact ⟨by first | rfl | simp, hs.mod.below⟩
            ·
              have hTr : 0 ≤ T ∧ T < (N : Int) := by
                refine Classical.byContradiction fun h => ?_
                have h2 : oAt out3 S = -1 := by rw [hto.2 h, oAt_rep]
                rw [hoS] at h2
                first
                | (rw [h2] at hc112; exact hc112 rfl)
                | exact hc112 rfl
              have hwa := wayOf_arcs (s := S) hao (hwy.1 hTr)
              have hwn : wayOf N (mergeL l) f out2 S ≠ [] := by
                intro h
                rw [h] at hwl
                first
                | exact hc112 hwl.symm
                | exact hc112 rfl
              refine RW.y (.inr ⟨_, _, 112, rfl, rfl, rfl⟩) rfl (Yv.move rfl) ?_
              refine RW.y (.inr ⟨_, _, 112, rfl, rfl, rfl⟩) rfl (Yv.move rfl) ?_
              refine RW.o _ (.inr ⟨_, _, 112, rfl, rfl, rfl⟩) rfl (Ow.call e34 rfl (C.val (fun w hs => levelRoom R (csrD N (mergeL l) out) f _ hao Aw cw (wayOf N (mergeL l) f out2 S) (fun i hi => (hwa i hi).1) _ (hs.row_Rd 0 rfl (show (wayOf N (mergeL l) f out2 S).length ≤ 4611686018427387904 by omega)) (IsRest.of (D := (csrD N (mergeL l) out)) (hs.hold 2 _ rfl) (hs.now 3 rfl))))) ?_
              rintro _ _ ⟨rfl, rfl⟩
              refine RW.y (.inr ⟨_, _, 112, rfl, rfl, rfl⟩) rfl (Yv.gt rfl rfl) ?_
              refine RW.y (.inr ⟨_, _, 109, rfl, rfl, rfl⟩) rfl (Yv.pickF rfl rfl) ?_
              refine RW.y (.inl rfl) rfl (Yv.pickT rfl rfl) ?_
              refine RW.y (.inl rfl) rfl (Yv.move rfl) ?_
              refine RW.isT 119 rfl (roomP_pos (by simpa using hwn) (fun x hx => by obtain ⟨i, hi, rfl⟩ := List.mem_map.1 hx; exact (hwa i hi).2)) ?_
              refine RW.o _ (.inr ⟨_, _, 119, rfl, rfl, rfl⟩) rfl (Ow.call e27 rfl (C.val (fun w hs => awake24 _))) ?_
              rintro _ _ ⟨rfl, rfl⟩
              refine RW.y (.inl rfl) rfl (Yv.pickT rfl rfl) ?_
              refine RW.y (.inl rfl) rfl (Yv.assign rfl) ?_
              refine RW.nil ?_
              refine PW.go ?_
              refine CW.ret ?_
              refine PW.ret1 Tryz.results5 rfl (fun w1 hs => ?_)
              exact ⟨by first | rfl | simp, hs.mod.below⟩
          ·
            have hoS : oAt out3 S = -1 := oAt_out (by omega)
            rw [hoS] at hwl
            refine CW.skip ?_
            refine PW.go ?_
            refine CW.seq ?_
            refine CW.region ?_
            refine RW.y (.inl rfl) rfl (Yv.move rfl) ?_
            refine RW.y (.inl rfl) rfl (Yv.lenRow 0 Tryz.underlying51 rfl rfl) ?_
            refine RW.y (.inl rfl) rfl (Yv.move rfl) ?_
            refine RW.y (.inl rfl) rfl (Yv.eq rfl rfl) ?_
            refine RW.y (.inl rfl) rfl (Yv.move rfl) ?_
            refine RW.isT 109 rfl (by first | exact hwl | (rw [show (0 : Int) = max 0 (-1) from rfl]; exact hwl)) ?_
            refine RW.y (.inr ⟨_, _, 109, rfl, rfl, rfl⟩) rfl (Yv.move rfl) ?_
            refine RW.y (.inr ⟨_, _, 109, rfl, rfl, rfl⟩) rfl (Yv.eq rfl rfl) ?_
            refine RW.y (.inr ⟨_, _, 109, rfl, rfl, rfl⟩) rfl (Yv.move rfl) ?_
            refine RW.splitD 112 rfl (fun hc112 => ?_) (fun hc112 => ?_)
            ·
              refine RW.no ⟨_, _, 112, _, rfl, rfl, rfl, fun h => by simp [undef] at h⟩ rfl ?_
              refine RW.no ⟨_, _, 112, _, rfl, rfl, rfl, fun h => by simp [undef] at h⟩ rfl ?_
              refine RW.no ⟨_, _, 112, _, rfl, rfl, rfl, fun h => by simp [undef] at h⟩ rfl ?_
              refine RW.no ⟨_, _, 112, _, rfl, rfl, rfl, fun h => by simp [undef] at h⟩ rfl ?_
              refine RW.y (.inr ⟨_, _, 109, rfl, rfl, rfl⟩) rfl (Yv.pickT rfl rfl) ?_
              refine RW.y (.inl rfl) rfl (Yv.pickT rfl rfl) ?_
              refine RW.y (.inl rfl) rfl (Yv.move rfl) ?_
              refine RW.o _ (.inr ⟨_, _, 119, rfl, rfl, rfl⟩) rfl (Ow.call e27 rfl (C.val (fun w hs => awake24 _))) ?_
              rintro _ _ ⟨rfl, rfl⟩
              refine RW.y (.inl rfl) rfl (Yv.pickT rfl rfl) ?_
              refine RW.y (.inl rfl) rfl (Yv.assign rfl) ?_
              refine RW.nil ?_
              refine PW.go ?_
              refine CW.ret ?_
              refine PW.ret1 Tryz.results5 rfl (fun w1 hs => ?_)
              exact ⟨by first | rfl | simp, hs.mod.below⟩
            ·
              have hTr : 0 ≤ T ∧ T < (N : Int) := by
                refine Classical.byContradiction fun h => ?_
                have h2 : oAt out3 S = -1 := by rw [hto.2 h, oAt_rep]
                rw [hoS] at h2
                first
                | (rw [h2] at hc112; exact hc112 rfl)
                | exact hc112 rfl
              have hwa := wayOf_arcs (s := S) hao (hwy.1 hTr)
              have hwn : wayOf N (mergeL l) f out2 S ≠ [] := by
                intro h
                rw [h] at hwl
                first
                | exact hc112 hwl.symm
                | exact hc112 rfl
              refine RW.y (.inr ⟨_, _, 112, rfl, rfl, rfl⟩) rfl (Yv.move rfl) ?_
              refine RW.y (.inr ⟨_, _, 112, rfl, rfl, rfl⟩) rfl (Yv.move rfl) ?_
              refine RW.o _ (.inr ⟨_, _, 112, rfl, rfl, rfl⟩) rfl (Ow.call e34 rfl (C.val (fun w hs => levelRoom R (csrD N (mergeL l) out) f _ hao Aw cw (wayOf N (mergeL l) f out2 S) (fun i hi => (hwa i hi).1) _ (hs.row_Rd 0 rfl (show (wayOf N (mergeL l) f out2 S).length ≤ 4611686018427387904 by omega)) (IsRest.of (D := (csrD N (mergeL l) out)) (hs.hold 2 _ rfl) (hs.now 3 rfl))))) ?_
              rintro _ _ ⟨rfl, rfl⟩
              refine RW.y (.inr ⟨_, _, 112, rfl, rfl, rfl⟩) rfl (Yv.gt rfl rfl) ?_
              refine RW.y (.inr ⟨_, _, 109, rfl, rfl, rfl⟩) rfl (Yv.pickF rfl rfl) ?_
              refine RW.y (.inl rfl) rfl (Yv.pickT rfl rfl) ?_
              refine RW.y (.inl rfl) rfl (Yv.move rfl) ?_
              refine RW.isT 119 rfl (roomP_pos (by simpa using hwn) (fun x hx => by obtain ⟨i, hi, rfl⟩ := List.mem_map.1 hx; exact (hwa i hi).2)) ?_
              refine RW.o _ (.inr ⟨_, _, 119, rfl, rfl, rfl⟩) rfl (Ow.call e27 rfl (C.val (fun w hs => awake24 _))) ?_
              rintro _ _ ⟨rfl, rfl⟩
              refine RW.y (.inl rfl) rfl (Yv.pickT rfl rfl) ?_
              refine RW.y (.inl rfl) rfl (Yv.assign rfl) ?_
              refine RW.nil ?_
              refine PW.go ?_
              refine CW.ret ?_
              refine PW.ret1 Tryz.results5 rfl (fun w1 hs => ?_)
              exact ⟨by first | rfl | simp, hs.mod.below⟩
        ·
          have hoS : oAt out3 S = -1 := oAt_out (by omega)
          rw [hoS] at hwl
          refine RW.no ⟨_, _, 92, _, rfl, rfl, rfl, fun h => by simp [undef] at h⟩ rfl ?_
          refine RW.no ⟨_, _, 92, _, rfl, rfl, rfl, fun h => by simp [undef] at h⟩ rfl ?_
          refine RW.no ⟨_, _, 92, _, rfl, rfl, rfl, fun h => by simp [undef] at h⟩ rfl ?_
          refine RW.no ⟨_, _, 92, _, rfl, rfl, rfl, fun h => by simp [undef] at h⟩ rfl ?_
          refine RW.no ⟨_, _, 92, _, rfl, rfl, rfl, fun h => by simp [undef] at h⟩ rfl ?_
          refine RW.y (.inl rfl) rfl (Yv.pickF rfl rfl) ?_
          refine RW.nil ?_
          refine PW.go ?_
          refine CW.condF rfl ?_
          refine CW.skip ?_
          refine PW.go ?_
          refine CW.seq ?_
          refine CW.region ?_
          refine RW.y (.inl rfl) rfl (Yv.move rfl) ?_
          refine RW.y (.inl rfl) rfl (Yv.lenRow 0 Tryz.underlying51 rfl rfl) ?_
          refine RW.y (.inl rfl) rfl (Yv.move rfl) ?_
          refine RW.y (.inl rfl) rfl (Yv.eq rfl rfl) ?_
          refine RW.y (.inl rfl) rfl (Yv.move rfl) ?_
          refine RW.isT 109 rfl (by first | exact hwl | (rw [show (0 : Int) = max 0 (-1) from rfl]; exact hwl)) ?_
          refine RW.y (.inr ⟨_, _, 109, rfl, rfl, rfl⟩) rfl (Yv.move rfl) ?_
          refine RW.y (.inr ⟨_, _, 109, rfl, rfl, rfl⟩) rfl (Yv.eq rfl rfl) ?_
          refine RW.y (.inr ⟨_, _, 109, rfl, rfl, rfl⟩) rfl (Yv.move rfl) ?_
          refine RW.splitD 112 rfl (fun hc112 => ?_) (fun hc112 => ?_)
          ·
            refine RW.no ⟨_, _, 112, _, rfl, rfl, rfl, fun h => by simp [undef] at h⟩ rfl ?_
            refine RW.no ⟨_, _, 112, _, rfl, rfl, rfl, fun h => by simp [undef] at h⟩ rfl ?_
            refine RW.no ⟨_, _, 112, _, rfl, rfl, rfl, fun h => by simp [undef] at h⟩ rfl ?_
            refine RW.no ⟨_, _, 112, _, rfl, rfl, rfl, fun h => by simp [undef] at h⟩ rfl ?_
            refine RW.y (.inr ⟨_, _, 109, rfl, rfl, rfl⟩) rfl (Yv.pickT rfl rfl) ?_
            refine RW.y (.inl rfl) rfl (Yv.pickT rfl rfl) ?_
            refine RW.y (.inl rfl) rfl (Yv.move rfl) ?_
            refine RW.o _ (.inr ⟨_, _, 119, rfl, rfl, rfl⟩) rfl (Ow.call e27 rfl (C.val (fun w hs => awake24 _))) ?_
            rintro _ _ ⟨rfl, rfl⟩
            refine RW.y (.inl rfl) rfl (Yv.pickT rfl rfl) ?_
            refine RW.y (.inl rfl) rfl (Yv.assign rfl) ?_
            refine RW.nil ?_
            refine PW.go ?_
            refine CW.ret ?_
            refine PW.ret1 Tryz.results5 rfl (fun w1 hs => ?_)
            exact ⟨by first | rfl | simp, hs.mod.below⟩
          ·
            have hTr : 0 ≤ T ∧ T < (N : Int) := by
              refine Classical.byContradiction fun h => ?_
              have h2 : oAt out3 S = -1 := by rw [hto.2 h, oAt_rep]
              rw [hoS] at h2
              first
              | (rw [h2] at hc112; exact hc112 rfl)
              | exact hc112 rfl
            have hwa := wayOf_arcs (s := S) hao (hwy.1 hTr)
            have hwn : wayOf N (mergeL l) f out2 S ≠ [] := by
              intro h
              rw [h] at hwl
              first
              | exact hc112 hwl.symm
              | exact hc112 rfl
            refine RW.y (.inr ⟨_, _, 112, rfl, rfl, rfl⟩) rfl (Yv.move rfl) ?_
            refine RW.y (.inr ⟨_, _, 112, rfl, rfl, rfl⟩) rfl (Yv.move rfl) ?_
            refine RW.o _ (.inr ⟨_, _, 112, rfl, rfl, rfl⟩) rfl (Ow.call e34 rfl (C.val (fun w hs => levelRoom R (csrD N (mergeL l) out) f _ hao Aw cw (wayOf N (mergeL l) f out2 S) (fun i hi => (hwa i hi).1) _ (hs.row_Rd 0 rfl (show (wayOf N (mergeL l) f out2 S).length ≤ 4611686018427387904 by omega)) (IsRest.of (D := (csrD N (mergeL l) out)) (hs.hold 2 _ rfl) (hs.now 3 rfl))))) ?_
            rintro _ _ ⟨rfl, rfl⟩
            refine RW.y (.inr ⟨_, _, 112, rfl, rfl, rfl⟩) rfl (Yv.gt rfl rfl) ?_
            refine RW.y (.inr ⟨_, _, 109, rfl, rfl, rfl⟩) rfl (Yv.pickF rfl rfl) ?_
            refine RW.y (.inl rfl) rfl (Yv.pickT rfl rfl) ?_
            refine RW.y (.inl rfl) rfl (Yv.move rfl) ?_
            refine RW.isT 119 rfl (roomP_pos (by simpa using hwn) (fun x hx => by obtain ⟨i, hi, rfl⟩ := List.mem_map.1 hx; exact (hwa i hi).2)) ?_
            refine RW.o _ (.inr ⟨_, _, 119, rfl, rfl, rfl⟩) rfl (Ow.call e27 rfl (C.val (fun w hs => awake24 _))) ?_
            rintro _ _ ⟨rfl, rfl⟩
            refine RW.y (.inl rfl) rfl (Yv.pickT rfl rfl) ?_
            refine RW.y (.inl rfl) rfl (Yv.assign rfl) ?_
            refine RW.nil ?_
            refine PW.go ?_
            refine CW.ret ?_
            refine PW.ret1 Tryz.results5 rfl (fun w1 hs => ?_)
            exact ⟨by first | rfl | simp, hs.mod.below⟩

theorem levelFallsLaw (n : Int) (hn : 0 ≤ n ∧ n ≤ 255) (A : Option Addr) (c : Nat) (l : List Edg) (B : Option Addr) (d : Nat) (ops : List (Int × Int)) (S T : Int) (V3 V4 : Value) (w : World) (hr : l.length ≤ 4611686018427387904 → Rd w A 3 l.length (cellsE l)) (hrO : ops.length ≤ 4611686018427387904 → Rd w B 2 ops.length (cellsA ops)) (hb : ∀ o ∈ ops, (-9223372036854775808 ≤ o.1 ∧ o.1 ≤ 9223372036854775807) ∧ -9223372036854775808 ≤ o.2 ∧ o.2 ≤ 9223372036854775807) :
    Calls Tryz.prog 5 #[.int .u8 n, .slice A l.length c, .agg #[.slice B ops.length d, .int .i64 S, .int .i64 T, V3, V4]] w fun e w1 => e = .returned (.bool true) ∧ Gr w w1 := by
  by_cases hl : 40 < l.length ∨ 40 < ops.length ∨ 30 < n
  · exact levelFalls_long n S T V3 V4 A B c d l.length ops.length w hl
  · have r := hr (by omega)
    have ro := hrO (by omega)
    obtain ⟨k, i, h⟩ := newE_total n l
    by_cases z : k = 0
    · subst z; exact levelFalls_ok n hn A c l B d ops S T V3 V4 w r ro hb (by omega) (by omega) (by omega) (newE_ok h).1
    · exact levelFalls_err n hn A c l B d ops S T V3 V4 w r ro hb (by omega) (by omega) (by omega) k i z h

end Go.Proofs.YtipoblpnkkcpgaaGreat
