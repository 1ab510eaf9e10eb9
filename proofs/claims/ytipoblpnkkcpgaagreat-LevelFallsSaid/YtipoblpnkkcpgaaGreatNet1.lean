/- Walks, written by a program of this session (gen.py) out of a spec. -/
import Derived.Test.YtipoblpnkkcpgaaGreatModel
set_option linter.unusedVariables false
set_option linter.unusedSimpArgs false
namespace Go.Proofs.YtipoblpnkkcpgaaGreat
open Go Go.RowKit Go.Proofs.YtipoblpnkkcpgaaGreat.B

set_option maxRecDepth 100000 in
theorem netLink (b : Nat) (An : Option Addr) (cn : Nat) (Ad : Option Addr) (cd n : Nat) (lv tot : Value) (vs : List Value) (near : List (List Int)) (ds : List Int) (e : Edg) (w : World) (F0 : Nat → Prop) (h0 : (netG b An cn Ad cd n lv tot vs near ds).holds w F0) (hF : ∀ k, F0 k → k < w.heap.size) (hu : 0 ≤ e.u ∧ e.u < n) (hv : 0 ≤ e.v ∧ e.v < n) (hw : 0 ≤ e.w ∧ e.w ≤ 2251799813685248) (hn : near.length = n) (hdn : ds.length = n) (hn4 : n ≤ 4096) (hd : ∀ d ∈ ds, 0 ≤ d ∧ d ≤ 4611686018427387904) (hx : ∀ x ∈ near, x.length ≤ 1099511627776) : Calls Tryz.prog 39 #[.pointer (some ⟨b, 0, none⟩), aggE e] w fun en w1 => ∃ vs' : List Value, True ∧ en = .returned (.tuple #[]) ∧ Mod F0 w w1 ∧ ∃ F', (netG b An cn Ad cd n lv tot vs' (linkN near e 2) (linkD ds e 2)).holds w1 F' ∧ ∀ k, F' k → F0 k ∨ (w.heap.size ≤ k ∧ k < w1.heap.size) := by
  unfold aggE
  refine CW.enter (P := Tryz.prog) (F0 := F0) (L := [(0, _), (1, _)]) 52 [netG b An cn Ad cd n lv tot vs near ds] Tryz.func39 rfl Tryz.ntmps39 (Nat.le_of_ble_eq_true rfl) (St.start1 w h0 hF) rfl ?_
  refine CW.seq ?_
  refine CW.mem _ (fun w h => netOpen h) ?_
  refine CW.facts _ (fun w h => h.row_some 2 rfl (by omega)) ?_
  rintro ⟨bn, rfl⟩
  refine CW.facts _ (fun w h => h.row_some 0 rfl (by omega)) ?_
  rintro ⟨bd, rfl⟩
  refine CW.facts _ (fun w h => h.rows_len 1 rfl) ?_
  intro hvl
  refine CW.region ?_
  refine RW.o _ (.inl rfl) rfl (Ow.box (cs := [_, _, _]) rfl rfl) ?_
  rintro _ _ ⟨b3, rfl, rfl⟩
  refine RW.nil ?_
  refine PW.go ?_
  refine CW.seq ?_
  refine CW.region ?_
  refine RW.y (.inl rfl) rfl (Yv.fieldAddr Tryz.underlying79 rfl Tryz.sizeOf3 rfl rfl) ?_
  refine RW.y (.inl rfl) rfl (Yv.load1 Tryz.isAgg3 rfl (CF.blk 0 rfl rfl)) ?_
  refine RW.y (.inl rfl) rfl (Yv.fieldAddr Tryz.underlying79 rfl Tryz.sizeOf3 rfl rfl) ?_
  refine RW.y (.inl rfl) rfl (Yv.load1 Tryz.isAgg3 rfl (CF.blk 0 rfl rfl)) ?_
  refine RW.y (.inl rfl) rfl (Yv.build rfl (fun w => by exact bld130_0_1 _ _ w)) ?_
  refine RW.y (.inl rfl) rfl (Yv.fieldAddr Tryz.underlying79 rfl Tryz.sizeOf3 rfl rfl) ?_
  refine RW.y (.inl rfl) rfl (Yv.load1 Tryz.isAgg3 rfl (CF.blk 0 rfl rfl)) ?_
  refine RW.y (.inl rfl) rfl (Yv.fieldAddr Tryz.underlying79 rfl Tryz.sizeOf3 rfl rfl) ?_
  refine RW.y (.inl rfl) rfl (Yv.load1 Tryz.isAgg3 rfl (CF.blk 0 rfl rfl)) ?_
  refine RW.y (.inl rfl) rfl (Yv.build rfl (fun w => by exact bld130_0_1 _ _ w)) ?_
  refine RW.y (.inl rfl) rfl (Yv.build rfl (fun w => by exact bld139_0_1 _ _ _ _ w)) ?_
  refine RW.y (.inl rfl) rfl (Yv.move rfl) ?_
  refine RW.nil ?_
  refine PW.go ?_
  refine CW.block ?_
  refine CW.loop (σ := Nat × List Value) (fun s => s.1 ≤ 2 ∧ (linkN near e s.1).length = n ∧ (linkD ds e s.1).length = n ∧ (∀ d ∈ linkD ds e s.1, 0 ≤ d ∧ d ≤ 4611686018427387904 + s.1 * 2251799813685248) ∧ ∀ x ∈ linkN near e s.1, x.length ≤ 1099511627776 + s.1) (fun s => [(0, .pointer (some ⟨b, 0, none⟩)), (3, .pointer (some ⟨b3, 0, none⟩)), (16, .agg #[.int .i64 e.u, .int .i64 e.v, .int .i64 e.v, .int .i64 e.u]), (17, .int .i64 (s.1 : Nat))]) (fun s => [blk b3 (encE e) 79, row (.slice (some ⟨bd, 0, none⟩) n cd) 2 1 n (i64s (linkD ds e s.1)), rowsA 3 s.2 ((linkN near e s.1).map i64s), row (.slice (some ⟨bn, 0, none⟩) n cn) 51 1 n s.2, blk b [.slice (some ⟨bn, 0, none⟩) n cn, .slice (some ⟨bd, 0, none⟩) n cd, lv, tot] 88]) (fun s => 2 - s.1) (0, vs) (⟨by simp, hn, hdn, by simpa [linkD] using hd, by simpa [linkN] using hx⟩) ⟨rfl, rfl, rfl, rfl, trivial⟩ (fun w h => h) ?_
  rintro ⟨k, vs⟩ ⟨hk, hNl, hDl, hDb, hNb⟩
  (try dsimp only at *)
  refine CW.seq ?_
  refine CW.region ?_
  refine RW.y (.inl rfl) rfl (Yv.lt rfl rfl) ?_
  refine RW.nil ?_
  refine PW.go ?_
  refine CW.seq ?_
  refine CW.condD rfl (fun hc18 => ?_) (fun hc18 => ?_)
  ·
    refine CW.skip ?_
    refine PW.go ?_
    refine CW.seq ?_
    refine CW.block ?_
    refine CW.seq ?_
    refine CW.region ?_
    refine RW.y (.inl rfl) rfl (Yv.elemK Tryz.underlying139 Tryz.sizeOf130 Tryz.isAgg130 rfl rfl (by omega) (by omega) (show _ = [.int .i64 (endA e k), .int .i64 (endB e k)] by rcases (show k = 0 ∨ k = 1 by omega) with rfl | rfl <;> rfl)) ?_
    refine RW.o _ (.inl rfl) rfl (Ow.alloc (cs := [_, _]) Tryz.zeroValue130 rfl) ?_
    rintro _ _ ⟨b5, rfl, rfl⟩
    refine RW.o _ (.inl rfl) rfl (Ow.storeW (vs := [_, _]) 0 Tryz.sizeOf130 rfl rfl (rfl) rfl (rfl)) ?_
    rintro _ _ ⟨rfl, rfl⟩
    refine RW.nil ?_
    refine PW.go ?_
    refine CW.seq ?_
    have hk2 : k < 2 := by omega
    have hpa : 0 ≤ endA e k ∧ endA e k < n := by unfold endA; split <;> omega
    have hpn : (endA e k).toNat < n := by omega
    refine CW.facts _ (fun w h => h.rows_len 3 rfl) ?_
    intro hvl
    rw [List.length_map] at hvl
    obtain ⟨vp, hvp⟩ : ∃ v, vs[(endA e k).toNat]? = some v := ⟨_, List.getElem?_eq_getElem (by omega)⟩
    obtain ⟨x, hxp⟩ : ∃ x, (linkN near e k)[(endA e k).toNat]? = some x := ⟨_, List.getElem?_eq_getElem (by omega)⟩
    have hxl := hNb x (List.mem_of_getElem? hxp)
    refine CW.mem _ (fun w h => h.focus 3 rfl (endA e k).toNat hvp (x := i64s x) (by simp [hxp])) ?_
    refine CW.drawE mixed (fun _ h => ((h).erase 0).erase 4) ?_
    refine HW.take 0 rfl (by kernel_rfl) (by kernel_rfl) (by kernel_rfl) (fun _ _ _ h => h) (.inl rfl) rfl (fun _ h => ((h).erase 0).erase 4) (Yv.move rfl) ?_
    refine HW.take 1 rfl (by kernel_rfl) (by kernel_rfl) (by kernel_rfl) (fun _ _ _ h => h) (.inl rfl) rfl (fun _ h => ((h).erase 0).erase 4) (Yv.nilCheck rfl) ?_
    refine HW.take 2 rfl (by kernel_rfl) (by kernel_rfl) (by kernel_rfl) (fun _ _ _ h => h) (.inl rfl) rfl (fun _ h => ((h).erase 0).erase 4) (Yv.fieldAddr Tryz.underlying86 rfl Tryz.sizeOf84 rfl rfl) ?_
    refine HW.take 3 rfl (by kernel_rfl) (by kernel_rfl) (by kernel_rfl) (fun _ _ _ h => h) (.inl rfl) rfl (fun _ h => ((h).erase 0).erase 4) (Yv.load1 Tryz.isAgg84 rfl (CF.blk 4 rfl rfl)) ?_
    refine HW.take 4 rfl (by kernel_rfl) (by kernel_rfl) (by kernel_rfl) (fun _ _ _ h => h) (.inl rfl) rfl (fun _ h => ((h).erase 0).erase 4) (Yv.indexA Tryz.underlying130 Tryz.sizeOf3 rfl rfl (by omega) (by omega)) ?_
    refine HW.take 5 rfl (by kernel_rfl) (by kernel_rfl) (by kernel_rfl) (fun _ _ _ h => h) (.inl rfl) rfl (fun _ h => ((h).erase 0).erase 4) (Yv.load1 Tryz.isAgg3 rfl (CF.blk 1 rfl rfl)) ?_
    refine HW.take 6 rfl (by kernel_rfl) (by kernel_rfl) (by kernel_rfl) (fun _ _ _ h => h) (.inl rfl) rfl (fun _ h => ((h).erase 0).erase 4) (Yv.move rfl) ?_
    refine HW.take 7 rfl (by kernel_rfl) (by kernel_rfl) (by kernel_rfl) (fun _ _ _ h => h) (.inl rfl) rfl (fun _ h => ((h).erase 0).erase 4) (Yv.nilCheck rfl) ?_
    refine HW.take 8 rfl (by kernel_rfl) (by kernel_rfl) (by kernel_rfl) (fun _ _ _ h => h) (.inl rfl) rfl (fun _ h => ((h).erase 0).erase 4) (Yv.fieldAddr Tryz.underlying86 rfl Tryz.sizeOf84 rfl rfl) ?_
    refine HW.take 9 rfl (by kernel_rfl) (by kernel_rfl) (by kernel_rfl) (fun _ _ _ h => h) (.inl rfl) rfl (fun _ h => ((h).erase 0).erase 4) (Yv.load1 Tryz.isAgg84 rfl (CF.blk 4 rfl rfl)) ?_
    refine HW.take 10 rfl (by kernel_rfl) (by kernel_rfl) (by kernel_rfl) (fun _ _ _ h => h) (.inl rfl) rfl (fun _ h => ((h).erase 0).erase 4) (Yv.indexA Tryz.underlying130 Tryz.sizeOf3 rfl rfl (by omega) (by omega)) ?_
    refine HW.take 11 rfl (by kernel_rfl) (by kernel_rfl) (by kernel_rfl) (fun _ _ _ h => h) (.inl rfl) rfl (fun _ h => ((h).erase 0).erase 4) (Yv.load1 Tryz.isAgg3 rfl (CF.blk 1 rfl rfl)) ?_
    refine HW.take 12 rfl (by kernel_rfl) (by kernel_rfl) (by kernel_rfl) (fun _ _ _ h => h) (.inl rfl) rfl (fun _ h => ((h).erase 0).erase 4) (Yv.index0 Tryz.underlying84 Tryz.sizeOf51 rfl rfl (by omega) (by omega)) ?_
    refine HW.take 14 rfl (by kernel_rfl) (by kernel_rfl) (by kernel_rfl) (fun _ _ _ h => h) (.inl rfl) rfl (fun _ h => ((h).erase 0).erase 4) (Yv.indexA Tryz.underlying130 Tryz.sizeOf3 rfl rfl (by omega) (by omega)) ?_
    refine HW.take 15 rfl (by kernel_rfl) (by kernel_rfl) (by kernel_rfl) (fun _ _ _ h => h) (.inl rfl) rfl (fun _ h => ((h).erase 0).erase 4) (Yv.load1 Tryz.isAgg3 rfl (CF.blk 1 rfl rfl)) ?_
    refine HW.run2 13 16 (by kernel_rfl) (fun a w hf hs => HW.opp 13 rfl _ (.inl rfl) rfl (Yv.ow (Yv.load1 Tryz.isAgg51 rfl (CF.row 5 rfl hvp))) (by rintro _ _ ⟨rfl, rfl⟩ w h; exact ((h).erase 0).erase 4) ?_ hf hs) (fun a w hf hs => HW.opp 16 rfl _ (.inl rfl) rfl (Ow.lit (len := 1) (vs := [_]) (cs := [_]) Tryz.underlying51 info3 rfl rfl rfl rfl rfl rfl rfl) (by rintro _ _ ⟨b36, rfl, rfl⟩ w h; exact (((h).erase 0).erase 0).erase 4) ?_ hf hs)
    ·
      clear hf hs
      rintro _ _ ⟨rfl, rfl⟩
      refine HW.run 16 rfl (by kernel_rfl) _ (.inl rfl) rfl (Ow.lit (len := 1) (vs := [_]) (cs := [_]) Tryz.underlying51 info3 rfl rfl rfl rfl rfl rfl rfl) (by rintro _ _ ⟨b36, rfl, rfl⟩ w h; exact (((h).erase 0).erase 0).erase 4) ?_
      rintro _ _ ⟨b36, rfl, rfl⟩
      refine HW.run 17 rfl (by kernel_rfl) _ (.inl rfl) rfl (Ow.append 1 0 Tryz.underlying51 info3 rfl rfl rfl rfl rfl rfl rfl rfl (by have hil := i64s_length x; (try simp only [List.length_cons, List.length_nil]); omega) (by have hil := i64s_length x; (try simp only [List.length_cons, List.length_nil]); omega)) (by rintro v37 _ rfl w h; exact (((h).erase 0).erase 0).erase 4) ?_
      rintro v37 _ rfl
      refine HW.take 18 rfl (by kernel_rfl) (by kernel_rfl) (by kernel_rfl) (fun _ _ _ h => h) (.inl rfl) rfl (fun _ h => (((h).erase 0).erase 0).erase 4) (Yv.index0 Tryz.underlying84 Tryz.sizeOf51 rfl rfl (by omega) (by omega)) ?_
      refine HW.facts _ (fun w h => h.row_slice 1 rfl) ?_
      rintro ⟨A37, c37, rfl⟩
      refine HW.run 19 rfl (by kernel_rfl) _ (.inl rfl) rfl (Ow.storeRow 6 Tryz.sizeOf51 rfl rfl (rfl) rfl (by omega)) (by rintro _ _ ⟨rfl, rfl⟩ w h; exact (((h).erase 0).erase 0).erase 4) ?_
      rintro _ _ ⟨rfl, rfl⟩
      refine HW.done (by kernel_rfl) ?_
      refine PW.go ?_
      obtain ⟨d, hdp⟩ : ∃ d, (linkD ds e k)[(endA e k).toNat]? = some d := ⟨_, List.getElem?_eq_getElem (by omega)⟩
      have hdb := hDb d (List.mem_of_getElem? hdp)
      refine CW.drawE mixed (fun _ h => (h).erase 5) ?_
      refine HW.take 0 rfl (by kernel_rfl) (by kernel_rfl) (by kernel_rfl) (fun _ _ _ h => h) (.inl rfl) rfl (fun _ h => (h).erase 5) (Yv.move rfl) ?_
      refine HW.take 1 rfl (by kernel_rfl) (by kernel_rfl) (by kernel_rfl) (fun _ _ _ h => h) (.inl rfl) rfl (fun _ h => (h).erase 5) (Yv.nilCheck rfl) ?_
      refine HW.take 2 rfl (by kernel_rfl) (by kernel_rfl) (by kernel_rfl) (fun _ _ _ h => h) (.inl rfl) rfl (fun _ h => (h).erase 5) (Yv.fieldAddr Tryz.underlying86 rfl Tryz.sizeOf33 rfl rfl) ?_
      refine HW.take 3 rfl (by kernel_rfl) (by kernel_rfl) (by kernel_rfl) (fun _ _ _ h => h) (.inl rfl) rfl (fun _ h => (h).erase 5) (Yv.load1 Tryz.isAgg33 rfl (CF.blk 6 rfl rfl)) ?_
      refine HW.take 4 rfl (by kernel_rfl) (by kernel_rfl) (by kernel_rfl) (fun _ _ _ h => h) (.inl rfl) rfl (fun _ h => (h).erase 5) (Yv.indexA Tryz.underlying130 Tryz.sizeOf3 rfl rfl (by omega) (by omega)) ?_
      refine HW.take 5 rfl (by kernel_rfl) (by kernel_rfl) (by kernel_rfl) (fun _ _ _ h => h) (.inl rfl) rfl (fun _ h => (h).erase 5) (Yv.load1 Tryz.isAgg3 rfl (CF.blk 3 rfl rfl)) ?_
      refine HW.take 6 rfl (by kernel_rfl) (by kernel_rfl) (by kernel_rfl) (fun _ _ _ h => h) (.inl rfl) rfl (fun _ h => (h).erase 5) (Yv.index0 Tryz.underlying33 Tryz.sizeOf2 rfl rfl (by omega) (by omega)) ?_
      refine HW.take 8 rfl (by kernel_rfl) (by kernel_rfl) (by kernel_rfl) (fun _ _ _ h => h) (.inl rfl) rfl (fun _ h => (h).erase 5) (Yv.fieldAddr Tryz.underlying79 rfl Tryz.sizeOf2 rfl rfl) ?_
      refine HW.take 9 rfl (by kernel_rfl) (by kernel_rfl) (by kernel_rfl) (fun _ _ _ h => h) (.inl rfl) rfl (fun _ h => (h).erase 5) (Yv.load1 Tryz.isAgg2 rfl (CF.blk 4 rfl rfl)) ?_
      refine HW.run 7 rfl (by kernel_rfl) _ (.inl rfl) rfl (Yv.ow (Yv.load1 Tryz.isAgg2 rfl (CF.row 5 rfl (i64s_get _ _ _ hdp)))) (by rintro _ _ ⟨rfl, rfl⟩ w h; exact (h).erase 5) ?_
      rintro _ _ ⟨rfl, rfl⟩
      refine HW.take 10 rfl (by kernel_rfl) (by kernel_rfl) (by kernel_rfl) (fun _ _ _ h => h) (.inl rfl) rfl (fun _ h => (h).erase 5) (Yv.add rfl rfl (by omega)) ?_
      refine HW.take 11 rfl (by kernel_rfl) (by kernel_rfl) (by kernel_rfl) (fun _ _ _ h => h) (.inl rfl) rfl (fun _ h => (h).erase 5) (Yv.index0 Tryz.underlying33 Tryz.sizeOf2 rfl rfl (by omega) (by omega)) ?_
      refine HW.run 12 rfl (by kernel_rfl) _ (.inl rfl) rfl (Ow.storeRow 5 Tryz.sizeOf2 rfl rfl (rfl) rfl (by rw [i64s_length]; omega)) (by rintro _ _ ⟨rfl, rfl⟩ w h; exact (h).erase 5) ?_
      rintro _ _ ⟨rfl, rfl⟩
      refine HW.done (by kernel_rfl) ?_
      refine PW.block ?_
      refine PW.go ?_
      refine CW.region ?_
      refine RW.y (.inl rfl) rfl (Yv.add rfl rfl (by omega)) ?_
      refine RW.y (.inl rfl) rfl (Yv.move rfl) ?_
      refine RW.nil ?_
      have hN1 : ((linkN near e k).map i64s).set (endA e k).toNat (i64s x ++ [.int .i64 (endB e k)]) = (linkN near e (k + 1)).map i64s := by rw [linkN_succ _ _ hk2]; unfold addAt; rw [List.map_set, List.getD_eq_getElem?_getD, hxp]; simp [i64s]
      have hD1 : linkD ds e (k + 1) = (linkD ds e k).set (endA e k).toNat (d + e.w) := by rw [linkD_succ _ _ hk2, List.getD_eq_getElem?_getD, hdp]; rfl
      have hB1 : ∀ d ∈ linkD ds e (k + 1), 0 ≤ d ∧ d ≤ 4611686018427387904 + ((k + 1 : Nat) : Int) * 2251799813685248 := by
        intro y hy
        rw [hD1] at hy
        rcases List.mem_or_eq_of_mem_set hy with hy | rfl
        · have := hDb y hy; omega
        · omega
      have hB2 : ∀ x ∈ linkN near e (k + 1), x.length ≤ 1099511627776 + (k + 1) := by
        intro y hy
        rw [linkN_succ _ _ hk2, addAt, List.getD_eq_getElem?_getD, hxp] at hy
        rcases List.mem_or_eq_of_mem_set hy with hy | rfl
        · have := hNb y hy; omega
        · simp; omega
      refine PW.mem _ (fun w h => h.row_eq (m' := n) (xs' := i64s (linkD ds e (k + 1))) 5 rfl (rfl) (by rw [hD1]; simp [i64s, List.map_set])) ?_
      refine PW.mem _ (fun w h => (by have h2 := (h.erase 0).unfocus (p := (endA e k).toNat) (vs := vs) (xs := (linkN near e k).map i64s) (by omega) (by simp; omega) (by simp); rw [hN1] at h2; exact h2)) ?_
      refine PW.mem _ (fun w h => h.front 3 rfl) ?_
      refine PW.mem _ (fun w h => h.front 3 rfl) ?_
      refine PW.mem _ (fun w h => h.erase 3) ?_
      exact PW.next (k + 1, vs.set (endA e k).toNat (.slice A37 ((i64s x).length + 1) c37)) (⟨by show k + 1 ≤ 2; omega, by show (linkN near e (k + 1)).length = n; rw [linkN_succ _ _ hk2, addAt_length]; exact hNl, by show (linkD ds e (k + 1)).length = n; rw [hD1]; simp [hDl], hB1, hB2⟩) ⟨rfl, rfl, rfl, rfl, trivial⟩ (fun w h => h) (by show 2 - (k + 1) < 2 - k; omega)
    ·
      clear hf hs
      rintro _ _ ⟨b36, rfl, rfl⟩
      refine HW.run 13 rfl (by kernel_rfl) _ (.inl rfl) rfl (Yv.ow (Yv.load1 Tryz.isAgg51 rfl (CF.row 6 rfl hvp))) (by rintro _ _ ⟨rfl, rfl⟩ w h; exact (((h).erase 0).erase 0).erase 4) ?_
      rintro _ _ ⟨rfl, rfl⟩
      refine HW.run 17 rfl (by kernel_rfl) _ (.inl rfl) rfl (Ow.append 1 0 Tryz.underlying51 info3 rfl rfl rfl rfl rfl rfl rfl rfl (by have hil := i64s_length x; (try simp only [List.length_cons, List.length_nil]); omega) (by have hil := i64s_length x; (try simp only [List.length_cons, List.length_nil]); omega)) (by rintro v37 _ rfl w h; exact (((h).erase 0).erase 0).erase 4) ?_
      rintro v37 _ rfl
      refine HW.take 18 rfl (by kernel_rfl) (by kernel_rfl) (by kernel_rfl) (fun _ _ _ h => h) (.inl rfl) rfl (fun _ h => (((h).erase 0).erase 0).erase 4) (Yv.index0 Tryz.underlying84 Tryz.sizeOf51 rfl rfl (by omega) (by omega)) ?_
      refine HW.facts _ (fun w h => h.row_slice 1 rfl) ?_
      rintro ⟨A37, c37, rfl⟩
      refine HW.run 19 rfl (by kernel_rfl) _ (.inl rfl) rfl (Ow.storeRow 6 Tryz.sizeOf51 rfl rfl (rfl) rfl (by omega)) (by rintro _ _ ⟨rfl, rfl⟩ w h; exact (((h).erase 0).erase 0).erase 4) ?_
      rintro _ _ ⟨rfl, rfl⟩
      refine HW.done (by kernel_rfl) ?_
      refine PW.go ?_
      obtain ⟨d, hdp⟩ : ∃ d, (linkD ds e k)[(endA e k).toNat]? = some d := ⟨_, List.getElem?_eq_getElem (by omega)⟩
      have hdb := hDb d (List.mem_of_getElem? hdp)
      refine CW.drawE mixed (fun _ h => (h).erase 5) ?_
      refine HW.take 0 rfl (by kernel_rfl) (by kernel_rfl) (by kernel_rfl) (fun _ _ _ h => h) (.inl rfl) rfl (fun _ h => (h).erase 5) (Yv.move rfl) ?_
      refine HW.take 1 rfl (by kernel_rfl) (by kernel_rfl) (by kernel_rfl) (fun _ _ _ h => h) (.inl rfl) rfl (fun _ h => (h).erase 5) (Yv.nilCheck rfl) ?_
      refine HW.take 2 rfl (by kernel_rfl) (by kernel_rfl) (by kernel_rfl) (fun _ _ _ h => h) (.inl rfl) rfl (fun _ h => (h).erase 5) (Yv.fieldAddr Tryz.underlying86 rfl Tryz.sizeOf33 rfl rfl) ?_
      refine HW.take 3 rfl (by kernel_rfl) (by kernel_rfl) (by kernel_rfl) (fun _ _ _ h => h) (.inl rfl) rfl (fun _ h => (h).erase 5) (Yv.load1 Tryz.isAgg33 rfl (CF.blk 6 rfl rfl)) ?_
      refine HW.take 4 rfl (by kernel_rfl) (by kernel_rfl) (by kernel_rfl) (fun _ _ _ h => h) (.inl rfl) rfl (fun _ h => (h).erase 5) (Yv.indexA Tryz.underlying130 Tryz.sizeOf3 rfl rfl (by omega) (by omega)) ?_
      refine HW.take 5 rfl (by kernel_rfl) (by kernel_rfl) (by kernel_rfl) (fun _ _ _ h => h) (.inl rfl) rfl (fun _ h => (h).erase 5) (Yv.load1 Tryz.isAgg3 rfl (CF.blk 3 rfl rfl)) ?_
      refine HW.take 6 rfl (by kernel_rfl) (by kernel_rfl) (by kernel_rfl) (fun _ _ _ h => h) (.inl rfl) rfl (fun _ h => (h).erase 5) (Yv.index0 Tryz.underlying33 Tryz.sizeOf2 rfl rfl (by omega) (by omega)) ?_
      refine HW.take 8 rfl (by kernel_rfl) (by kernel_rfl) (by kernel_rfl) (fun _ _ _ h => h) (.inl rfl) rfl (fun _ h => (h).erase 5) (Yv.fieldAddr Tryz.underlying79 rfl Tryz.sizeOf2 rfl rfl) ?_
      refine HW.take 9 rfl (by kernel_rfl) (by kernel_rfl) (by kernel_rfl) (fun _ _ _ h => h) (.inl rfl) rfl (fun _ h => (h).erase 5) (Yv.load1 Tryz.isAgg2 rfl (CF.blk 4 rfl rfl)) ?_
      refine HW.run 7 rfl (by kernel_rfl) _ (.inl rfl) rfl (Yv.ow (Yv.load1 Tryz.isAgg2 rfl (CF.row 5 rfl (i64s_get _ _ _ hdp)))) (by rintro _ _ ⟨rfl, rfl⟩ w h; exact (h).erase 5) ?_
      rintro _ _ ⟨rfl, rfl⟩
      refine HW.take 10 rfl (by kernel_rfl) (by kernel_rfl) (by kernel_rfl) (fun _ _ _ h => h) (.inl rfl) rfl (fun _ h => (h).erase 5) (Yv.add rfl rfl (by omega)) ?_
      refine HW.take 11 rfl (by kernel_rfl) (by kernel_rfl) (by kernel_rfl) (fun _ _ _ h => h) (.inl rfl) rfl (fun _ h => (h).erase 5) (Yv.index0 Tryz.underlying33 Tryz.sizeOf2 rfl rfl (by omega) (by omega)) ?_
      refine HW.run 12 rfl (by kernel_rfl) _ (.inl rfl) rfl (Ow.storeRow 5 Tryz.sizeOf2 rfl rfl (rfl) rfl (by rw [i64s_length]; omega)) (by rintro _ _ ⟨rfl, rfl⟩ w h; exact (h).erase 5) ?_
      rintro _ _ ⟨rfl, rfl⟩
      refine HW.done (by kernel_rfl) ?_
      refine PW.block ?_
      refine PW.go ?_
      refine CW.region ?_
      refine RW.y (.inl rfl) rfl (Yv.add rfl rfl (by omega)) ?_
      refine RW.y (.inl rfl) rfl (Yv.move rfl) ?_
      refine RW.nil ?_
      have hN1 : ((linkN near e k).map i64s).set (endA e k).toNat (i64s x ++ [.int .i64 (endB e k)]) = (linkN near e (k + 1)).map i64s := by rw [linkN_succ _ _ hk2]; unfold addAt; rw [List.map_set, List.getD_eq_getElem?_getD, hxp]; simp [i64s]
      have hD1 : linkD ds e (k + 1) = (linkD ds e k).set (endA e k).toNat (d + e.w) := by rw [linkD_succ _ _ hk2, List.getD_eq_getElem?_getD, hdp]; rfl
      have hB1 : ∀ d ∈ linkD ds e (k + 1), 0 ≤ d ∧ d ≤ 4611686018427387904 + ((k + 1 : Nat) : Int) * 2251799813685248 := by
        intro y hy
        rw [hD1] at hy
        rcases List.mem_or_eq_of_mem_set hy with hy | rfl
        · have := hDb y hy; omega
        · omega
      have hB2 : ∀ x ∈ linkN near e (k + 1), x.length ≤ 1099511627776 + (k + 1) := by
        intro y hy
        rw [linkN_succ _ _ hk2, addAt, List.getD_eq_getElem?_getD, hxp] at hy
        rcases List.mem_or_eq_of_mem_set hy with hy | rfl
        · have := hNb y hy; omega
        · simp; omega
      refine PW.mem _ (fun w h => h.row_eq (m' := n) (xs' := i64s (linkD ds e (k + 1))) 5 rfl (rfl) (by rw [hD1]; simp [i64s, List.map_set])) ?_
      refine PW.mem _ (fun w h => (by have h2 := (h.erase 0).unfocus (p := (endA e k).toNat) (vs := vs) (xs := (linkN near e k).map i64s) (by omega) (by simp; omega) (by simp); rw [hN1] at h2; exact h2)) ?_
      refine PW.mem _ (fun w h => h.front 3 rfl) ?_
      refine PW.mem _ (fun w h => h.front 3 rfl) ?_
      refine PW.mem _ (fun w h => h.erase 3) ?_
      exact PW.next (k + 1, vs.set (endA e k).toNat (.slice A37 ((i64s x).length + 1) c37)) (⟨by show k + 1 ≤ 2; omega, by show (linkN near e (k + 1)).length = n; rw [linkN_succ _ _ hk2, addAt_length]; exact hNl, by show (linkD ds e (k + 1)).length = n; rw [hD1]; simp [hDl], hB1, hB2⟩) ⟨rfl, rfl, rfl, rfl, trivial⟩ (fun w h => h) (by show 2 - (k + 1) < 2 - k; omega)
  ·
    refine CW.exit ?_
    refine PW.then_exit ?_
    refine PW.then_exit ?_
    refine PW.block_exit ?_
    refine PW.end0 Tryz.results39 (fun w1 hs => ?_)
    obtain rfl : k = 2 := by omega
    have h2 := netShut (hs.erase 0)
    obtain ⟨F, hF1, hF2⟩ := h2.get 0 rfl
    exact ⟨vs, trivial, rfl, hs.mod, F, hF1, fun k hk => (hF2 k hk).1.imp id (fun h => ⟨h, (hF2 k hk).2⟩)⟩

end Go.Proofs.YtipoblpnkkcpgaaGreat
