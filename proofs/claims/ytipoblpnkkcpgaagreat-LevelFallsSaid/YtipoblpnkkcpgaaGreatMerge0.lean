/- Walks, written by a program of this session (gen.py) out of a spec. -/
import Derived.Test.YtipoblpnkkcpgaaGreatDel0
import Derived.Test.YtipoblpnkkcpgaaGreatSort
import Derived.Test.YtipoblpnkkcpgaaGreatRef0
set_option linter.unusedVariables false
set_option linter.unusedSimpArgs false
namespace Go.Proofs.YtipoblpnkkcpgaaGreat
open Go Go.RowKit Go.Proofs.YtipoblpnkkcpgaaGreat.B

def MapOk (acc : List Edg) (f : Int → Int → Option Int) : Prop :=
  (∀ u v, f u v = none → ∀ x ∈ acc, ¬ (x.u = u ∧ x.v = v)) ∧ (∀ u v i, f u v = some i → ∃ j : Nat, i = j ∧ ∃ x, acc[j]? = some x ∧ x.u = u ∧ x.v = v)
theorem updE_new {acc : List Edg} {e : Edg} {f : Int → Int → Option Int} (h : MapOk acc f) (hf : f e.u e.v = none) : updE acc e = acc ++ [e] ∧ MapOk (acc ++ [e]) (updM f e.u e.v (acc.length : Nat)) := by
  have h0 := h.1 _ _ hf
  refine ⟨by unfold updE; rw [if_neg (fun ⟨x, hx, hk⟩ => h0 x hx ⟨hk.1, hk.2⟩)], fun u v hn x hx hk => ?_, fun u v i hi => ?_⟩
  · unfold updM at hn
    by_cases hc : u = e.u ∧ v = e.v
    · rw [if_pos hc] at hn; cases hn
    · rw [if_neg hc] at hn
      rcases List.mem_append.1 hx with hx | hx
      · exact h.1 u v hn x hx hk
      · simp at hx; subst hx; exact hc ⟨hk.1.symm, hk.2.symm⟩
  · unfold updM at hi
    by_cases hc : u = e.u ∧ v = e.v
    · rw [if_pos hc] at hi; cases hi
      exact ⟨acc.length, rfl, e, by simp, hc.1.symm, hc.2.symm⟩
    · rw [if_neg hc] at hi
      obtain ⟨j, hj, x, hx, hk⟩ := h.2 u v i hi
      exact ⟨j, hj, x, by rw [List.getElem?_append_left (List.getElem?_eq_some_iff.1 hx).1]; exact hx, hk⟩
theorem updE_old {acc : List Edg} {e y : Edg} {j : Nat} (hd : distE acc) (hy : acc[j]? = some y) (hk : keyEq y e) : updE acc e = acc.set j ⟨y.u, y.v, y.w + e.w⟩ := by
  unfold updE
  rw [if_pos ⟨y, List.mem_of_getElem? hy, hk⟩]
  apply List.ext_getElem?
  intro i
  rw [List.getElem?_map, List.getElem?_set]
  have hj := (List.getElem?_eq_some_iff.1 hy).1
  by_cases hij : j = i
  · subst hij; rw [if_pos rfl, if_pos hj, hy, Option.map_some, if_pos hk]
  · rw [if_neg hij]
    cases hx : acc[i]? with
    | none => rfl
    | some x =>
      have hi := (List.getElem?_eq_some_iff.1 hx).1
      rw [Option.map_some, if_neg (fun hq => ?_)]
      have e1 : acc[j] = y := (List.getElem?_eq_some_iff.1 hy).2
      have e2 : acc[i] = x := (List.getElem?_eq_some_iff.1 hx).2
      rcases Nat.lt_or_ge j i with h | h
      · have := List.pairwise_iff_getElem.1 hd j i hj hi h
        rw [e1, e2] at this; unfold keyEq at *; omega
      · have := List.pairwise_iff_getElem.1 hd i j hi hj (by omega)
        rw [e1, e2] at this; unfold keyEq at *; omega
theorem mapOk_set {acc : List Edg} {f : Int → Int → Option Int} {j : Nat} {y : Edg} (q : Int) (h : MapOk acc f) (hy : acc[j]? = some y) : MapOk (acc.set j ⟨y.u, y.v, q⟩) f := by
  have hj := (List.getElem?_eq_some_iff.1 hy).1
  refine ⟨fun u v hn x hx hk => ?_, fun u v i hi => ?_⟩
  · rcases List.mem_or_eq_of_mem_set hx with hx | rfl
    · exact h.1 u v hn x hx hk
    · exact h.1 u v hn y (List.mem_of_getElem? hy) hk
  · obtain ⟨j', hj', x, hx, hk⟩ := h.2 u v i hi
    by_cases hjj : j = j'
    · subst hjj; rw [hy] at hx; cases hx
      exact ⟨j, hj', ⟨y.u, y.v, q⟩, by rw [List.getElem?_set_self hj], hk⟩
    · exact ⟨j', hj', x, by rw [List.getElem?_set_ne hjj]; exact hx, hk⟩
theorem cellsE_setw (acc : List Edg) (j : Nat) (y : Edg) (q : Int) (hy : acc[j]? = some y) : (cellsE acc).set (j * 3 + 2) (.int .i64 q) = cellsE (acc.set j ⟨y.u, y.v, q⟩) := by
  have hj := (List.getElem?_eq_some_iff.1 hy).1
  have hl := cellsE_length acc
  apply List.ext_getElem?
  intro t
  rw [← cellsE_set acc j _ hj, List.getElem?_set, part_get (by rw [hl]; simp [encE]; omega)]
  by_cases ht : j * 3 + 2 = t
  · subst ht
    rw [if_pos rfl, if_pos (by rw [hl]; omega), if_pos ⟨by omega, by simp [encE]⟩]
    simp [encE]
  · rw [if_neg ht]
    by_cases hr : j * 3 ≤ t ∧ t < j * 3 + 3
    · rw [if_pos (by simpa [encE] using hr)]
      obtain ⟨d, rfl⟩ : ∃ d, t = j * 3 + d := ⟨t - j * 3, by omega⟩
      rw [Nat.add_sub_cancel_left]
      have hd : d = 0 ∨ d = 1 := by omega
      rcases hd with rfl | rfl
      · exact cellsE_get acc j y hy 0 _ rfl
      · exact cellsE_get acc j y hy 1 _ rfl
    · rw [if_neg (by simpa [encE] using hr)]
theorem totalW_perm {l m : List Edg} (h : l.Perm m) : totalW l = totalW m := by
  induction h with
  | nil => rfl
  | cons x _ ih => rw [totalW_cons, totalW_cons, ih]
  | swap x y l => simp only [totalW_cons]; omega
  | trans _ _ h1 h2 => exact h1.trans h2
theorem sumP_ok (l : List Edg) : (sumP l).length ≤ l.length ∧ (nonneg l → nonneg (sumP l) ∧ totalW (sumP l) ≤ totalW l) := by
  have hp := sumP_perm l
  obtain ⟨_, h2, h3⟩ := sumAll_ok l
  refine ⟨by rw [hp.length_eq]; exact h2, fun hn => ?_⟩
  obtain ⟨a, b⟩ := h3 hn
  refine ⟨fun x hx => a x (hp.mem_iff.1 hx), ?_⟩
  have : totalW (sumP l) = totalW (sumAll l) := totalW_perm hp
  omega
theorem normE_ne (x : Edg) : (normE x).u ≠ (normE x).v ↔ x.u ≠ x.v := by unfold normE; split <;> simp <;> omega
theorem sumP_take {l : List Edg} {k : Nat} {x : Edg} (hx : l[k]? = some x) : sumP (l.take (k + 1)) = if x.u ≠ x.v then updE (sumP (l.take k)) (normE x) else sumP (l.take k) := by
  rw [take_snoc hx, sumP_snoc]
theorem not_zero (l : List Edg) : l.filter (fun x => !decide (x.w = 0)) = l.filter (fun e => e.w ≠ 0) := List.filter_congr (fun x _ => by simp)
theorem row_lt {w : World} {F : Nat → Prop} {v : Value} {e : TypeId} {s m : Nat} {xs : List Value} (h : (row v e s m xs).holds w F) : ∀ k, F k → k < w.heap.size := fun k hk => (h.1.lt k ((h.2 k).1 hk)).2

set_option maxRecDepth 100000 in
theorem edgeMerge (A : Option Addr) (c : Nat) (l : List Edg) (w : World) (hr : Rd w A 3 l.length (cellsE l)) (hwf : ∀ x ∈ l, (0 ≤ x.u ∧ x.u ≤ 9223372036854775807) ∧ 0 ≤ x.v ∧ x.v ≤ 9223372036854775807) (hnn : nonneg l) (htot : totalW l ≤ 2305843009213693952) (hlen : l.length ≤ 1073741824) : Calls Tryz.prog 38 #[.slice A l.length c] w fun en w1 => ∃ p : Option Addr × Nat, en = .returned (.tuple #[.slice p.1 (mergeL l).length p.2, .bool true]) ∧ Gr w w1 ∧ ∃ F, (row (.slice p.1 (mergeL l).length p.2) 79 3 (mergeL l).length (cellsE (mergeL l))).holds w1 F ∧ ∀ k, F k → w.heap.size ≤ k ∧ k < w1.heap.size := by
  refine CW.enter (P := Tryz.prog) (F0 := none0) (L := [(0, _)]) 73 [] Tryz.func38 rfl Tryz.ntmps38 (Nat.le_of_ble_eq_true rfl) (St.start w none0) rfl ?_
  refine CW.seq ?_
  refine CW.region ?_
  refine RW.y (.inl rfl) rfl (Yv.assign rfl) ?_
  refine RW.y (.inl rfl) rfl (Yv.assign rfl) ?_
  refine RW.nil ?_
  refine PW.go ?_
  refine CW.seq ?_
  refine CW.region ?_
  refine RW.o _ (.inl rfl) rfl (Ow.makeMap (k := 130)) ?_
  rintro _ _ ⟨b14, rfl, rfl⟩
  refine RW.y (.inl rfl) rfl (Yv.assign rfl) ?_
  refine RW.nil ?_
  refine PW.go ?_
  refine CW.seq ?_
  refine CW.region ?_
  refine RW.mem _ (fun w h => h.emptyRow 79 3) ?_
  refine RW.y (.inl rfl) rfl (Yv.assign rfl) ?_
  refine RW.nil ?_
  refine PW.go ?_
  refine CW.seq ?_
  refine CW.seq ?_
  refine CW.region ?_
  refine RW.y (.inl rfl) rfl (Yv.move rfl) ?_
  refine RW.y (.inl rfl) rfl (Yv.len Tryz.underlying22 rfl) ?_
  refine RW.y (.inl rfl) rfl (Yv.move rfl) ?_
  refine RW.nil ?_
  refine PW.go ?_
  refine CW.block ?_
  refine CW.loop (σ := Nat × (Int → Int → Option Int) × Value) (fun s => s.1 ≤ l.length ∧ MapOk (sumP (l.take s.1)) s.2.1) (fun s => [(4, .map (some b14)), (5, s.2.2), (15, .slice A l.length c), (16, .int .i64 l.length), (17, .int .i64 (s.1 : Nat))]) (fun s => [row s.2.2 79 3 (sumP (l.take s.1)).length (cellsE (sumP (l.take s.1))), mapA Tryz.prog 130 b14 s.1 s.2.1]) (fun s => l.length - s.1) (0, (fun _ _ => none), .slice none 0 0) (⟨by simp, by intro u v _ x hx; simp [sumP] at hx, by intro u v i hi; cases hi⟩) ⟨rfl, rfl, rfl, rfl, rfl, trivial⟩ (fun w h => h) ?_
  rintro ⟨k, f, v⟩ ⟨hkle, hmap⟩
  (try dsimp only at *)
  obtain ⟨hsl, hsn⟩ := sumP_ok (l.take k)
  obtain ⟨hsnn, hst⟩ := hsn (nonneg_take hnn k)
  have htk := total_take hnn k
  have hlt := List.length_take_le k l
  refine CW.seq ?_
  refine CW.region ?_
  refine RW.y (.inl rfl) rfl (Yv.lt rfl rfl) ?_
  refine RW.nil ?_
  refine PW.go ?_
  refine CW.seq ?_
  refine CW.condD rfl (fun hc18 => ?_) (fun hc18 => ?_)
  ·
    refine CW.skip ?_
    refine PW.go ?_
    refine CW.seq ?_
    refine CW.block ?_
    refine CW.seq ?_
    have hkl : k < l.length := by omega
    obtain ⟨b, o, rfl, hb, hc⟩ := hr.2.2 (by omega)
    obtain ⟨x, hx⟩ : ∃ x, l[k]? = some x := ⟨_, List.getElem?_eq_getElem hkl⟩
    have hcx := cellsE_get l k x hx
    have hxm := List.mem_of_getElem? hx
    have hxw := hnn x hxm
    have hxf := hwf x hxm
    have hnf : (0 ≤ (normE x).u ∧ (normE x).u ≤ 9223372036854775807) ∧ 0 ≤ (normE x).v ∧ (normE x).v ≤ 9223372036854775807 := by unfold normE; split <;> (try dsimp only) <;> omega
    have hnw := normE_w x
    refine CW.region ?_
    refine RW.y (.inl rfl) rfl (Yv.indexK Tryz.underlying22 Tryz.sizeOf79 rfl rfl (by omega) (by omega)) ?_
    refine RW.y (.inl rfl) rfl (Yv.loadK (vs := [_, _, _]) Tryz.isAgg79 Tryz.sizeOf79 rfl (CFs.old (vs := encE x) (fun j v hj => by rw [add_plain', Nat.add_assoc]; exact hc _ v (hcx j v hj)) (fun _ _ _ => not_none0 _))) ?_
    refine RW.o _ (.inl rfl) rfl (Ow.alloc (cs := [_, _, _]) Tryz.zeroValue79 rfl) ?_
    rintro _ _ ⟨b7, rfl, rfl⟩
    refine RW.o _ (.inl rfl) rfl (Ow.storeW (vs := [_, _, _]) 0 Tryz.sizeOf79 rfl rfl (rfl) rfl (rfl)) ?_
    rintro _ _ ⟨rfl, rfl⟩
    refine RW.nil ?_
    refine PW.go ?_
    refine CW.seq ?_
    refine CW.region ?_
    refine RW.y (.inl rfl) rfl (Yv.loadK (vs := [_, _, _]) Tryz.isAgg79 Tryz.sizeOf79 rfl (CFs.whole 0 rfl)) ?_
    refine RW.o _ (.inl rfl) rfl (Ow.call e80 rfl (C.val (fun w hs => edgeNormal x _))) ?_
    rintro _ _ ⟨rfl, rfl⟩
    refine RW.o _ (.inl rfl) rfl (Ow.alloc (cs := [_, _, _]) Tryz.zeroValue79 rfl) ?_
    rintro _ _ ⟨b8, rfl, rfl⟩
    refine RW.o _ (.inl rfl) rfl (Ow.storeW (vs := [_, _, _]) 0 Tryz.sizeOf79 rfl rfl (rfl) rfl (rfl)) ?_
    rintro _ _ ⟨rfl, rfl⟩
    refine RW.nil ?_
    refine PW.go ?_
    refine CW.seq ?_
    refine CW.seq ?_
    refine CW.region ?_
    refine RW.y (.inl rfl) rfl (Yv.fieldAddr Tryz.underlying79 rfl Tryz.sizeOf3 rfl rfl) ?_
    refine RW.y (.inl rfl) rfl (Yv.load1 Tryz.isAgg3 rfl (CF.blk 0 rfl rfl)) ?_
    refine RW.y (.inl rfl) rfl (Yv.fieldAddr Tryz.underlying79 rfl Tryz.sizeOf3 rfl rfl) ?_
    refine RW.y (.inl rfl) rfl (Yv.load1 Tryz.isAgg3 rfl (CF.blk 0 rfl rfl)) ?_
    refine RW.y (.inl rfl) rfl (Yv.eq rfl rfl) ?_
    refine RW.nil ?_
    refine PW.go ?_
    refine CW.condD rfl (fun hc27 => ?_) (fun hc27 => ?_)
    ·
      refine CW.exit ?_
      refine PW.then_exit ?_
      refine PW.block_exit ?_
      refine PW.go ?_
      refine CW.region ?_
      refine RW.y (.inl rfl) rfl (Yv.add rfl rfl (by omega)) ?_
      refine RW.y (.inl rfl) rfl (Yv.move rfl) ?_
      refine RW.nil ?_
      have hO : sumP (l.take (k + 1)) = sumP (l.take k) := by rw [sumP_take hx, if_neg (fun hc => (normE_ne x).2 hc (by simpa using hc27))]
      have hM := hmap
      refine PW.mem _ (fun w h => h.row_eq (m' := (sumP (l.take (k + 1))).length) (xs' := cellsE (sumP (l.take (k + 1)))) 2 rfl (by rw [hO]) (by rw [hO])) ?_
      refine PW.mem _ (fun w h => h.map_mono (m' := k + 1) 3 rfl (by omega)) ?_
      exact PW.next (k + 1, f, v) (by refine ⟨by show k + 1 ≤ l.length; omega, ?_⟩; show MapOk (sumP (l.take (k + 1))) _; rw [hO]; exact hM) ⟨rfl, rfl, rfl, rfl, rfl, trivial⟩ (fun w h => ((h).erase 0).erase 0) (by show l.length - (k + 1) < l.length - k; omega)
    ·
      have hne : x.u ≠ x.v := (normE_ne x).1 hc27
      refine CW.skip ?_
      refine PW.go ?_
      refine CW.seq ?_
      refine CW.region ?_
      refine RW.y (.inl rfl) rfl (Yv.fieldAddr Tryz.underlying79 rfl Tryz.sizeOf3 rfl rfl) ?_
      refine RW.y (.inl rfl) rfl (Yv.load1 Tryz.isAgg3 rfl (CF.blk 0 rfl rfl)) ?_
      refine RW.y (.inl rfl) rfl (Yv.fieldAddr Tryz.underlying79 rfl Tryz.sizeOf3 rfl rfl) ?_
      refine RW.y (.inl rfl) rfl (Yv.load1 Tryz.isAgg3 rfl (CF.blk 0 rfl rfl)) ?_
      refine RW.y (.inl rfl) rfl (Yv.build rfl (fun w => by exact bld130_0_1 _ _ w)) ?_
      refine RW.o _ (.inl rfl) rfl (Ow.alloc (cs := [_, _]) Tryz.zeroValue130 rfl) ?_
      rintro _ _ ⟨b9, rfl, rfl⟩
      refine RW.o _ (.inl rfl) rfl (Ow.storeW (vs := [_, _]) 0 Tryz.sizeOf130 rfl rfl (rfl) rfl (rfl)) ?_
      rintro _ _ ⟨rfl, rfl⟩
      refine RW.nil ?_
      refine PW.go ?_
      refine CW.seq ?_
      refine CW.region ?_
      refine RW.y (.inl rfl) rfl (Yv.move rfl) ?_
      refine RW.y (.inl rfl) rfl (Yv.loadK (vs := [_, _]) Tryz.isAgg130 Tryz.sizeOf130 rfl (CFs.whole 0 rfl)) ?_
      refine RW.y (.inl rfl) rfl (Yv.lookup 4 keyed130 arr130 Tryz.underlying3 typesSize Tryz.underlying128 Tryz.zeroValue3 rfl rfl (by omega) (by omega) rfl) ?_
      refine RW.y (.inl rfl) rfl (Yv.move rfl) ?_
      refine RW.y (.inl rfl) rfl (Yv.extract rfl rfl) ?_
      refine RW.y (.inl rfl) rfl (Yv.extract rfl rfl) ?_
      refine RW.y (.inl rfl) rfl (Yv.assign rfl) ?_
      refine RW.y (.inl rfl) rfl (Yv.assign rfl) ?_
      refine RW.nil ?_
      refine PW.go ?_
      refine CW.seq ?_
      refine CW.seq ?_
      refine CW.region ?_
      refine RW.y (.inl rfl) rfl (Yv.move rfl) ?_
      refine RW.y (.inl rfl) rfl (Yv.not rfl) ?_
      refine RW.nil ?_
      refine PW.go ?_
      refine CW.cond rfl (fun hc40 => ?_) (fun hc40 => ?_)
      ·
        have hnone : f (normE x).u (normE x).v = none := by simpa using hc40
        refine CW.seq ?_
        refine CW.region ?_
        refine RW.y (.inl rfl) rfl (Yv.move rfl) ?_
        refine RW.y (.inl rfl) rfl (Yv.loadK (vs := [_, _]) Tryz.isAgg130 Tryz.sizeOf130 rfl (CFs.whole 0 rfl)) ?_
        refine RW.y (.inl rfl) rfl (Yv.move rfl) ?_
        refine RW.y (.inl rfl) rfl (Yv.lenRow 3 Tryz.underlying22 rfl rfl) ?_
        refine RW.o _ (.inl rfl) rfl (Ow.mapUpdate 4 keyed130 arr130 Tryz.underlying3 typesSize Tryz.underlying128 rfl rfl rfl (by omega) (by omega) (by omega) rfl) ?_
        rintro _ _ ⟨rfl, rfl⟩
        refine RW.nil ?_
        refine PW.go ?_
        refine CW.seq ?_
        refine CW.region ?_
        refine RW.y (.inl rfl) rfl (Yv.move rfl) ?_
        refine RW.y (.inl rfl) rfl (Yv.loadK (vs := [_, _, _]) Tryz.isAgg79 Tryz.sizeOf79 rfl (CFs.whole 1 rfl)) ?_
        refine RW.o _ (.inl rfl) rfl (Ow.lit (len := 1) (vs := [_]) (cs := [_, _, _]) Tryz.underlying22 info79 rfl rfl rfl rfl rfl rfl rfl) ?_
        rintro _ _ ⟨b47, rfl, rfl⟩
        refine RW.o _ (.inl rfl) rfl (Ow.append 4 0 Tryz.underlying22 info79 rfl rfl rfl rfl rfl rfl rfl rfl (by omega) (by omega)) ?_
        rintro v48 _ rfl
        refine RW.y (.inl rfl) rfl (Yv.assign rfl) ?_
        refine RW.nil ?_
        refine PW.go ?_
        refine CW.exit ?_
        refine PW.then_exit ?_
        refine PW.block_exit ?_
        refine PW.go ?_
        refine CW.region ?_
        refine RW.y (.inl rfl) rfl (Yv.add rfl rfl (by omega)) ?_
        refine RW.y (.inl rfl) rfl (Yv.move rfl) ?_
        refine RW.nil ?_
        have hst := updE_new hmap hnone
        have hO : sumP (l.take (k + 1)) = sumP (l.take k) ++ [normE x] := by rw [sumP_take hx, if_pos hne, hst.1]
        have hM := hst.2
        refine PW.mem _ (fun w h => h.row_eq (m' := (sumP (l.take (k + 1))).length) (xs' := cellsE (sumP (l.take (k + 1)))) 4 rfl (by rw [hO]; simp) (by rw [hO]; simp [cellsE_append]; simp [cellsE, encE])) ?_
        exact PW.next (k + 1, updM f (normE x).u (normE x).v ((sumP (l.take k)).length : Nat), v48) (by refine ⟨by show k + 1 ≤ l.length; omega, ?_⟩; show MapOk (sumP (l.take (k + 1))) _; rw [hO]; exact hM) ⟨rfl, rfl, rfl, rfl, rfl, trivial⟩ (fun w h => ((((h).erase 0).erase 0).erase 0).erase 0) (by show l.length - (k + 1) < l.length - k; omega)
      ·
        obtain ⟨i, hi⟩ : ∃ i, f (normE x).u (normE x).v = some i := by
          cases hq : f (normE x).u (normE x).v with
          | none => rw [hq] at hc40; cases hc40
          | some i => exact ⟨i, rfl⟩
        obtain ⟨j, rfl, y, hy, hyk⟩ := hmap.2 _ _ _ hi
        have hjl := (List.getElem?_eq_some_iff.1 hy).1
        have hyw := hsnn y (List.mem_of_getElem? hy)
        have hyt := le_total hsnn (List.mem_of_getElem? hy)
        have hxt := le_total hnn hxm
        rw [hi]
        dsimp only [Option.getD_some]
        refine CW.skip ?_
        refine PW.go ?_
        refine CW.seq ?_
        refine CW.facts _ (fun w h => h.row_slice 3 rfl) ?_
        rintro ⟨Ao, co, rfl⟩
        refine CW.facts _ (fun w h => h.row_some 3 rfl (by omega)) ?_
        rintro ⟨bo, rfl⟩
        refine CW.draw0 mixed ?_
        refine HW.take 0 rfl (by kernel_rfl) (by kernel_rfl) (by kernel_rfl) (fun _ _ _ h => h) (.inl rfl) rfl (fun _ h => h) (Yv.move rfl) ?_
        refine HW.take 1 rfl (by kernel_rfl) (by kernel_rfl) (by kernel_rfl) (fun _ _ _ h => h) (.inl rfl) rfl (fun _ h => h) (Yv.move rfl) ?_
        refine HW.take 2 rfl (by kernel_rfl) (by kernel_rfl) (by kernel_rfl) (fun _ _ _ h => h) (.inl rfl) rfl (fun _ h => h) (Yv.index0K Tryz.underlying22 Tryz.sizeOf79 rfl rfl (by omega) (by omega)) ?_
        refine HW.take 3 rfl (by kernel_rfl) (by kernel_rfl) (by kernel_rfl) (fun _ _ _ h => h) (.inl rfl) rfl (fun _ h => h) (Yv.fieldAddr Tryz.underlying79 rfl Tryz.sizeOf2 rfl rfl) ?_
        refine HW.take 4 rfl (by kernel_rfl) (by kernel_rfl) (by kernel_rfl) (fun _ _ _ h => h) (.inl rfl) rfl (fun _ h => h) (Yv.load1 Tryz.isAgg2 rfl (CF.row 3 rfl (cellsE_get _ j y hy 2 _ rfl))) ?_
        refine HW.take 5 rfl (by kernel_rfl) (by kernel_rfl) (by kernel_rfl) (fun _ _ _ h => h) (.inl rfl) rfl (fun _ h => h) (Yv.fieldAddr Tryz.underlying79 rfl Tryz.sizeOf2 rfl rfl) ?_
        refine HW.take 6 rfl (by kernel_rfl) (by kernel_rfl) (by kernel_rfl) (fun _ _ _ h => h) (.inl rfl) rfl (fun _ h => h) (Yv.load1 Tryz.isAgg2 rfl (CF.blk 1 rfl rfl)) ?_
        refine HW.run 7 rfl (by kernel_rfl) _ (.inl rfl) rfl (Ow.call e81 rfl (C.val (fun w hs => numAdd y.w (normE x).w (by omega) (by omega) (by omega) _))) (by rintro _ _ ⟨rfl, rfl⟩ w h; exact h) ?_
        rintro _ _ ⟨rfl, rfl⟩
        refine HW.take 8 rfl (by kernel_rfl) (by kernel_rfl) (by kernel_rfl) (fun _ _ _ h => h) (.inl rfl) rfl (fun _ h => h) (Yv.move rfl) ?_
        refine HW.take 9 rfl (by kernel_rfl) (by kernel_rfl) (by kernel_rfl) (fun _ _ _ h => h) (.inl rfl) rfl (fun _ h => h) (Yv.extract rfl rfl) ?_
        refine HW.take 10 rfl (by kernel_rfl) (by kernel_rfl) (by kernel_rfl) (fun _ _ _ h => h) (.inl rfl) rfl (fun _ h => h) (Yv.extract rfl rfl) ?_
        refine HW.take 11 rfl (by kernel_rfl) (by kernel_rfl) (by kernel_rfl) (fun _ _ _ h => h) (.inl rfl) rfl (fun _ h => h) (Yv.assign rfl) ?_
        refine HW.take 12 rfl (by kernel_rfl) (by kernel_rfl) (by kernel_rfl) (fun _ _ _ h => h) (.inl rfl) rfl (fun _ h => h) (Yv.assign rfl) ?_
        refine HW.done (by kernel_rfl) ?_
        refine PW.go ?_
        refine CW.seq ?_
        refine CW.seq ?_
        refine CW.region ?_
        refine RW.y (.inl rfl) rfl (Yv.move rfl) ?_
        refine RW.y (.inl rfl) rfl (Yv.not rfl) ?_
        refine RW.nil ?_
        refine PW.go ?_
        refine CW.cond rfl (fun hc61 => ?_) (fun hc61 => ?_)
        ·
          cases hc61
        ·
          refine CW.skip ?_
          refine PW.go ?_
          refine CW.region ?_
          refine RW.y (.inl rfl) rfl (Yv.move rfl) ?_
          refine RW.y (.inl rfl) rfl (Yv.move rfl) ?_
          refine RW.y (.inl rfl) rfl (Yv.move rfl) ?_
          refine RW.y (.inl rfl) rfl (Yv.index0K Tryz.underlying22 Tryz.sizeOf79 rfl rfl (by omega) (by omega)) ?_
          refine RW.y (.inl rfl) rfl (Yv.fieldAddr Tryz.underlying79 rfl Tryz.sizeOf2 rfl rfl) ?_
          refine RW.o _ (.inl rfl) rfl (Ow.storeRow 3 Tryz.sizeOf2 rfl rfl (rfl) rfl (by have e := cellsE_length (sumP (l.take k)); show _ < (cellsE (sumP (l.take k))).length; rw [e]; simp; omega)) ?_
          rintro _ _ ⟨rfl, rfl⟩
          refine RW.nil ?_
          refine PW.block ?_
          refine PW.go ?_
          refine CW.region ?_
          refine RW.y (.inl rfl) rfl (Yv.add rfl rfl (by omega)) ?_
          refine RW.y (.inl rfl) rfl (Yv.move rfl) ?_
          refine RW.nil ?_
          have hO : sumP (l.take (k + 1)) = (sumP (l.take k)).set j ⟨y.u, y.v, y.w + (normE x).w⟩ := by rw [sumP_take hx, if_pos hne, updE_old (sumP_dist _) hy hyk]
          have hM := mapOk_set (y.w + (normE x).w) hmap hy
          refine PW.mem _ (fun w h => h.row_eq (m' := (sumP (l.take (k + 1))).length) (xs' := cellsE (sumP (l.take (k + 1)))) 3 rfl (by rw [hO]; simp) (by rw [hO, ← cellsE_setw _ _ _ _ hy]; simp)) ?_
          refine PW.mem _ (fun w h => h.map_mono (m' := k + 1) 4 rfl (by omega)) ?_
          exact PW.next ((k + 1, f, .slice (some ⟨bo, 0, none⟩) (sumP (l.take k)).length co)) (by refine ⟨by show k + 1 ≤ l.length; omega, ?_⟩; show MapOk (sumP (l.take (k + 1))) _; rw [hO]; exact hM) ⟨rfl, rfl, rfl, rfl, rfl, trivial⟩ (fun w h => (((h).erase 0).erase 0).erase 0) (by show l.length - (k + 1) < l.length - k; omega)
  ·
    refine CW.exit ?_
    refine PW.then_exit ?_
    refine PW.then_exit ?_
    refine PW.block_exit ?_
    refine PW.go ?_
    refine CW.seq ?_
    refine CW.facts _ (fun w h => h.row_slice 0 rfl) ?_
    rintro ⟨Ao, co, rfl⟩
    obtain rfl : k = l.length := by omega
    rw [List.take_length] at *
    refine CW.region ?_
    refine RW.y (.inl rfl) rfl (Yv.move rfl) ?_
    refine RW.o _ (.inl rfl) rfl (Ow.call e82 rfl (C.mut (val := fun _ : Unit => .slice Ao ((sumP l).filter (fun x => !decide (x.w = 0))).length co) (Ψ := fun _ : Unit => row (.slice Ao ((sumP l).filter (fun x => !decide (x.w = 0))).length co) 79 3 ((sumP l).filter (fun x => !decide (x.w = 0))).length (cellsE ((sumP l).filter (fun x => !decide (x.w = 0))))) (φ := fun _ => True) 0 rfl (fun w2 F2 h2 h3 => deleteFuncE 83 (fun x => decide (x.w = 0)) e83 edgeMerge1 Ao co (sumP l) w2 F2 h2 h3 (by omega)))) ?_
    rintro _ _ ⟨_, -, rfl, rfl⟩
    refine RW.y (.inl rfl) rfl (Yv.assign rfl) ?_
    refine RW.nil ?_
    refine PW.go ?_
    refine CW.seq ?_
    have hfl := List.length_filter_le (fun x : Edg => !decide (x.w = 0)) (sumP l)
    refine CW.region ?_
    refine RW.y (.inl rfl) rfl (Yv.move rfl) ?_
    refine RW.o _ (.inl rfl) rfl (Ow.call e84 rfl (C.mut (val := fun _ : List Edg => .tuple #[]) (Ψ := fun m => row (.slice Ao ((sumP l).filter (fun x => !decide (x.w = 0))).length co) 79 3 ((sumP l).filter (fun x => !decide (x.w = 0))).length (cellsE m)) (φ := fun m => m.Perm ((sumP l).filter (fun x => !decide (x.w = 0))) ∧ m.Pairwise (fun a b => ¬ cmpE b a < 0)) 0 rfl (fun w2 F2 h2 h3 => sortFuncE Ao co _ w2 F2 h2 h3 (by omega)))) ?_
    rintro _ _ ⟨m, ⟨hm1, hm2⟩, rfl, rfl⟩
    refine RW.nil ?_
    refine PW.go ?_
    refine CW.seq ?_
    refine CW.region ?_
    refine RW.y (.inl rfl) rfl (Yv.move rfl) ?_
    refine RW.y (.inl rfl) rfl (Yv.assign rfl) ?_
    refine RW.y (.inl rfl) rfl (Yv.assign rfl) ?_
    refine RW.nil ?_
    refine PW.go ?_
    refine CW.ret ?_
    refine PW.ret2 Tryz.results38 rfl rfl (fun w1 hs => ?_)
    have hme : m = mergeL l := merge_of_perm (by rw [← not_zero]; exact hm1) hm2
    have hle : ((sumP l).filter (fun x => !decide (x.w = 0))).length = (mergeL l).length := by rw [← hme, hm1.length_eq]
    obtain ⟨F, hF, hk⟩ := hs.out 0 rfl
    rw [hle, hme] at hF
    rw [hle]
    exact ⟨(Ao, co), rfl, hs.mod.below, F, hF, hk⟩

end Go.Proofs.YtipoblpnkkcpgaaGreat
