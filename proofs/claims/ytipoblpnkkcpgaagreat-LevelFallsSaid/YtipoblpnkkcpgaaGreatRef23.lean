/- Walks, written by a program of this session (gen.py) out of a spec. -/
import Derived.Test.YtipoblpnkkcpgaaGreatRchP
import Derived.Test.YtipoblpnkkcpgaaGreatRefCsr
import Derived.Test.YtipoblpnkkcpgaaGreatRes0
import Derived.Test.YtipoblpnkkcpgaaGreatRef0
set_option linter.unusedVariables false
set_option linter.unusedSimpArgs false
namespace Go.Proofs.YtipoblpnkkcpgaaGreat
open Go Go.RowKit Go.Proofs.YtipoblpnkkcpgaaGreat.B

theorem rd_of_row {w : World} {F : Nat → Prop} {A : Option Addr} {c m m' : Nat} {e : TypeId} {xs : List Value} (h : (row (.slice A m c) e 1 m' xs).holds w F) (hm : m' = m) (hl : m ≤ 4611686018427387904) : Rd w A 1 m' xs := by
  subst hm; exact row_rd h hl
theorem exc_snoc : ∀ (l : List Edg) (f : List Int) (e : Edg) (y v : Int), l.length = f.length → exc (l ++ [e]) (f ++ [y]) v = exc l f v + ((if e.v = v then y else 0) - (if e.u = v then y else 0))
  | [], [], e, y, v, _ => by simp [exc]
  | x :: l, z :: f, e, y, v, h => by
    have ih := exc_snoc l f e y v (by simpa using h)
    simp only [List.cons_append, exc, ih]; omega
  | [], z :: f, e, y, v, h => by simp at h
  | x :: l, [], e, y, v, h => by simp at h
theorem FlowOk.take {l : List Edg} {f : List Int} (h : FlowOk l f) (k : Nat) : FlowOk (l.take k) (f.take k) := by
  refine ⟨by simp [h.len], fun j e y he hy => ?_⟩
  have hj : j < k := by have := (List.getElem?_eq_some_iff.1 he).1; rw [List.length_take] at this; omega
  rw [List.getElem?_take_of_lt hj] at he hy
  exact h.bd j e y he hy
theorem exc_take {l : List Edg} {f : List Int} {k : Nat} {e : Edg} {y : Int} (he : l[k]? = some e) (hy : f[k]? = some y) (hl : f.length = l.length) (v : Int) : exc (l.take (k + 1)) (f.take (k + 1)) v = exc (l.take k) (f.take k) v + ((if e.v = v then y else 0) - (if e.u = v then y else 0)) := by
  rw [take_snoc he, take_snocN hy, exc_snoc _ _ _ _ _ (by simp [hl])]
theorem rch_nil {n : Nat} {l : List Edg} {f : List Int} {v : Int} (h : v < 0 ∨ (n : Int) ≤ v) : rchL n l f v = [] := by unfold rchL; rw [if_neg (by omega)]

set_option maxRecDepth 100000 in
theorem ref23Left (n : Nat) (A : Option Addr) (c : Nat) (l : List Edg) (B : Option Addr) (d : Nat) (f : List Int) (w : World) (hr : Rd w A 3 l.length (cellsE l)) (hrF : Rd w B 1 f.length (i64s f)) (hok : ArcsOk n l) (hF : FlowOk l f) (i : Int) (hi : -9223372036854775808 ≤ i ∧ i ≤ 9223372036854775807) : Calls Tryz.prog 46 #[.agg #[.int .i64 n, .slice A l.length c, .slice B f.length d], .int .i64 i] w fun e w1 => e = .returned (.int .i64 (atI (leftL l f) i)) ∧ Gr w w1 := by
  have hml := hok.hl
  have hlen := hr.2.1
  refine CW.enter (P := Tryz.prog) (F0 := none0) (L := [(0, _), (1, _)]) 43 [] Tryz.func46 rfl Tryz.ntmps46 (Nat.le_of_ble_eq_true rfl) (St.start w none0) rfl ?_
  refine CW.seq ?_
  refine CW.region ?_
  refine RW.o _ (.inl rfl) rfl (Ow.box (cs := [_, _, _]) rfl rfl) ?_
  rintro _ _ ⟨b2, rfl, rfl⟩
  refine RW.y (.inl rfl) rfl (Yv.assign rfl) ?_
  refine RW.nil ?_
  refine PW.go ?_
  refine CW.seq ?_
  refine CW.seq ?_
  refine CW.region ?_
  refine RW.y (.inl rfl) rfl (Yv.fieldAddr Tryz.underlying35 rfl Tryz.sizeOf32 rfl rfl) ?_
  refine RW.y (.inl rfl) rfl (Yv.loadK (vs := [_, _]) Tryz.isAgg32 Tryz.sizeOf32 rfl (CFs.part (pre := []) (vs := [_, _]) (post := [_]) 0 rfl rfl rfl)) ?_
  refine RW.y (.inl rfl) rfl (Yv.move rfl) ?_
  refine RW.o _ (.inl rfl) rfl (Ow.call e52 rfl (C.val (fun w hs => ref19Tail n A c l i hi _ (hr.below hs.mod.below)))) ?_
  rintro _ _ ⟨rfl, rfl⟩
  refine RW.y (.inl rfl) rfl (Yv.lt rfl rfl) ?_
  refine RW.nil ?_
  refine PW.go ?_
  refine CW.condD rfl (fun hc9 => ?_) (fun hc9 => ?_)
  ·
    refine CW.seq ?_
    refine CW.region ?_
    refine RW.y (.inl rfl) rfl (Yv.assign rfl) ?_
    refine RW.nil ?_
    refine PW.go ?_
    refine CW.ret ?_
    refine PW.then_ret ?_
    refine PW.ret1 Tryz.results46 rfl (fun w1 hs => ?_)
    have hout : i < 0 ∨ 2 * (l.length : Int) ≤ i := by
      refine Classical.byContradiction fun h => ?_
      have := head_rng hok (i := i) (by omega) (by omega)
      omega
    exact ⟨by rw [atI_out (by rw [leftL_length]; omega)], hs.mod.below⟩
  ·
    refine CW.skip ?_
    refine PW.go ?_
    refine CW.seq ?_
    refine CW.seq ?_
    have hin : 0 ≤ i ∧ i < 2 * (l.length : Int) := by
      refine Classical.byContradiction fun h => hc9 ?_
      rw [tailOf_out (by omega)]; omega
    obtain ⟨k, rfl⟩ : ∃ k : Nat, i = k := ⟨i.toNat, by omega⟩
    obtain ⟨e, he, hcap, _, _⟩ := arc_edge (l := l) (i := k) (by omega)
    have hfl := hF.len
    obtain ⟨y, hy⟩ : ∃ y, f[k / 2]? = some y := ⟨_, List.getElem?_eq_getElem (by omega)⟩
    have hwe := hok.wts e (List.mem_of_getElem? he)
    have hbd := hF.bd _ e y he hy
    obtain ⟨bE, oE, rfl, _, hcE⟩ := hr.2.2 (by omega)
    obtain ⟨bF, oF, rfl, _, hcF⟩ := hrF.2.2 (by omega)
    have hle := leftL_get (l := l) (f := f) (i := k) (by omega)
    rw [hcap, getD_of hy] at hle
    refine CW.region ?_
    refine RW.y (.inl rfl) rfl (Yv.move rfl) ?_
    refine RW.y (.inl rfl) rfl (Yv.rem rfl rfl (by omega) (by omega)) ?_
    refine RW.y (.inl rfl) rfl (Yv.eq rfl rfl) ?_
    refine RW.nil ?_
    refine PW.go ?_
    refine CW.condD rfl (fun hc12 => ?_) (fun hc12 => ?_)
    ·
      refine CW.seq ?_
      refine CW.draw0 mixed ?_
      refine HW.take 0 rfl (by kernel_rfl) (by kernel_rfl) (by kernel_rfl) (fun _ _ _ h => h) (.inl rfl) rfl (fun _ h => h) (Yv.fieldAddr Tryz.underlying35 rfl Tryz.sizeOf32 rfl rfl) ?_
      refine HW.take 1 rfl (by kernel_rfl) (by kernel_rfl) (by kernel_rfl) (fun _ _ _ h => h) (.inl rfl) rfl (fun _ h => h) (Yv.fieldAddr Tryz.underlying32 rfl Tryz.sizeOf22 rfl rfl) ?_
      refine HW.take 2 rfl (by kernel_rfl) (by kernel_rfl) (by kernel_rfl) (fun _ _ _ h => h) (.inl rfl) rfl (fun _ h => h) (Yv.load1 Tryz.isAgg22 rfl (CF.blk 0 rfl rfl)) ?_
      refine HW.take 3 rfl (by kernel_rfl) (by kernel_rfl) (by kernel_rfl) (fun _ _ _ h => h) (.inl rfl) rfl (fun _ h => h) (Yv.move rfl) ?_
      refine HW.take 4 rfl (by kernel_rfl) (by kernel_rfl) (by kernel_rfl) (fun _ _ _ h => h) (.inl rfl) rfl (fun _ h => h) (Yv.quo rfl rfl (by omega) (by omega)) ?_
      refine HW.take 5 rfl (by kernel_rfl) (by kernel_rfl) (by kernel_rfl) (fun _ _ _ h => h) (.inl rfl) rfl (fun _ h => h) (Yv.indexK Tryz.underlying22 Tryz.sizeOf79 rfl rfl (by omega) (by omega)) ?_
      refine HW.take 6 rfl (by kernel_rfl) (by kernel_rfl) (by kernel_rfl) (fun _ _ _ h => h) (.inl rfl) rfl (fun _ h => h) (Yv.fieldAddr Tryz.underlying79 rfl Tryz.sizeOf2 rfl rfl) ?_
      refine HW.take 7 rfl (by kernel_rfl) (by kernel_rfl) (by kernel_rfl) (fun _ _ _ h => h) (.inl rfl) rfl (fun _ h => h) (Yv.load1 Tryz.isAgg2 rfl (CF.old (by rw [show ((k : Int) / 2).toNat = k / 2 by omega, Nat.add_assoc]; exact hcE _ _ (cellsE_get l (k / 2) e he 2 _ rfl)) (not_none0 _))) ?_
      refine HW.take 8 rfl (by kernel_rfl) (by kernel_rfl) (by kernel_rfl) (fun _ _ _ h => h) (.inl rfl) rfl (fun _ h => h) (Yv.fieldAddr Tryz.underlying35 rfl Tryz.sizeOf33 rfl rfl) ?_
      refine HW.take 9 rfl (by kernel_rfl) (by kernel_rfl) (by kernel_rfl) (fun _ _ _ h => h) (.inl rfl) rfl (fun _ h => h) (Yv.load1 Tryz.isAgg33 rfl (CF.blk 0 rfl rfl)) ?_
      refine HW.take 10 rfl (by kernel_rfl) (by kernel_rfl) (by kernel_rfl) (fun _ _ _ h => h) (.inl rfl) rfl (fun _ h => h) (Yv.move rfl) ?_
      refine HW.take 11 rfl (by kernel_rfl) (by kernel_rfl) (by kernel_rfl) (fun _ _ _ h => h) (.inl rfl) rfl (fun _ h => h) (Yv.quo rfl rfl (by omega) (by omega)) ?_
      refine HW.take 12 rfl (by kernel_rfl) (by kernel_rfl) (by kernel_rfl) (fun _ _ _ h => h) (.inl rfl) rfl (fun _ h => h) (Yv.index1 Tryz.underlying33 Tryz.sizeOf2 rfl rfl (by omega) (by omega)) ?_
      refine HW.take 13 rfl (by kernel_rfl) (by kernel_rfl) (by kernel_rfl) (fun _ _ _ h => h) (.inl rfl) rfl (fun _ h => h) (Yv.load1 Tryz.isAgg2 rfl (CF.old (hcF _ _ (i64s_at (by omega) hy)) (not_none0 _))) ?_
      refine HW.take 14 rfl (by kernel_rfl) (by kernel_rfl) (by kernel_rfl) (fun _ _ _ h => h) (.inl rfl) rfl (fun _ h => h) (Yv.sub rfl rfl (by omega)) ?_
      refine HW.take 15 rfl (by kernel_rfl) (by kernel_rfl) (by kernel_rfl) (fun _ _ _ h => h) (.inl rfl) rfl (fun _ h => h) (Yv.assign rfl) ?_
      refine HW.done (by kernel_rfl) ?_
      refine PW.go ?_
      refine CW.ret ?_
      refine PW.then_ret ?_
      refine PW.ret1 Tryz.results46 rfl (fun w1 hs => ?_)
      refine ⟨?_, hs.mod.below⟩
      rw [atI_nat, getD_of hle, if_pos (by omega)]
      congr 2
    ·
      refine CW.skip ?_
      refine PW.go ?_
      refine CW.seq ?_
      refine CW.draw0 mixed ?_
      refine HW.take 0 rfl (by kernel_rfl) (by kernel_rfl) (by kernel_rfl) (fun _ _ _ h => h) (.inl rfl) rfl (fun _ h => h) (Yv.fieldAddr Tryz.underlying35 rfl Tryz.sizeOf32 rfl rfl) ?_
      refine HW.take 1 rfl (by kernel_rfl) (by kernel_rfl) (by kernel_rfl) (fun _ _ _ h => h) (.inl rfl) rfl (fun _ h => h) (Yv.fieldAddr Tryz.underlying32 rfl Tryz.sizeOf22 rfl rfl) ?_
      refine HW.take 2 rfl (by kernel_rfl) (by kernel_rfl) (by kernel_rfl) (fun _ _ _ h => h) (.inl rfl) rfl (fun _ h => h) (Yv.load1 Tryz.isAgg22 rfl (CF.blk 0 rfl rfl)) ?_
      refine HW.take 3 rfl (by kernel_rfl) (by kernel_rfl) (by kernel_rfl) (fun _ _ _ h => h) (.inl rfl) rfl (fun _ h => h) (Yv.move rfl) ?_
      refine HW.take 4 rfl (by kernel_rfl) (by kernel_rfl) (by kernel_rfl) (fun _ _ _ h => h) (.inl rfl) rfl (fun _ h => h) (Yv.quo rfl rfl (by omega) (by omega)) ?_
      refine HW.take 5 rfl (by kernel_rfl) (by kernel_rfl) (by kernel_rfl) (fun _ _ _ h => h) (.inl rfl) rfl (fun _ h => h) (Yv.indexK Tryz.underlying22 Tryz.sizeOf79 rfl rfl (by omega) (by omega)) ?_
      refine HW.take 6 rfl (by kernel_rfl) (by kernel_rfl) (by kernel_rfl) (fun _ _ _ h => h) (.inl rfl) rfl (fun _ h => h) (Yv.fieldAddr Tryz.underlying79 rfl Tryz.sizeOf2 rfl rfl) ?_
      refine HW.take 7 rfl (by kernel_rfl) (by kernel_rfl) (by kernel_rfl) (fun _ _ _ h => h) (.inl rfl) rfl (fun _ h => h) (Yv.load1 Tryz.isAgg2 rfl (CF.old (by rw [show ((k : Int) / 2).toNat = k / 2 by omega, Nat.add_assoc]; exact hcE _ _ (cellsE_get l (k / 2) e he 2 _ rfl)) (not_none0 _))) ?_
      refine HW.take 8 rfl (by kernel_rfl) (by kernel_rfl) (by kernel_rfl) (fun _ _ _ h => h) (.inl rfl) rfl (fun _ h => h) (Yv.fieldAddr Tryz.underlying35 rfl Tryz.sizeOf33 rfl rfl) ?_
      refine HW.take 9 rfl (by kernel_rfl) (by kernel_rfl) (by kernel_rfl) (fun _ _ _ h => h) (.inl rfl) rfl (fun _ h => h) (Yv.load1 Tryz.isAgg33 rfl (CF.blk 0 rfl rfl)) ?_
      refine HW.take 10 rfl (by kernel_rfl) (by kernel_rfl) (by kernel_rfl) (fun _ _ _ h => h) (.inl rfl) rfl (fun _ h => h) (Yv.move rfl) ?_
      refine HW.take 11 rfl (by kernel_rfl) (by kernel_rfl) (by kernel_rfl) (fun _ _ _ h => h) (.inl rfl) rfl (fun _ h => h) (Yv.quo rfl rfl (by omega) (by omega)) ?_
      refine HW.take 12 rfl (by kernel_rfl) (by kernel_rfl) (by kernel_rfl) (fun _ _ _ h => h) (.inl rfl) rfl (fun _ h => h) (Yv.index1 Tryz.underlying33 Tryz.sizeOf2 rfl rfl (by omega) (by omega)) ?_
      refine HW.take 13 rfl (by kernel_rfl) (by kernel_rfl) (by kernel_rfl) (fun _ _ _ h => h) (.inl rfl) rfl (fun _ h => h) (Yv.load1 Tryz.isAgg2 rfl (CF.old (hcF _ _ (i64s_at (by omega) hy)) (not_none0 _))) ?_
      refine HW.take 14 rfl (by kernel_rfl) (by kernel_rfl) (by kernel_rfl) (fun _ _ _ h => h) (.inl rfl) rfl (fun _ h => h) (Yv.add rfl rfl (by omega)) ?_
      refine HW.take 15 rfl (by kernel_rfl) (by kernel_rfl) (by kernel_rfl) (fun _ _ _ h => h) (.inl rfl) rfl (fun _ h => h) (Yv.assign rfl) ?_
      refine HW.done (by kernel_rfl) ?_
      refine PW.go ?_
      refine CW.ret ?_
      refine PW.ret1 Tryz.results46 rfl (fun w1 hs => ?_)
      refine ⟨?_, hs.mod.below⟩
      rw [atI_nat, getD_of hle, if_neg (by omega)]

set_option maxRecDepth 100000 in
theorem ref23Excess (n : Nat) (A : Option Addr) (c : Nat) (l : List Edg) (B : Option Addr) (d : Nat) (f : List Int) (w : World) (hr : Rd w A 3 l.length (cellsE l)) (hrF : Rd w B 1 f.length (i64s f)) (hok : ArcsOk n l) (hF : FlowOk l f) (hT : totalW l ≤ 2251799813685248) (v : Int) : Calls Tryz.prog 47 #[.agg #[.int .i64 n, .slice A l.length c, .slice B f.length d], .int .i64 v] w fun e w1 => e = .returned (.int .i64 (exc l f v)) ∧ Gr w w1 := by
  have hml := hok.hl
  have hfl := hF.len
  have hnn : nonneg l := fun e he => (hok.wts e he).1
  have hlen := hr.2.1
  refine CW.enter (P := Tryz.prog) (F0 := none0) (L := [(0, _), (1, _)]) 47 [] Tryz.func47 rfl Tryz.ntmps47 (Nat.le_of_ble_eq_true rfl) (St.start w none0) rfl ?_
  refine CW.seq ?_
  refine CW.region ?_
  refine RW.o _ (.inl rfl) rfl (Ow.box (cs := [_, _, _]) rfl rfl) ?_
  rintro _ _ ⟨b2, rfl, rfl⟩
  refine RW.y (.inl rfl) rfl (Yv.assign rfl) ?_
  refine RW.nil ?_
  refine PW.go ?_
  refine CW.seq ?_
  refine CW.region ?_
  refine RW.y (.inl rfl) rfl (Yv.assign rfl) ?_
  refine RW.nil ?_
  refine PW.go ?_
  refine CW.seq ?_
  refine CW.seq ?_
  refine CW.region ?_
  refine RW.y (.inl rfl) rfl (Yv.assign rfl) ?_
  refine RW.nil ?_
  refine PW.go ?_
  refine CW.block ?_
  refine CW.loop (σ := Nat) (fun k => k ≤ l.length) (fun k => [(1, .int .i64 v), (2, .pointer (some ⟨b2, 0, none⟩)), (5, .int .i64 (exc (l.take k) (f.take k) v)), (6, .int .i64 (k : Nat))]) (fun k => [blk b2 [.int .i64 n, .slice A l.length c, .slice B f.length d] 35]) (fun k => l.length - k) 0 (by simp) ⟨rfl, rfl, rfl, rfl, trivial⟩ (fun w h => h) ?_
  intro k hk
  refine CW.seq ?_
  refine CW.seq ?_
  refine CW.region ?_
  refine RW.y (.inl rfl) rfl (Yv.move rfl) ?_
  refine RW.y (.inl rfl) rfl (Yv.fieldAddr Tryz.underlying35 rfl Tryz.sizeOf33 rfl rfl) ?_
  refine RW.y (.inl rfl) rfl (Yv.load1 Tryz.isAgg33 rfl (CF.blk 0 rfl rfl)) ?_
  refine RW.y (.inl rfl) rfl (Yv.len Tryz.underlying33 rfl) ?_
  refine RW.y (.inl rfl) rfl (Yv.lt rfl rfl) ?_
  refine RW.nil ?_
  refine PW.go ?_
  refine CW.condD rfl (fun hc11 => ?_) (fun hc11 => ?_)
  ·
    refine CW.skip ?_
    refine PW.go ?_
    refine CW.seq ?_
    refine CW.block ?_
    refine CW.seq ?_
    refine CW.seq ?_
    have hkl : k < l.length := by omega
    obtain ⟨e, he⟩ : ∃ e, l[k]? = some e := ⟨_, List.getElem?_eq_getElem hkl⟩
    obtain ⟨y, hy⟩ : ∃ y, f[k]? = some y := ⟨_, List.getElem?_eq_getElem (by omega)⟩
    have hwe := hok.wts e (List.mem_of_getElem? he)
    have hbd := hF.bd _ e y he hy
    obtain ⟨bE, oE, rfl, _, hcE⟩ := hr.2.2 (by omega)
    obtain ⟨bF, oF, rfl, _, hcF⟩ := hrF.2.2 (by omega)
    have hxb := exc_bd (l.take k) (f.take k) v (fun z hz => by have := hok.rng z (List.mem_of_mem_take hz); omega) (hF.take k)
    have htt := total_take hnn k
    refine CW.region ?_
    refine RW.y (.inl rfl) rfl (Yv.fieldAddr Tryz.underlying35 rfl Tryz.sizeOf32 rfl rfl) ?_
    refine RW.y (.inl rfl) rfl (Yv.fieldAddr Tryz.underlying32 rfl Tryz.sizeOf22 rfl rfl) ?_
    refine RW.y (.inl rfl) rfl (Yv.load1 Tryz.isAgg22 rfl (CF.blk 0 rfl rfl)) ?_
    refine RW.y (.inl rfl) rfl (Yv.move rfl) ?_
    refine RW.y (.inl rfl) rfl (Yv.indexK Tryz.underlying22 Tryz.sizeOf79 rfl rfl (by omega) (by omega)) ?_
    refine RW.y (.inl rfl) rfl (Yv.fieldAddr Tryz.underlying79 rfl Tryz.sizeOf3 rfl rfl) ?_
    refine RW.y (.inl rfl) rfl (Yv.load1 Tryz.isAgg3 rfl (CF.old (by rw [Nat.add_assoc]; exact hcE _ _ (cellsE_get l k e he 1 _ rfl)) (not_none0 _))) ?_
    refine RW.y (.inl rfl) rfl (Yv.move rfl) ?_
    refine RW.y (.inl rfl) rfl (Yv.eq rfl rfl) ?_
    refine RW.nil ?_
    refine PW.go ?_
    refine CW.condD rfl (fun hc22 => ?_) (fun hc22 => ?_)
    ·
      refine CW.region ?_
      refine RW.y (.inl rfl) rfl (Yv.move rfl) ?_
      refine RW.y (.inl rfl) rfl (Yv.fieldAddr Tryz.underlying35 rfl Tryz.sizeOf33 rfl rfl) ?_
      refine RW.y (.inl rfl) rfl (Yv.load1 Tryz.isAgg33 rfl (CF.blk 0 rfl rfl)) ?_
      refine RW.y (.inl rfl) rfl (Yv.move rfl) ?_
      refine RW.y (.inl rfl) rfl (Yv.index1 Tryz.underlying33 Tryz.sizeOf2 rfl rfl (by omega) (by omega)) ?_
      refine RW.y (.inl rfl) rfl (Yv.load1 Tryz.isAgg2 rfl (CF.old (hcF _ _ (i64s_get _ _ _ hy)) (not_none0 _))) ?_
      refine RW.y (.inl rfl) rfl (Yv.add rfl rfl (by omega)) ?_
      refine RW.y (.inl rfl) rfl (Yv.assign rfl) ?_
      refine RW.nil ?_
      refine PW.go ?_
      refine CW.seq ?_
      refine CW.region ?_
      refine RW.y (.inl rfl) rfl (Yv.fieldAddr Tryz.underlying35 rfl Tryz.sizeOf32 rfl rfl) ?_
      refine RW.y (.inl rfl) rfl (Yv.fieldAddr Tryz.underlying32 rfl Tryz.sizeOf22 rfl rfl) ?_
      refine RW.y (.inl rfl) rfl (Yv.load1 Tryz.isAgg22 rfl (CF.blk 0 rfl rfl)) ?_
      refine RW.y (.inl rfl) rfl (Yv.move rfl) ?_
      refine RW.y (.inl rfl) rfl (Yv.indexK Tryz.underlying22 Tryz.sizeOf79 rfl rfl (by omega) (by omega)) ?_
      refine RW.y (.inl rfl) rfl (Yv.fieldAddr Tryz.underlying79 rfl Tryz.sizeOf3 rfl rfl) ?_
      refine RW.y (.inl rfl) rfl (Yv.load1 Tryz.isAgg3 rfl (CF.old (by rw [Nat.add_assoc]; exact hcE _ _ (cellsE_get l k e he 0 _ rfl)) (not_none0 _))) ?_
      refine RW.y (.inl rfl) rfl (Yv.move rfl) ?_
      refine RW.y (.inl rfl) rfl (Yv.eq rfl rfl) ?_
      refine RW.nil ?_
      refine PW.go ?_
      refine CW.condD rfl (fun hc38 => ?_) (fun hc38 => ?_)
      ·
        refine CW.region ?_
        refine RW.y (.inl rfl) rfl (Yv.move rfl) ?_
        refine RW.y (.inl rfl) rfl (Yv.fieldAddr Tryz.underlying35 rfl Tryz.sizeOf33 rfl rfl) ?_
        refine RW.y (.inl rfl) rfl (Yv.load1 Tryz.isAgg33 rfl (CF.blk 0 rfl rfl)) ?_
        refine RW.y (.inl rfl) rfl (Yv.move rfl) ?_
        refine RW.y (.inl rfl) rfl (Yv.index1 Tryz.underlying33 Tryz.sizeOf2 rfl rfl (by omega) (by omega)) ?_
        refine RW.y (.inl rfl) rfl (Yv.load1 Tryz.isAgg2 rfl (CF.old (hcF _ _ (i64s_get _ _ _ hy)) (not_none0 _))) ?_
        refine RW.y (.inl rfl) rfl (Yv.sub rfl rfl (by omega)) ?_
        refine RW.y (.inl rfl) rfl (Yv.assign rfl) ?_
        refine RW.nil ?_
        refine PW.block ?_
        refine PW.go ?_
        refine CW.region ?_
        refine RW.y (.inl rfl) rfl (Yv.move rfl) ?_
        refine RW.y (.inl rfl) rfl (Yv.add rfl rfl (by omega)) ?_
        refine RW.y (.inl rfl) rfl (Yv.assign rfl) ?_
        refine RW.nil ?_
        have hst : exc (l.take (k + 1)) (f.take (k + 1)) v = exc (l.take k) (f.take k) v + y - y := by
          rw [exc_take he hy hfl, if_pos (by omega), if_pos (by omega)]; omega
        rw [← hst]
        exact PW.next (k + 1) (by omega) ⟨rfl, rfl, rfl, rfl, trivial⟩ (fun w h => h) (by omega)
      ·
        refine CW.skip ?_
        refine PW.block ?_
        refine PW.go ?_
        refine CW.region ?_
        refine RW.y (.inl rfl) rfl (Yv.move rfl) ?_
        refine RW.y (.inl rfl) rfl (Yv.add rfl rfl (by omega)) ?_
        refine RW.y (.inl rfl) rfl (Yv.assign rfl) ?_
        refine RW.nil ?_
        have hst : exc (l.take (k + 1)) (f.take (k + 1)) v = exc (l.take k) (f.take k) v + y := by
          rw [exc_take he hy hfl, if_pos (by omega), if_neg (by omega)]; omega
        rw [← hst]
        exact PW.next (k + 1) (by omega) ⟨rfl, rfl, rfl, rfl, trivial⟩ (fun w h => h) (by omega)
    ·
      refine CW.skip ?_
      refine PW.go ?_
      refine CW.seq ?_
      refine CW.region ?_
      refine RW.y (.inl rfl) rfl (Yv.fieldAddr Tryz.underlying35 rfl Tryz.sizeOf32 rfl rfl) ?_
      refine RW.y (.inl rfl) rfl (Yv.fieldAddr Tryz.underlying32 rfl Tryz.sizeOf22 rfl rfl) ?_
      refine RW.y (.inl rfl) rfl (Yv.load1 Tryz.isAgg22 rfl (CF.blk 0 rfl rfl)) ?_
      refine RW.y (.inl rfl) rfl (Yv.move rfl) ?_
      refine RW.y (.inl rfl) rfl (Yv.indexK Tryz.underlying22 Tryz.sizeOf79 rfl rfl (by omega) (by omega)) ?_
      refine RW.y (.inl rfl) rfl (Yv.fieldAddr Tryz.underlying79 rfl Tryz.sizeOf3 rfl rfl) ?_
      refine RW.y (.inl rfl) rfl (Yv.load1 Tryz.isAgg3 rfl (CF.old (by rw [Nat.add_assoc]; exact hcE _ _ (cellsE_get l k e he 0 _ rfl)) (not_none0 _))) ?_
      refine RW.y (.inl rfl) rfl (Yv.move rfl) ?_
      refine RW.y (.inl rfl) rfl (Yv.eq rfl rfl) ?_
      refine RW.nil ?_
      refine PW.go ?_
      refine CW.condD rfl (fun hc38 => ?_) (fun hc38 => ?_)
      ·
        refine CW.region ?_
        refine RW.y (.inl rfl) rfl (Yv.move rfl) ?_
        refine RW.y (.inl rfl) rfl (Yv.fieldAddr Tryz.underlying35 rfl Tryz.sizeOf33 rfl rfl) ?_
        refine RW.y (.inl rfl) rfl (Yv.load1 Tryz.isAgg33 rfl (CF.blk 0 rfl rfl)) ?_
        refine RW.y (.inl rfl) rfl (Yv.move rfl) ?_
        refine RW.y (.inl rfl) rfl (Yv.index1 Tryz.underlying33 Tryz.sizeOf2 rfl rfl (by omega) (by omega)) ?_
        refine RW.y (.inl rfl) rfl (Yv.load1 Tryz.isAgg2 rfl (CF.old (hcF _ _ (i64s_get _ _ _ hy)) (not_none0 _))) ?_
        refine RW.y (.inl rfl) rfl (Yv.sub rfl rfl (by omega)) ?_
        refine RW.y (.inl rfl) rfl (Yv.assign rfl) ?_
        refine RW.nil ?_
        refine PW.block ?_
        refine PW.go ?_
        refine CW.region ?_
        refine RW.y (.inl rfl) rfl (Yv.move rfl) ?_
        refine RW.y (.inl rfl) rfl (Yv.add rfl rfl (by omega)) ?_
        refine RW.y (.inl rfl) rfl (Yv.assign rfl) ?_
        refine RW.nil ?_
        have hst : exc (l.take (k + 1)) (f.take (k + 1)) v = exc (l.take k) (f.take k) v - y := by
          rw [exc_take he hy hfl, if_neg (by omega), if_pos (by omega)]; omega
        rw [← hst]
        exact PW.next (k + 1) (by omega) ⟨rfl, rfl, rfl, rfl, trivial⟩ (fun w h => h) (by omega)
      ·
        refine CW.skip ?_
        refine PW.block ?_
        refine PW.go ?_
        refine CW.region ?_
        refine RW.y (.inl rfl) rfl (Yv.move rfl) ?_
        refine RW.y (.inl rfl) rfl (Yv.add rfl rfl (by omega)) ?_
        refine RW.y (.inl rfl) rfl (Yv.assign rfl) ?_
        refine RW.nil ?_
        have hst : exc (l.take (k + 1)) (f.take (k + 1)) v = exc (l.take k) (f.take k) v := by
          rw [exc_take he hy hfl, if_neg (by omega), if_neg (by omega)]; omega
        rw [← hst]
        exact PW.next (k + 1) (by omega) ⟨rfl, rfl, rfl, rfl, trivial⟩ (fun w h => h) (by omega)
  ·
    refine CW.exit ?_
    refine PW.then_exit ?_
    refine PW.then_exit ?_
    refine PW.block_exit ?_
    refine PW.go ?_
    refine CW.seq ?_
    refine CW.region ?_
    refine RW.y (.inl rfl) rfl (Yv.move rfl) ?_
    refine RW.y (.inl rfl) rfl (Yv.assign rfl) ?_
    refine RW.nil ?_
    refine PW.go ?_
    refine CW.ret ?_
    refine PW.ret1 Tryz.results47 rfl (fun w1 hs => ?_)
    have hke : k = l.length := by omega
    refine ⟨?_, hs.mod.below⟩
    rw [hke, List.take_length, ← hfl, List.take_length]

set_option maxRecDepth 100000 in
theorem ref23New (n : Nat) (A : Option Addr) (c : Nat) (l : List Edg) (hl : l.length ≤ 1048576) (w : World) : Calls Tryz.prog 9 #[.agg #[.int .i64 n, .slice A l.length c]] w fun e w1 => ∃ x : Option Addr × Nat, True ∧ e = .returned (.agg #[.int .i64 n, .slice A l.length c, .slice x.1 (List.replicate l.length (0 : Int)).length x.2]) ∧ Gr w w1 ∧ ∃ F, (nowA (fun w' => Rd w' x.1 1 (List.replicate l.length (0 : Int)).length (i64s (List.replicate l.length 0)))).holds w1 F ∧ ∀ k, F k → w.heap.size ≤ k ∧ k < w1.heap.size := by
  refine CW.enter (P := Tryz.prog) (F0 := none0) (L := [(0, _)]) 9 [] Tryz.func9 rfl Tryz.ntmps9 (Nat.le_of_ble_eq_true rfl) (St.start w none0) rfl ?_
  refine CW.seq ?_
  refine CW.region ?_
  refine RW.o _ (.inl rfl) rfl (Ow.box (cs := [_, _]) rfl rfl) ?_
  rintro _ _ ⟨b1, rfl, rfl⟩
  refine RW.o _ (.inl rfl) rfl (Ow.alloc (cs := [_, _, _]) Tryz.zeroValue35 rfl) ?_
  rintro _ _ ⟨b2, rfl, rfl⟩
  refine RW.nil ?_
  refine PW.go ?_
  refine CW.seq ?_
  refine CW.drawE mixed (fun _ h => (h).erase 0) ?_
  refine HW.take 0 rfl (by kernel_rfl) (by kernel_rfl) (by kernel_rfl) (fun _ _ _ h => h) (.inl rfl) rfl (fun _ h => (h).erase 0) (Yv.loadK (vs := [_, _]) Tryz.isAgg32 Tryz.sizeOf32 rfl (CFs.whole 0 rfl)) ?_
  refine HW.take 1 rfl (by kernel_rfl) (by kernel_rfl) (by kernel_rfl) (fun _ _ _ h => h) (.inl rfl) rfl (fun _ h => (h).erase 0) (Yv.fieldAddr Tryz.underlying32 rfl Tryz.sizeOf22 rfl rfl) ?_
  refine HW.take 2 rfl (by kernel_rfl) (by kernel_rfl) (by kernel_rfl) (fun _ _ _ h => h) (.inl rfl) rfl (fun _ h => (h).erase 0) (Yv.load1 Tryz.isAgg22 rfl (CF.blk 0 rfl rfl)) ?_
  refine HW.take 3 rfl (by kernel_rfl) (by kernel_rfl) (by kernel_rfl) (fun _ _ _ h => h) (.inl rfl) rfl (fun _ h => (h).erase 0) (Yv.len Tryz.underlying22 rfl) ?_
  refine HW.run 4 rfl (by kernel_rfl) _ (.inl rfl) rfl (Ow.make (m := l.length) Tryz.underlying33 info2 rfl rfl rfl (by omega) (by omega) (by omega) (by omega)) (by rintro _ _ ⟨b7, rfl, rfl⟩ w h; exact ((h).erase 0).erase 0) ?_
  rintro _ _ ⟨b7, rfl, rfl⟩
  refine HW.take 5 rfl (by kernel_rfl) (by kernel_rfl) (by kernel_rfl) (fun _ _ _ h => h) (.inl rfl) rfl (fun _ h => ((h).erase 0).erase 0) (Yv.build rfl (fun w => by exact bld35_0_1 _ _ _ _ _ _ _ w)) ?_
  refine HW.run 6 rfl (by kernel_rfl) _ (.inl rfl) rfl (Ow.storeW (vs := [_, _, _]) 1 Tryz.sizeOf35 rfl rfl (rfl) rfl (rfl)) (by rintro _ _ ⟨rfl, rfl⟩ w h; exact ((h).erase 0).erase 0) ?_
  rintro _ _ ⟨rfl, rfl⟩
  refine HW.done (by kernel_rfl) ?_
  refine PW.go ?_
  refine CW.ret ?_
  refine PW.retC (vs := [_, _, _]) Tryz.results9 rfl Tryz.isAgg35 Tryz.sizeOf35 (CFs.whole 1 rfl) (fun w1 hs => ?_)
  rw [List.length_replicate]
  obtain ⟨F, hF1, hF2⟩ := hs.outNow (fun w' => Rd w' (some ⟨b7, 0, none⟩) 1 (List.replicate l.length (0 : Int)).length (i64s (List.replicate l.length 0))) (fun w' hh => by
      obtain ⟨F, h⟩ := hh 0 _ rfl
      rw [List.length_replicate, show i64s (List.replicate l.length 0) = List.replicate l.length (.int .i64 0) by simp [i64s]]
      exact row_rd h (by omega))
  exact ⟨(some ⟨b7, 0, none⟩, l.length), trivial, rfl, hs.mod.below, F, by simpa using hF1, hF2⟩

set_option maxRecDepth 100000 in
theorem ref23Push (n : Nat) (A : Option Addr) (c : Nat) (l : List Edg) (B : Option Addr) (d : Nat) (f : List Int) (w : World) (hr : Rd w A 3 l.length (cellsE l)) (hrF : Rd w B 1 f.length (i64s f)) (hok : ArcsOk n l) (hF : FlowOk l f) (i x : Int) (hi : -9223372036854775808 ≤ i ∧ i ≤ 9223372036854775807) (hx : -9223372036854775808 ≤ x ∧ x ≤ 9223372036854775807) : Calls Tryz.prog 13 #[.agg #[.int .i64 n, .slice A l.length c, .slice B f.length d], .int .i64 i, .int .i64 x] w fun en w1 => ∃ q : Option Addr × Nat, (¬ okPush l f i x → q = (B, d)) ∧ en = .returned (.tuple #[.agg #[.int .i64 n, .slice A l.length c, .slice q.1 (pushR l f i x).length q.2], .bool (decide (okPush l f i x))]) ∧ Gr w w1 ∧ ∃ F, (nowA (fun w' => okPush l f i x → Rd w' q.1 1 (pushR l f i x).length (i64s (pushR l f i x)))).holds w1 F ∧ ∀ k, F k → w.heap.size ≤ k ∧ k < w1.heap.size := by
  have hml := hok.hl
  have hlen := hr.2.1
  refine CW.enter (P := Tryz.prog) (F0 := none0) (L := [(0, _), (1, _), (2, _)]) 59 [] Tryz.func13 rfl Tryz.ntmps13 (Nat.le_of_ble_eq_true rfl) (St.start w none0) rfl ?_
  refine CW.seq ?_
  refine CW.region ?_
  refine RW.o _ (.inl rfl) rfl (Ow.box (cs := [_, _, _]) rfl rfl) ?_
  rintro _ _ ⟨b3, rfl, rfl⟩
  refine RW.o _ (.inl rfl) rfl (Ow.alloc (cs := [_, _, _]) Tryz.zeroValue35 rfl) ?_
  rintro _ _ ⟨b6, rfl, rfl⟩
  refine RW.y (.inl rfl) rfl (Yv.assign rfl) ?_
  refine RW.nil ?_
  refine PW.go ?_
  refine CW.seq ?_
  refine CW.seq ?_
  refine CW.region ?_
  refine RW.y (.inl rfl) rfl (Yv.fieldAddr Tryz.underlying35 rfl Tryz.sizeOf32 rfl rfl) ?_
  refine RW.y (.inl rfl) rfl (Yv.loadK (vs := [_, _]) Tryz.isAgg32 Tryz.sizeOf32 rfl (CFs.part (pre := []) (vs := [_, _]) (post := [_]) 1 rfl rfl rfl)) ?_
  refine RW.y (.inl rfl) rfl (Yv.move rfl) ?_
  refine RW.o _ (.inl rfl) rfl (Ow.call e52 rfl (C.val (fun w hs => ref19Tail n A c l i hi _ (hr.below hs.mod.below)))) ?_
  rintro _ _ ⟨rfl, rfl⟩
  refine RW.y (.inl rfl) rfl (Yv.lt rfl rfl) ?_
  refine RW.y (.inl rfl) rfl (Yv.move rfl) ?_
  refine RW.splitD 14 rfl (fun hc14 => ?_) (fun hc14 => ?_)
  ·
    refine RW.no ⟨_, _, 14, _, rfl, rfl, rfl, fun h => by simp [undef] at h⟩ rfl ?_
    refine RW.no ⟨_, _, 14, _, rfl, rfl, rfl, fun h => by simp [undef] at h⟩ rfl ?_
    refine RW.y (.inl rfl) rfl (Yv.pickT rfl rfl) ?_
    refine RW.y (.inl rfl) rfl (Yv.move rfl) ?_
    refine RW.no ⟨_, _, 18, _, rfl, rfl, rfl, fun h => by simp [undef] at h⟩ rfl ?_
    refine RW.no ⟨_, _, 18, _, rfl, rfl, rfl, fun h => by simp [undef] at h⟩ rfl ?_
    refine RW.no ⟨_, _, 18, _, rfl, rfl, rfl, fun h => by simp [undef] at h⟩ rfl ?_
    refine RW.no ⟨_, _, 18, _, rfl, rfl, rfl, fun h => by simp [undef] at h⟩ rfl ?_
    refine RW.no ⟨_, _, 18, _, rfl, rfl, rfl, fun h => by simp [undef] at h⟩ rfl ?_
    refine RW.y (.inl rfl) rfl (Yv.pickT rfl rfl) ?_
    refine RW.nil ?_
    refine PW.go ?_
    refine CW.condT rfl ?_
    refine CW.seq ?_
    refine CW.region ?_
    refine RW.y (.inl rfl) rfl (Yv.loadK (vs := [_, _, _]) Tryz.isAgg35 Tryz.sizeOf35 rfl (CFs.whole 1 rfl)) ?_
    refine RW.o _ (.inl rfl) rfl (Ow.storeW (vs := [_, _, _]) 0 Tryz.sizeOf35 rfl rfl (rfl) rfl (rfl)) ?_
    rintro _ _ ⟨rfl, rfl⟩
    refine RW.y (.inl rfl) rfl (Yv.assign rfl) ?_
    refine RW.nil ?_
    refine PW.go ?_
    refine CW.ret ?_
    refine PW.then_ret ?_
    refine PW.retCT (vs := [_, _, _]) Tryz.results13 rfl rfl Tryz.isAgg35 Tryz.sizeOf35 (CFs.whole 0 rfl) (fun w1 hs => ?_)
    have hno : ¬ okPush l f i x := by
      rintro ⟨h0, h1, h2, h3⟩
      have := head_rng hok (i := i) h0 h1
      omega
    refine ⟨(B, d), fun _ => rfl, by rw [decide_eq_false hno]; unfold pushR; rw [if_neg hno], hs.mod.below, none0, fun w' hw' hy => absurd hy hno, fun k hk => hk.elim⟩
  ·
    refine RW.y (.inr ⟨_, _, 14, rfl, rfl, rfl⟩) rfl (Yv.move rfl) ?_
    refine RW.y (.inr ⟨_, _, 14, rfl, rfl, rfl⟩) rfl (Yv.lt rfl rfl) ?_
    refine RW.y (.inl rfl) rfl (Yv.pickF rfl rfl) ?_
    refine RW.y (.inl rfl) rfl (Yv.move rfl) ?_
    refine RW.splitD 18 rfl (fun hc18 => ?_) (fun hc18 => ?_)
    ·
      refine RW.no ⟨_, _, 18, _, rfl, rfl, rfl, fun h => by simp [undef] at h⟩ rfl ?_
      refine RW.no ⟨_, _, 18, _, rfl, rfl, rfl, fun h => by simp [undef] at h⟩ rfl ?_
      refine RW.no ⟨_, _, 18, _, rfl, rfl, rfl, fun h => by simp [undef] at h⟩ rfl ?_
      refine RW.no ⟨_, _, 18, _, rfl, rfl, rfl, fun h => by simp [undef] at h⟩ rfl ?_
      refine RW.no ⟨_, _, 18, _, rfl, rfl, rfl, fun h => by simp [undef] at h⟩ rfl ?_
      refine RW.y (.inl rfl) rfl (Yv.pickT rfl rfl) ?_
      refine RW.nil ?_
      refine PW.go ?_
      refine CW.condT rfl ?_
      refine CW.seq ?_
      refine CW.region ?_
      refine RW.y (.inl rfl) rfl (Yv.loadK (vs := [_, _, _]) Tryz.isAgg35 Tryz.sizeOf35 rfl (CFs.whole 1 rfl)) ?_
      refine RW.o _ (.inl rfl) rfl (Ow.storeW (vs := [_, _, _]) 0 Tryz.sizeOf35 rfl rfl (rfl) rfl (rfl)) ?_
      rintro _ _ ⟨rfl, rfl⟩
      refine RW.y (.inl rfl) rfl (Yv.assign rfl) ?_
      refine RW.nil ?_
      refine PW.go ?_
      refine CW.ret ?_
      refine PW.then_ret ?_
      refine PW.retCT (vs := [_, _, _]) Tryz.results13 rfl rfl Tryz.isAgg35 Tryz.sizeOf35 (CFs.whole 0 rfl) (fun w1 hs => ?_)
      have hno : ¬ okPush l f i x := by
        rintro ⟨h0, h1, h2, h3⟩
        have := head_rng hok (i := i) h0 h1
        omega
      refine ⟨(B, d), fun _ => rfl, by rw [decide_eq_false hno]; unfold pushR; rw [if_neg hno], hs.mod.below, none0, fun w' hw' hy => absurd hy hno, fun k hk => hk.elim⟩
    ·
      refine RW.y (.inr ⟨_, _, 18, rfl, rfl, rfl⟩) rfl (Yv.move rfl) ?_
      refine RW.y (.inr ⟨_, _, 18, rfl, rfl, rfl⟩) rfl (Yv.loadK (vs := [_, _, _]) Tryz.isAgg35 Tryz.sizeOf35 rfl (CFs.whole 1 rfl)) ?_
      refine RW.y (.inr ⟨_, _, 18, rfl, rfl, rfl⟩) rfl (Yv.move rfl) ?_
      refine RW.o _ (.inr ⟨_, _, 18, rfl, rfl, rfl⟩) rfl (Ow.call e46 rfl (C.val (fun w hs => ref23Left n A c l B d f _ (hr.below hs.mod.below) (hrF.below hs.mod.below) hok hF i hi))) ?_
      rintro _ _ ⟨rfl, rfl⟩
      refine RW.y (.inr ⟨_, _, 18, rfl, rfl, rfl⟩) rfl (Yv.gt rfl rfl) ?_
      refine RW.y (.inl rfl) rfl (Yv.pickF rfl rfl) ?_
      refine RW.nil ?_
      refine PW.go ?_
      refine CW.condD rfl (fun hc24 => ?_) (fun hc24 => ?_)
      ·
        refine CW.seq ?_
        refine CW.region ?_
        refine RW.y (.inl rfl) rfl (Yv.loadK (vs := [_, _, _]) Tryz.isAgg35 Tryz.sizeOf35 rfl (CFs.whole 1 rfl)) ?_
        refine RW.o _ (.inl rfl) rfl (Ow.storeW (vs := [_, _, _]) 0 Tryz.sizeOf35 rfl rfl (rfl) rfl (rfl)) ?_
        rintro _ _ ⟨rfl, rfl⟩
        refine RW.y (.inl rfl) rfl (Yv.assign rfl) ?_
        refine RW.nil ?_
        refine PW.go ?_
        refine CW.ret ?_
        refine PW.then_ret ?_
        refine PW.retCT (vs := [_, _, _]) Tryz.results13 rfl rfl Tryz.isAgg35 Tryz.sizeOf35 (CFs.whole 0 rfl) (fun w1 hs => ?_)
        have hno : ¬ okPush l f i x := by
          rintro ⟨h0, h1, h2, h3⟩
          have := head_rng hok (i := i) h0 h1
          omega
        refine ⟨(B, d), fun _ => rfl, by rw [decide_eq_false hno]; unfold pushR; rw [if_neg hno], hs.mod.below, none0, fun w' hw' hy => absurd hy hno, fun k hk => hk.elim⟩
      ·
        refine CW.skip ?_
        refine PW.go ?_
        refine CW.seq ?_
        have hin : 0 ≤ i ∧ i < 2 * (l.length : Int) := by
          refine Classical.byContradiction fun h => hc14 ?_
          rw [tailOf_out (by omega)]; omega
        obtain ⟨k, rfl⟩ : ∃ k : Nat, i = k := ⟨i.toNat, by omega⟩
        obtain ⟨e, he, hcap, _, _⟩ := arc_edge (l := l) (i := k) (by omega)
        have hfl := hF.len
        obtain ⟨y, hy⟩ : ∃ y, f[k / 2]? = some y := ⟨_, List.getElem?_eq_getElem (by omega)⟩
        have hwe := hok.wts e (List.mem_of_getElem? he)
        have hbd := hF.bd _ e y he hy
        obtain ⟨bE, oE, rfl, _, hcE⟩ := hr.2.2 (by omega)
        obtain ⟨bF, oF, rfl, _, hcF⟩ := hrF.2.2 (by omega)
        have hle := leftL_get (l := l) (f := f) (i := k) (by omega)
        rw [hcap, getD_of hy] at hle
        have hyes : okPush l f (k : Nat) x := ⟨by omega, by omega, by omega, by omega⟩
        have hpf : pushR l f (k : Nat) x = pushF f k x := by unfold pushR; rw [if_pos hyes]; rfl
        obtain ⟨_, he2, hl0, hl1⟩ := left_bd hF (by omega) hle
        rw [he] at he2
        cases he2
        have hx3 := hyes.2.2.2
        rw [atI_nat, getD_of hle] at hx3
        refine CW.region ?_
        refine RW.o _ (.inl rfl) rfl (Ow.lit (len := 0) (vs := []) (cs := []) Tryz.underlying33 info2 rfl rfl rfl rfl rfl rfl rfl) ?_
        rintro _ _ ⟨b26, rfl, rfl⟩
        refine RW.mem _ (fun w h => h.rowOf (s := 1) (m := 0) 0 rfl (by simp) (by omega)) ?_
        refine RW.y (.inl rfl) rfl (Yv.fieldAddr Tryz.underlying35 rfl Tryz.sizeOf33 rfl rfl) ?_
        refine RW.y (.inl rfl) rfl (Yv.load1 Tryz.isAgg33 rfl (CF.blk 2 rfl rfl)) ?_
        refine RW.o _ (.inl rfl) rfl (Ow.appendRd 0 Tryz.underlying33 info2 rfl rfl rfl rfl rfl (by simp) (fun w1 hs => hrF.below hs.mod.below) (i64s_one _) (by omega) (by omega)) ?_
        rintro v29 _ rfl
        refine RW.y (.inl rfl) rfl (Yv.assign rfl) ?_
        refine RW.nil ?_
        refine PW.go ?_
        refine CW.seq ?_
        refine CW.seq ?_
        refine CW.mem _ (fun w h => h.row_eq (m' := f.length) (xs' := i64s f) 0 rfl (by omega) (by simp)) ?_
        refine CW.facts _ (fun w h => h.row_slice 0 rfl) ?_
        rintro ⟨Af, cf, rfl⟩
        refine CW.facts _ (fun w h => h.row_some 0 rfl (by omega)) ?_
        rintro ⟨bf, rfl⟩
        refine CW.region ?_
        refine RW.y (.inl rfl) rfl (Yv.move rfl) ?_
        refine RW.y (.inl rfl) rfl (Yv.rem rfl rfl (by omega) (by omega)) ?_
        refine RW.y (.inl rfl) rfl (Yv.eq rfl rfl) ?_
        refine RW.nil ?_
        refine PW.go ?_
        refine CW.condD rfl (fun hc32 => ?_) (fun hc32 => ?_)
        ·
          refine CW.region ?_
          refine RW.y (.inl rfl) rfl (Yv.move rfl) ?_
          refine RW.y (.inl rfl) rfl (Yv.move rfl) ?_
          refine RW.y (.inl rfl) rfl (Yv.quo rfl rfl (by omega) (by omega)) ?_
          refine RW.y (.inl rfl) rfl (Yv.move rfl) ?_
          refine RW.y (.inl rfl) rfl (Yv.move rfl) ?_
          refine RW.y (.inl rfl) rfl (Yv.quo rfl rfl (by omega) (by omega)) ?_
          refine RW.y (.inl rfl) rfl (Yv.index0 Tryz.underlying33 Tryz.sizeOf2 rfl rfl (by omega) (by omega)) ?_
          refine RW.y (.inl rfl) rfl (Yv.load1 Tryz.isAgg2 rfl (CF.row 0 rfl (i64s_at (by omega) hy))) ?_
          refine RW.y (.inl rfl) rfl (Yv.move rfl) ?_
          refine RW.y (.inl rfl) rfl (Yv.add rfl rfl (by omega)) ?_
          refine RW.y (.inl rfl) rfl (Yv.index0 Tryz.underlying33 Tryz.sizeOf2 rfl rfl (by omega) (by omega)) ?_
          refine RW.o _ (.inl rfl) rfl (Ow.storeRow 0 Tryz.sizeOf2 rfl rfl (rfl) rfl (by rw [i64s_length]; omega)) ?_
          rintro _ _ ⟨rfl, rfl⟩
          refine RW.nil ?_
          refine PW.go ?_
          refine CW.seq ?_
          refine CW.region ?_
          refine RW.y (.inl rfl) rfl (Yv.fieldAddr Tryz.underlying35 rfl Tryz.sizeOf32 rfl rfl) ?_
          refine RW.y (.inl rfl) rfl (Yv.loadK (vs := [_, _]) Tryz.isAgg32 Tryz.sizeOf32 rfl (CFs.part (pre := []) (vs := [_, _]) (post := [_]) 2 rfl rfl rfl)) ?_
          refine RW.y (.inl rfl) rfl (Yv.move rfl) ?_
          refine RW.y (.inl rfl) rfl (Yv.build rfl (fun w => by exact bld35_0_1 _ _ _ _ _ _ _ w)) ?_
          refine RW.o _ (.inl rfl) rfl (Ow.storeW (vs := [_, _, _]) 1 Tryz.sizeOf35 rfl rfl (rfl) rfl (rfl)) ?_
          rintro _ _ ⟨rfl, rfl⟩
          refine RW.y (.inl rfl) rfl (Yv.assign rfl) ?_
          refine RW.nil ?_
          refine PW.go ?_
          refine CW.ret ?_
          refine PW.mem _ (fun w h => h.row_eq (m' := (pushR l f (k : Nat) x).length) (xs' := i64s (pushR l f (k : Nat) x)) 0 rfl (by rw [hpf]; simp [pushF]) (by rw [hpf]; unfold pushF; rw [getD_of hy, if_pos (by omega), show ((k : Int) / 2).toNat = k / 2 by omega, i64s_set])) ?_
          refine PW.retCT (vs := [_, _, _]) Tryz.results13 rfl rfl Tryz.isAgg35 Tryz.sizeOf35 (CFs.whole 1 rfl) (fun w1 hs => ?_)
          obtain ⟨F, hF1, hF2⟩ := hs.outNow (fun w' => okPush l f (k : Nat) x → Rd w' (some ⟨bf, 0, none⟩) 1 (pushR l f (k : Nat) x).length (i64s (pushR l f (k : Nat) x))) (fun w' hh _ => by
              obtain ⟨F, h⟩ := hh 0 _ rfl
              exact rd_of_row h (by rw [hpf]; simp [pushF]) (by omega))
          exact ⟨(some ⟨bf, 0, none⟩, cf), fun h => absurd hyes h, by rw [decide_eq_true hyes, hpf]; simp [pushF], hs.mod.below, F, hF1, hF2⟩
        ·
          refine CW.region ?_
          refine RW.y (.inl rfl) rfl (Yv.move rfl) ?_
          refine RW.y (.inl rfl) rfl (Yv.move rfl) ?_
          refine RW.y (.inl rfl) rfl (Yv.quo rfl rfl (by omega) (by omega)) ?_
          refine RW.y (.inl rfl) rfl (Yv.move rfl) ?_
          refine RW.y (.inl rfl) rfl (Yv.move rfl) ?_
          refine RW.y (.inl rfl) rfl (Yv.quo rfl rfl (by omega) (by omega)) ?_
          refine RW.y (.inl rfl) rfl (Yv.index0 Tryz.underlying33 Tryz.sizeOf2 rfl rfl (by omega) (by omega)) ?_
          refine RW.y (.inl rfl) rfl (Yv.load1 Tryz.isAgg2 rfl (CF.row 0 rfl (i64s_at (by omega) hy))) ?_
          refine RW.y (.inl rfl) rfl (Yv.move rfl) ?_
          refine RW.y (.inl rfl) rfl (Yv.sub rfl rfl (by omega)) ?_
          refine RW.y (.inl rfl) rfl (Yv.index0 Tryz.underlying33 Tryz.sizeOf2 rfl rfl (by omega) (by omega)) ?_
          refine RW.o _ (.inl rfl) rfl (Ow.storeRow 0 Tryz.sizeOf2 rfl rfl (rfl) rfl (by rw [i64s_length]; omega)) ?_
          rintro _ _ ⟨rfl, rfl⟩
          refine RW.nil ?_
          refine PW.go ?_
          refine CW.seq ?_
          refine CW.region ?_
          refine RW.y (.inl rfl) rfl (Yv.fieldAddr Tryz.underlying35 rfl Tryz.sizeOf32 rfl rfl) ?_
          refine RW.y (.inl rfl) rfl (Yv.loadK (vs := [_, _]) Tryz.isAgg32 Tryz.sizeOf32 rfl (CFs.part (pre := []) (vs := [_, _]) (post := [_]) 2 rfl rfl rfl)) ?_
          refine RW.y (.inl rfl) rfl (Yv.move rfl) ?_
          refine RW.y (.inl rfl) rfl (Yv.build rfl (fun w => by exact bld35_0_1 _ _ _ _ _ _ _ w)) ?_
          refine RW.o _ (.inl rfl) rfl (Ow.storeW (vs := [_, _, _]) 1 Tryz.sizeOf35 rfl rfl (rfl) rfl (rfl)) ?_
          rintro _ _ ⟨rfl, rfl⟩
          refine RW.y (.inl rfl) rfl (Yv.assign rfl) ?_
          refine RW.nil ?_
          refine PW.go ?_
          refine CW.ret ?_
          refine PW.mem _ (fun w h => h.row_eq (m' := (pushR l f (k : Nat) x).length) (xs' := i64s (pushR l f (k : Nat) x)) 0 rfl (by rw [hpf]; simp [pushF]) (by rw [hpf]; unfold pushF; rw [getD_of hy, if_neg (by omega), show ((k : Int) / 2).toNat = k / 2 by omega, i64s_set]; congr 2)) ?_
          refine PW.retCT (vs := [_, _, _]) Tryz.results13 rfl rfl Tryz.isAgg35 Tryz.sizeOf35 (CFs.whole 1 rfl) (fun w1 hs => ?_)
          obtain ⟨F, hF1, hF2⟩ := hs.outNow (fun w' => okPush l f (k : Nat) x → Rd w' (some ⟨bf, 0, none⟩) 1 (pushR l f (k : Nat) x).length (i64s (pushR l f (k : Nat) x))) (fun w' hh _ => by
              obtain ⟨F, h⟩ := hh 0 _ rfl
              exact rd_of_row h (by rw [hpf]; simp [pushF]) (by omega))
          exact ⟨(some ⟨bf, 0, none⟩, cf), fun h => absurd hyes h, by rw [decide_eq_true hyes, hpf]; simp [pushF], hs.mod.below, F, hF1, hF2⟩

theorem room_of {n : Nat} (h : n ≤ 4096) : max 0 (min (n : Int) 4096) = n := by rw [Int.min_def, Int.max_def]; split <;> split <;> omega
theorem bools_one (l : List Bool) : ∀ u ∈ bools l, u.oneCell' = true := by
  intro u hu
  simp only [bools, List.mem_map] at hu
  obtain ⟨x, _, rfl⟩ := hu
  rfl
def mems (cs : List Bool) (k : Nat) : List Int := ((List.range k).filter (fun (u : Nat) => cs.getD u false)).map (fun (u : Nat) => (u : Int))
theorem mems_succ (cs : List Bool) (k : Nat) : mems cs (k + 1) = mems cs k ++ if cs.getD k false = true then [(k : Int)] else [] := by
  unfold mems
  rw [List.range_succ, List.filter_append, List.map_append]
  congr 1
  by_cases h : cs.getD k false = true
  · rw [if_pos h, List.filter_cons, if_pos h]; rfl
  · rw [if_neg h, List.filter_cons, if_neg h]; rfl
theorem mems_length (cs : List Bool) (k : Nat) : (mems cs k).length ≤ k := by
  unfold mems; rw [List.length_map]; exact Nat.le_trans (List.length_filter_le _ _) (by simp)

set_option maxRecDepth 100000 in
theorem ref09Room (n : Nat) (hn : n ≤ 4096) (w : World) : Calls Tryz.prog 126 #[.int .i64 n] w fun e w1 => e = .returned (.int .i64 n) ∧ Gr w w1 := by
  refine CW.enter (P := Tryz.prog) (F0 := none0) (L := [(0, _)]) 6 [] Tryz.func126 rfl Tryz.ntmps126 (Nat.le_of_ble_eq_true rfl) (St.start w none0) rfl ?_
  refine CW.seq ?_
  refine CW.region ?_
  refine RW.y (.inl rfl) rfl (Yv.assign rfl) ?_
  refine RW.nil ?_
  refine PW.go ?_
  refine CW.seq ?_
  refine CW.region ?_
  refine RW.y (.inl rfl) rfl (Yv.move rfl) ?_
  refine RW.y (.inl rfl) rfl (Yv.min rfl rfl) ?_
  refine RW.y (.inl rfl) rfl (Yv.max rfl rfl) ?_
  refine RW.y (.inl rfl) rfl (Yv.assign rfl) ?_
  refine RW.nil ?_
  refine PW.go ?_
  refine CW.ret ?_
  refine PW.ret1 Tryz.results126 rfl (fun w1 hs => ?_)
  exact ⟨by rw [room_of hn], hs.mod.below⟩

set_option maxRecDepth 100000 in
theorem ref09New (n : Nat) (hn : n ≤ 4096) (w : World) : Calls Tryz.prog 96 #[.int .i64 n] w fun e w1 => ∃ b : Nat, True ∧ e = .returned (.agg #[.int .i64 n, .slice (some ⟨b, 0, none⟩) n n]) ∧ Gr w w1 ∧ ∃ F, (row (.slice (some ⟨b, 0, none⟩) n n) 4 1 n (bools (List.replicate n false))).holds w1 F ∧ ∀ k, F k → w.heap.size ≤ k ∧ k < w1.heap.size := by
  refine CW.enter (P := Tryz.prog) (F0 := none0) (L := [(0, _)]) 9 [] Tryz.func96 rfl Tryz.ntmps96 (Nat.le_of_ble_eq_true rfl) (St.start w none0) rfl ?_
  refine CW.seq ?_
  refine CW.region ?_
  refine RW.o _ (.inl rfl) rfl (Ow.alloc (cs := [_, _]) Tryz.zeroValue149 rfl) ?_
  rintro _ _ ⟨b2, rfl, rfl⟩
  refine RW.nil ?_
  refine PW.go ?_
  refine CW.seq ?_
  refine CW.region ?_
  refine RW.y (.inl rfl) rfl (Yv.move rfl) ?_
  refine RW.o _ (.inl rfl) rfl (Ow.call e126 rfl (C.val (fun w hs => ref09Room n hn _))) ?_
  rintro _ _ ⟨rfl, rfl⟩
  refine RW.y (.inl rfl) rfl (Yv.move rfl) ?_
  refine RW.o _ (.inl rfl) rfl (Ow.call e126 rfl (C.val (fun w hs => ref09Room n hn _))) ?_
  rintro _ _ ⟨rfl, rfl⟩
  refine RW.o _ (.inl rfl) rfl (Ow.make (m := n) Tryz.underlying147 info4 rfl rfl rfl (by omega) (by omega) (by omega) (by omega)) ?_
  rintro _ _ ⟨b7, rfl, rfl⟩
  refine RW.y (.inl rfl) rfl (Yv.build rfl (fun w => by exact bld149_0_1 _ _ _ _ w)) ?_
  refine RW.o _ (.inl rfl) rfl (Ow.storeW (vs := [_, _]) 1 Tryz.sizeOf149 rfl rfl (rfl) rfl (rfl)) ?_
  rintro _ _ ⟨rfl, rfl⟩
  refine RW.nil ?_
  refine PW.go ?_
  refine CW.ret ?_
  refine PW.retC (vs := [_, _]) Tryz.results96 rfl Tryz.isAgg149 Tryz.sizeOf149 (CFs.whole 1 rfl) (fun w1 hs => ?_)
  have hs' := hs.row_eq (m' := n) (xs' := bools (List.replicate n false)) 0 rfl rfl (by simp [bools])
  obtain ⟨F, hF, hk⟩ := hs'.out 0 rfl
  exact ⟨b7, trivial, rfl, hs.mod.below, F, hF, hk⟩

set_option maxRecDepth 100000 in
theorem ref09List (n : Nat) (hn : n ≤ 4096) (b d : Nat) (cs : List Bool) (hcs : cs.length = n) (w : World) (hr : Rd w (some ⟨b, 0, none⟩) 1 n (bools cs)) : Calls Tryz.prog 98 #[.agg #[.int .i64 n, .slice (some ⟨b, 0, none⟩) n d]] w fun e w1 => ∃ u_, e = .returned u_ ∧ Gr w w1 ∧ ∃ F, (row u_ 3 1 ((mems cs n).length) (i64s (mems cs n))).holds w1 F ∧ ∀ k, F k → w.heap.size ≤ k ∧ k < w1.heap.size := by
  refine CW.enter (P := Tryz.prog) (F0 := none0) (L := [(0, _)]) 21 [] Tryz.func98 rfl Tryz.ntmps98 (Nat.le_of_ble_eq_true rfl) (St.start w none0) rfl ?_
  refine CW.seq ?_
  refine CW.region ?_
  refine RW.o _ (.inl rfl) rfl (Ow.box (cs := [_, _]) rfl rfl) ?_
  rintro _ _ ⟨b1, rfl, rfl⟩
  refine RW.y (.inl rfl) rfl (Yv.assign rfl) ?_
  refine RW.nil ?_
  refine PW.go ?_
  refine CW.seq ?_
  refine CW.region ?_
  refine RW.mem _ (fun w h => h.emptyRow 3 1) ?_
  refine RW.y (.inl rfl) rfl (Yv.assign rfl) ?_
  refine RW.nil ?_
  refine PW.go ?_
  refine CW.seq ?_
  refine CW.seq ?_
  refine CW.region ?_
  refine RW.y (.inl rfl) rfl (Yv.assign rfl) ?_
  refine RW.nil ?_
  refine PW.go ?_
  refine CW.block ?_
  refine CW.loop (σ := Nat × Value) (fun s => s.1 ≤ n) (fun s => [(1, .pointer (some ⟨b1, 0, none⟩)), (3, s.2), (4, .int .i64 (s.1 : Nat))]) (fun s => [row s.2 3 1 (mems cs s.1).length (i64s (mems cs s.1)), blk b1 [.int .i64 n, .slice (some ⟨b, 0, none⟩) n d] 149]) (fun s => n - s.1) (0, .slice none 0 0) (by simp) ⟨rfl, rfl, rfl, trivial⟩ (fun w h => h) ?_
  rintro ⟨k, vo⟩ hk
  (try dsimp only at *)
  refine CW.seq ?_
  refine CW.seq ?_
  refine CW.region ?_
  refine RW.y (.inl rfl) rfl (Yv.move rfl) ?_
  refine RW.y (.inl rfl) rfl (Yv.fieldAddr Tryz.underlying149 rfl Tryz.sizeOf3 rfl rfl) ?_
  refine RW.y (.inl rfl) rfl (Yv.load1 Tryz.isAgg3 rfl (CF.blk 1 rfl rfl)) ?_
  refine RW.y (.inl rfl) rfl (Yv.lt rfl rfl) ?_
  refine RW.nil ?_
  refine PW.go ?_
  refine CW.condD rfl (fun hc8 => ?_) (fun hc8 => ?_)
  ·
    refine CW.skip ?_
    refine PW.go ?_
    refine CW.seq ?_
    refine CW.block ?_
    refine CW.seq ?_
    obtain ⟨bb, hb, hb2⟩ := getB (cs := cs) (t := k) (by omega)
    have hml := mems_length cs k
    refine CW.region ?_
    refine RW.y (.inl rfl) rfl (Yv.fieldAddr Tryz.underlying149 rfl Tryz.sizeOf147 rfl rfl) ?_
    refine RW.y (.inl rfl) rfl (Yv.load1 Tryz.isAgg147 rfl (CF.blk 1 rfl rfl)) ?_
    refine RW.y (.inl rfl) rfl (Yv.move rfl) ?_
    refine RW.y (.inl rfl) rfl (Yv.index0 Tryz.underlying147 Tryz.sizeOf4 rfl rfl (by omega) (by omega)) ?_
    refine RW.y (.inl rfl) rfl (Yv.load1 Tryz.isAgg4 rfl (CF.old (rd_at0 hr _ _ (bools_at rfl hb)) (not_none0 _))) ?_
    refine RW.nil ?_
    refine PW.go ?_
    refine CW.cond rfl (fun hc15 => ?_) (fun hc15 => ?_)
    ·
      refine CW.region ?_
      refine RW.y (.inl rfl) rfl (Yv.move rfl) ?_
      refine RW.y (.inl rfl) rfl (Yv.move rfl) ?_
      refine RW.o _ (.inl rfl) rfl (Ow.lit (len := 1) (vs := [_]) (cs := [_]) Tryz.underlying51 info3 rfl rfl rfl rfl rfl rfl rfl) ?_
      rintro _ _ ⟨b18, rfl, rfl⟩
      refine RW.o _ (.inl rfl) rfl (Ow.append 1 0 Tryz.underlying51 info3 rfl rfl rfl rfl rfl rfl rfl rfl (by omega) (by omega)) ?_
      rintro v19 _ rfl
      refine RW.y (.inl rfl) rfl (Yv.assign rfl) ?_
      refine RW.nil ?_
      refine PW.block ?_
      refine PW.go ?_
      refine CW.region ?_
      refine RW.y (.inl rfl) rfl (Yv.move rfl) ?_
      refine RW.y (.inl rfl) rfl (Yv.add rfl rfl (by omega)) ?_
      refine RW.y (.inl rfl) rfl (Yv.assign rfl) ?_
      refine RW.nil ?_
      have hst := mems_succ cs k
      rw [hb2, if_pos (by first | exact hc15 | (rw [hc15]; simp))] at hst
      refine PW.mem _ (fun w h => h.row_eq (m' := (mems cs (k + 1)).length) (xs' := i64s (mems cs (k + 1))) 1 rfl (by rw [hst]; simp) (by rw [hst]; simp [i64s])) ?_
      exact PW.next (k + 1, v19) (by show k + 1 ≤ n; omega) ⟨rfl, rfl, rfl, trivial⟩ (fun w h => (h).erase 0) (by show n - (k + 1) < n - k; omega)
    ·
      refine CW.skip ?_
      refine PW.block ?_
      refine PW.go ?_
      refine CW.region ?_
      refine RW.y (.inl rfl) rfl (Yv.move rfl) ?_
      refine RW.y (.inl rfl) rfl (Yv.add rfl rfl (by omega)) ?_
      refine RW.y (.inl rfl) rfl (Yv.assign rfl) ?_
      refine RW.nil ?_
      have hst := mems_succ cs k
      rw [hb2, if_neg (by first | exact hc15 | (rw [hc15]; simp))] at hst
      refine PW.mem _ (fun w h => h.row_eq (m' := (mems cs (k + 1)).length) (xs' := i64s (mems cs (k + 1))) 0 rfl (by rw [hst]; simp) (by rw [hst]; simp [i64s])) ?_
      exact PW.next (k + 1, vo) (by show k + 1 ≤ n; omega) ⟨rfl, rfl, rfl, trivial⟩ (fun w h => h) (by show n - (k + 1) < n - k; omega)
  ·
    refine CW.exit ?_
    refine PW.then_exit ?_
    refine PW.then_exit ?_
    refine PW.block_exit ?_
    refine PW.go ?_
    refine CW.seq ?_
    refine CW.region ?_
    refine RW.y (.inl rfl) rfl (Yv.move rfl) ?_
    refine RW.y (.inl rfl) rfl (Yv.assign rfl) ?_
    refine RW.nil ?_
    refine PW.go ?_
    refine CW.ret ?_
    refine PW.ret1 Tryz.results98 rfl (fun w1 hs => ?_)
    have hs' := hs.row_eq (m' := (mems cs n).length) (xs' := i64s (mems cs n)) 0 rfl (by rw [show k = n by omega]) (by rw [show k = n by omega])
    obtain ⟨F, hF, hk⟩ := hs'.out 0 rfl
    exact ⟨_, rfl, hs.mod.below, F, hF, hk⟩

set_option maxRecDepth 100000 in
theorem ref23Reach (n : Nat) (A : Option Addr) (c : Nat) (l : List Edg) (B : Option Addr) (d : Nat) (f : List Int) (w : World) (hr : Rd w A 3 l.length (cellsE l)) (hrF : Rd w B 1 f.length (i64s f)) (hok : ArcsOk n l) (hF : FlowOk l f) (v : Int) : Calls Tryz.prog 51 #[.agg #[.int .i64 n, .slice A l.length c, .slice B f.length d], .int .i64 v] w fun e w1 => ∃ u_, e = .returned u_ ∧ Gr w w1 ∧ ∃ F, (row u_ 3 1 ((rchL n l f v).length) (i64s (rchL n l f v))).holds w1 F ∧ ∀ k, F k → w.heap.size ≤ k ∧ k < w1.heap.size := by
  have hml := hok.hl
  have hnn := hok.hn
  have hlen := hr.2.1
  have hfl := hF.len
  refine CW.enter (P := Tryz.prog) (F0 := none0) (L := [(0, _), (1, _)]) 63 [] Tryz.func51 rfl Tryz.ntmps51 (Nat.le_of_ble_eq_true rfl) (St.start w none0) rfl ?_
  refine CW.seq ?_
  refine CW.region ?_
  refine RW.o _ (.inl rfl) rfl (Ow.box (cs := [_, _, _]) rfl rfl) ?_
  rintro _ _ ⟨b2, rfl, rfl⟩
  refine RW.y (.inl rfl) rfl (Yv.assign rfl) ?_
  refine RW.nil ?_
  refine PW.go ?_
  refine CW.seq ?_
  refine CW.region ?_
  refine RW.y (.inl rfl) rfl (Yv.fieldAddr Tryz.underlying35 rfl Tryz.sizeOf32 rfl rfl) ?_
  refine RW.y (.inl rfl) rfl (Yv.fieldAddr Tryz.underlying32 rfl Tryz.sizeOf3 rfl rfl) ?_
  refine RW.y (.inl rfl) rfl (Yv.load1 Tryz.isAgg3 rfl (CF.blk 0 rfl rfl)) ?_
  refine RW.o _ (.inl rfl) rfl (Ow.call e96 rfl (C.new (val := fun (b : Nat) => .agg #[.int .i64 n, .slice (some ⟨b, 0, none⟩) n n]) (φ := fun _ => True) (Ψ := fun bs => row (.slice (some ⟨bs, 0, none⟩) n n) 4 1 n (bools (List.replicate n false))) (fun w2 hs => ref09New n hnn w2))) ?_
  rintro _ _ ⟨bs, -, rfl, rfl⟩
  refine RW.o _ (.inl rfl) rfl (Ow.alloc (cs := [_, _]) Tryz.zeroValue149 rfl) ?_
  rintro _ _ ⟨b5, rfl, rfl⟩
  refine RW.o _ (.inl rfl) rfl (Ow.storeW (vs := [_, _]) 0 Tryz.sizeOf149 rfl rfl (rfl) rfl (rfl)) ?_
  rintro _ _ ⟨rfl, rfl⟩
  refine RW.nil ?_
  refine PW.go ?_
  refine CW.seq ?_
  refine CW.seq ?_
  refine CW.region ?_
  refine RW.y (.inl rfl) rfl (Yv.move rfl) ?_
  refine RW.y (.inl rfl) rfl (Yv.lt rfl rfl) ?_
  refine RW.y (.inl rfl) rfl (Yv.move rfl) ?_
  refine RW.splitD 14 rfl (fun hc14 => ?_) (fun hc14 => ?_)
  ·
    refine RW.no ⟨_, _, 14, _, rfl, rfl, rfl, fun h => by simp [undef] at h⟩ rfl ?_
    refine RW.no ⟨_, _, 14, _, rfl, rfl, rfl, fun h => by simp [undef] at h⟩ rfl ?_
    refine RW.no ⟨_, _, 14, _, rfl, rfl, rfl, fun h => by simp [undef] at h⟩ rfl ?_
    refine RW.no ⟨_, _, 14, _, rfl, rfl, rfl, fun h => by simp [undef] at h⟩ rfl ?_
    refine RW.no ⟨_, _, 14, _, rfl, rfl, rfl, fun h => by simp [undef] at h⟩ rfl ?_
    refine RW.y (.inl rfl) rfl (Yv.pickT rfl rfl) ?_
    refine RW.nil ?_
    refine PW.go ?_
    refine CW.condT rfl ?_
    refine CW.seq ?_
    refine CW.region ?_
    refine RW.y (.inl rfl) rfl (Yv.assign rfl) ?_
    refine RW.nil ?_
    refine PW.go ?_
    refine CW.ret ?_
    refine PW.then_ret ?_
    refine PW.ret1 Tryz.results51 rfl (fun w1 hs => ?_)
    refine ⟨_, rfl, hs.mod.below, none0, ?_, fun k hk => hk.elim⟩
    rw [rch_nil (by omega)]
    exact ⟨World.ownsRow_nil _ _ _ _, fun k => ⟨fun h => h.elim, fun h => by simp [Value.ownBlock] at h⟩⟩
  ·
    refine RW.y (.inr ⟨_, _, 14, rfl, rfl, rfl⟩) rfl (Yv.move rfl) ?_
    refine RW.y (.inr ⟨_, _, 14, rfl, rfl, rfl⟩) rfl (Yv.fieldAddr Tryz.underlying35 rfl Tryz.sizeOf32 rfl rfl) ?_
    refine RW.y (.inr ⟨_, _, 14, rfl, rfl, rfl⟩) rfl (Yv.fieldAddr Tryz.underlying32 rfl Tryz.sizeOf3 rfl rfl) ?_
    refine RW.y (.inr ⟨_, _, 14, rfl, rfl, rfl⟩) rfl (Yv.load1 Tryz.isAgg3 rfl (CF.blk 2 rfl rfl)) ?_
    refine RW.y (.inr ⟨_, _, 14, rfl, rfl, rfl⟩) rfl (Yv.ge rfl rfl) ?_
    refine RW.y (.inl rfl) rfl (Yv.pickF rfl rfl) ?_
    refine RW.nil ?_
    refine PW.go ?_
    refine CW.condD rfl (fun hc20 => ?_) (fun hc20 => ?_)
    ·
      refine CW.seq ?_
      refine CW.region ?_
      refine RW.y (.inl rfl) rfl (Yv.assign rfl) ?_
      refine RW.nil ?_
      refine PW.go ?_
      refine CW.ret ?_
      refine PW.then_ret ?_
      refine PW.ret1 Tryz.results51 rfl (fun w1 hs => ?_)
      refine ⟨_, rfl, hs.mod.below, none0, ?_, fun k hk => hk.elim⟩
      rw [rch_nil (by omega)]
      exact ⟨World.ownsRow_nil _ _ _ _, fun k => ⟨fun h => h.elim, fun h => by simp [Value.ownBlock] at h⟩⟩
    ·
      refine CW.skip ?_
      refine PW.go ?_
      refine CW.seq ?_
      refine CW.mem _ (fun w h => h.front 0 rfl) ?_
      refine CW.mem _ (fun w h => h.front 1 rfl) ?_
      refine CW.region ?_
      refine RW.y (.inl rfl) rfl (Yv.fieldAddr Tryz.underlying149 rfl Tryz.sizeOf147 rfl rfl) ?_
      refine RW.y (.inl rfl) rfl (Yv.load1 Tryz.isAgg147 rfl (CF.blk 1 rfl rfl)) ?_
      refine RW.y (.inl rfl) rfl (Yv.move rfl) ?_
      refine RW.y (.inl rfl) rfl (Yv.index0 Tryz.underlying147 Tryz.sizeOf4 rfl rfl (by omega) (by omega)) ?_
      refine RW.o _ (.inl rfl) rfl (Ow.storeRow 0 Tryz.sizeOf4 rfl rfl (rfl) rfl (by rw [bools_length, List.length_replicate]; omega)) ?_
      rintro _ _ ⟨rfl, rfl⟩
      refine RW.nil ?_
      refine PW.go ?_
      refine CW.seq ?_
      refine CW.seq ?_
      refine CW.mem _ (fun w h => h.row_eq (m' := n) (xs' := bools ((List.replicate n false).set v.toNat true)) 0 rfl (rfl) (bools_set _ _ _)) ?_
      obtain ⟨hst1, hst2⟩ := met_start l f (v := v) (n := n) ⟨by omega, by omega⟩
      refine CW.region ?_
      refine RW.y (.inl rfl) rfl (Yv.assign rfl) ?_
      refine RW.nil ?_
      refine PW.go ?_
      refine CW.block ?_
      refine CW.loop (σ := Nat × List Bool) (fun s => s.1 ≤ n ∧ RndOk n l f v s.2 s.1) (fun s => [(1, .int .i64 v), (2, .pointer (some ⟨b2, 0, none⟩)), (5, .pointer (some ⟨b5, 0, none⟩)), (6, .int .i64 (s.1 : Nat))]) (fun s => [row (.slice (some ⟨bs, 0, none⟩) n n) 4 1 n (bools (s.2)), blk b5 [.int .i64 n, .slice (some ⟨bs, 0, none⟩) n n] 149, blk b2 [.int .i64 n, .slice A l.length c, .slice B f.length d] 35]) (fun s => n - s.1) (0, (List.replicate n false).set v.toNat true) (⟨by simp, hst1, .inr (Nat.le_of_eq hst2.symm)⟩) ⟨rfl, rfl, rfl, rfl, trivial⟩ (fun w h => h) ?_
      rintro ⟨q, cs0⟩ ⟨hq, hR⟩
      (try dsimp only at *)
      refine CW.seq ?_
      refine CW.seq ?_
      refine CW.region ?_
      refine RW.y (.inl rfl) rfl (Yv.move rfl) ?_
      refine RW.y (.inl rfl) rfl (Yv.fieldAddr Tryz.underlying35 rfl Tryz.sizeOf32 rfl rfl) ?_
      refine RW.y (.inl rfl) rfl (Yv.fieldAddr Tryz.underlying32 rfl Tryz.sizeOf3 rfl rfl) ?_
      refine RW.y (.inl rfl) rfl (Yv.load1 Tryz.isAgg3 rfl (CF.blk 2 rfl rfl)) ?_
      refine RW.y (.inl rfl) rfl (Yv.lt rfl rfl) ?_
      refine RW.nil ?_
      refine PW.go ?_
      refine CW.condD rfl (fun hc29 => ?_) (fun hc29 => ?_)
      ·
        refine CW.skip ?_
        refine PW.go ?_
        refine CW.seq ?_
        refine CW.block ?_
        refine CW.seq ?_
        refine CW.region ?_
        refine RW.y (.inl rfl) rfl (Yv.assign rfl) ?_
        refine RW.nil ?_
        refine PW.go ?_
        refine CW.block ?_
        refine CW.loop (σ := Nat × List Bool) (fun s => s.1 ≤ 2 * l.length ∧ Rnd n l f v cs0 s.2 s.1) (fun s => [(1, .int .i64 v), (2, .pointer (some ⟨b2, 0, none⟩)), (5, .pointer (some ⟨b5, 0, none⟩)), (6, .int .i64 (q : Nat)), (7, .int .i64 (s.1 : Nat))]) (fun s => [row (.slice (some ⟨bs, 0, none⟩) n n) 4 1 n (bools (s.2)), blk b5 [.int .i64 n, .slice (some ⟨bs, 0, none⟩) n n] 149, blk b2 [.int .i64 n, .slice A l.length c, .slice B f.length d] 35]) (fun s => 2 * l.length - s.1) (0, cs0) (⟨by simp, Rnd.start hR.1⟩) ⟨rfl, rfl, rfl, rfl, rfl, trivial⟩ (fun w h => h) ?_
        rintro ⟨i, cs⟩ ⟨hi, hRn⟩
        (try dsimp only at *)
        refine CW.seq ?_
        refine CW.seq ?_
        refine CW.region ?_
        refine RW.y (.inl rfl) rfl (Yv.move rfl) ?_
        refine RW.y (.inl rfl) rfl (Yv.fieldAddr Tryz.underlying35 rfl Tryz.sizeOf33 rfl rfl) ?_
        refine RW.y (.inl rfl) rfl (Yv.load1 Tryz.isAgg33 rfl (CF.blk 2 rfl rfl)) ?_
        refine RW.y (.inl rfl) rfl (Yv.len Tryz.underlying33 rfl) ?_
        refine RW.y (.inl rfl) rfl (Yv.mul rfl rfl (by omega)) ?_
        refine RW.y (.inl rfl) rfl (Yv.lt rfl rfl) ?_
        refine RW.nil ?_
        refine PW.go ?_
        refine CW.condD rfl (fun hc37 => ?_) (fun hc37 => ?_)
        ·
          refine CW.skip ?_
          refine PW.go ?_
          refine CW.seq ?_
          refine CW.block ?_
          refine CW.seq ?_
          have hil : i < 2 * l.length := by omega
          have hhr := head_rng hok (i := (i : Int)) (by omega) (by omega)
          have hcl := hRn.met.len
          obtain ⟨bb, hb, hb2⟩ := getB (cs := cs) (t := (tailOf l (i : Int)).toNat) (by omega)
          refine CW.draw0 mixed ?_
          refine HW.take 0 rfl (by kernel_rfl) (by kernel_rfl) (by kernel_rfl) (fun _ _ _ h => h) (.inl rfl) rfl (fun _ h => h) (Yv.fieldAddr Tryz.underlying149 rfl Tryz.sizeOf147 rfl rfl) ?_
          refine HW.take 1 rfl (by kernel_rfl) (by kernel_rfl) (by kernel_rfl) (fun _ _ _ h => h) (.inl rfl) rfl (fun _ h => h) (Yv.load1 Tryz.isAgg147 rfl (CF.blk 1 rfl rfl)) ?_
          refine HW.take 2 rfl (by kernel_rfl) (by kernel_rfl) (by kernel_rfl) (fun _ _ _ h => h) (.inl rfl) rfl (fun _ h => h) (Yv.fieldAddr Tryz.underlying35 rfl Tryz.sizeOf32 rfl rfl) ?_
          refine HW.take 3 rfl (by kernel_rfl) (by kernel_rfl) (by kernel_rfl) (fun _ _ _ h => h) (.inl rfl) rfl (fun _ h => h) (Yv.loadK (vs := [_, _]) Tryz.isAgg32 Tryz.sizeOf32 rfl (CFs.part (pre := []) (vs := [_, _]) (post := [_]) 2 rfl rfl rfl)) ?_
          refine HW.take 4 rfl (by kernel_rfl) (by kernel_rfl) (by kernel_rfl) (fun _ _ _ h => h) (.inl rfl) rfl (fun _ h => h) (Yv.move rfl) ?_
          refine HW.run 5 rfl (by kernel_rfl) _ (.inl rfl) rfl (Ow.call e52 rfl (C.val (fun w hs => ref19Tail n A c l (i : Nat) (by omega) _ (hr.below hs.mod.below)))) (by rintro _ _ ⟨rfl, rfl⟩ w h; exact h) ?_
          rintro _ _ ⟨rfl, rfl⟩
          refine HW.take 6 rfl (by kernel_rfl) (by kernel_rfl) (by kernel_rfl) (fun _ _ _ h => h) (.inl rfl) rfl (fun _ h => h) (Yv.index0 Tryz.underlying147 Tryz.sizeOf4 rfl rfl (by omega) (by omega)) ?_
          refine HW.take 7 rfl (by kernel_rfl) (by kernel_rfl) (by kernel_rfl) (fun _ _ _ h => h) (.inl rfl) rfl (fun _ h => h) (Yv.load1 Tryz.isAgg4 rfl (CF.row 0 rfl (bools_at rfl hb))) ?_
          refine HW.take 8 rfl (by kernel_rfl) (by kernel_rfl) (by kernel_rfl) (fun _ _ _ h => h) (.inl rfl) rfl (fun _ h => h) (Yv.move rfl) ?_
          refine HW.splitB 48 rfl (fun hc48 => ?_) (fun hc48 => ?_)
          ·
            refine HW.take 9 rfl (by kernel_rfl) (by kernel_rfl) (by kernel_rfl) (fun _ _ _ h => h) (.inr ⟨_, _, 48, rfl, rfl, rfl⟩) rfl (fun _ h => h) (Yv.loadK (vs := [_, _, _]) Tryz.isAgg35 Tryz.sizeOf35 rfl (CFs.whole 2 rfl)) ?_
            refine HW.take 10 rfl (by kernel_rfl) (by kernel_rfl) (by kernel_rfl) (fun _ _ _ h => h) (.inr ⟨_, _, 48, rfl, rfl, rfl⟩) rfl (fun _ h => h) (Yv.move rfl) ?_
            refine HW.run 11 rfl (by kernel_rfl) _ (.inr ⟨_, _, 48, rfl, rfl, rfl⟩) rfl (Ow.call e46 rfl (C.val (fun w hs => ref23Left n A c l B d f _ (hr.below hs.mod.below) (hrF.below hs.mod.below) hok hF (i : Nat) (by omega)))) (by rintro _ _ ⟨rfl, rfl⟩ w h; exact h) ?_
            rintro _ _ ⟨rfl, rfl⟩
            refine HW.take 12 rfl (by kernel_rfl) (by kernel_rfl) (by kernel_rfl) (fun _ _ _ h => h) (.inr ⟨_, _, 48, rfl, rfl, rfl⟩) rfl (fun _ h => h) (Yv.gt rfl rfl) ?_
            refine HW.take 13 rfl (by kernel_rfl) (by kernel_rfl) (by kernel_rfl) (fun _ _ _ h => h) (.inl rfl) rfl (fun _ h => h) (Yv.pickT rfl rfl) ?_
            refine HW.done (by kernel_rfl) ?_
            refine PW.go ?_
            refine CW.condD rfl (fun hc53 => ?_) (fun hc53 => ?_)
            ·
              refine CW.drawE mixed (fun _ h => (h).erase 0) ?_
              refine HW.take 0 rfl (by kernel_rfl) (by kernel_rfl) (by kernel_rfl) (fun _ _ _ h => h) (.inl rfl) rfl (fun _ h => (h).erase 0) (Yv.fieldAddr Tryz.underlying149 rfl Tryz.sizeOf147 rfl rfl) ?_
              refine HW.take 1 rfl (by kernel_rfl) (by kernel_rfl) (by kernel_rfl) (fun _ _ _ h => h) (.inl rfl) rfl (fun _ h => (h).erase 0) (Yv.load1 Tryz.isAgg147 rfl (CF.blk 0 rfl rfl)) ?_
              refine HW.take 2 rfl (by kernel_rfl) (by kernel_rfl) (by kernel_rfl) (fun _ _ _ h => h) (.inl rfl) rfl (fun _ h => (h).erase 0) (Yv.fieldAddr Tryz.underlying35 rfl Tryz.sizeOf32 rfl rfl) ?_
              refine HW.take 3 rfl (by kernel_rfl) (by kernel_rfl) (by kernel_rfl) (fun _ _ _ h => h) (.inl rfl) rfl (fun _ h => (h).erase 0) (Yv.loadK (vs := [_, _]) Tryz.isAgg32 Tryz.sizeOf32 rfl (CFs.part (pre := []) (vs := [_, _]) (post := [_]) 1 rfl rfl rfl)) ?_
              refine HW.take 4 rfl (by kernel_rfl) (by kernel_rfl) (by kernel_rfl) (fun _ _ _ h => h) (.inl rfl) rfl (fun _ h => (h).erase 0) (Yv.move rfl) ?_
              refine HW.run 5 rfl (by kernel_rfl) _ (.inl rfl) rfl (Ow.call e97 rfl (C.val (fun w hs => ref19Head n A c l (i : Nat) (by omega) _ (hr.below hs.mod.below)))) (by rintro _ _ ⟨rfl, rfl⟩ w h; exact (h).erase 0) ?_
              rintro _ _ ⟨rfl, rfl⟩
              refine HW.take 6 rfl (by kernel_rfl) (by kernel_rfl) (by kernel_rfl) (fun _ _ _ h => h) (.inl rfl) rfl (fun _ h => (h).erase 0) (Yv.index0 Tryz.underlying147 Tryz.sizeOf4 rfl rfl (by omega) (by omega)) ?_
              refine HW.run 7 rfl (by kernel_rfl) _ (.inl rfl) rfl (Ow.storeRow 0 Tryz.sizeOf4 rfl rfl (rfl) rfl (by rw [bools_length]; omega)) (by rintro _ _ ⟨rfl, rfl⟩ w h; exact (h).erase 0) ?_
              rintro _ _ ⟨rfl, rfl⟩
              refine HW.done (by kernel_rfl) ?_
              refine PW.block ?_
              refine PW.go ?_
              refine CW.region ?_
              refine RW.y (.inl rfl) rfl (Yv.move rfl) ?_
              refine RW.y (.inl rfl) rfl (Yv.add rfl rfl (by omega)) ?_
              refine RW.y (.inl rfl) rfl (Yv.assign rfl) ?_
              refine RW.nil ?_
              refine PW.mem _ (fun w h => h.row_eq (m' := n) (xs' := bools (cs.set (headOf l (i : Int)).toNat true)) 0 rfl (rfl) (bools_set _ _ _)) ?_
              exact PW.next (i + 1, cs.set (headOf l (i : Int)).toNat true) (⟨by show i + 1 ≤ 2 * l.length; omega, hRn.go hok (by omega) (by rw [hb2]; exact hc48) (by omega)⟩) ⟨rfl, rfl, rfl, rfl, rfl, trivial⟩ (fun w h => h) (by show 2 * l.length - (i + 1) < 2 * l.length - i; omega)
            ·
              refine CW.skip ?_
              refine PW.block ?_
              refine PW.go ?_
              refine CW.region ?_
              refine RW.y (.inl rfl) rfl (Yv.move rfl) ?_
              refine RW.y (.inl rfl) rfl (Yv.add rfl rfl (by omega)) ?_
              refine RW.y (.inl rfl) rfl (Yv.assign rfl) ?_
              refine RW.nil ?_
              exact PW.next (i + 1, cs) (⟨by show i + 1 ≤ 2 * l.length; omega, hRn.stay (by rw [hb2]; first | (rw [hc48]; simp; done) | (rintro ⟨_, h⟩; omega))⟩) ⟨rfl, rfl, rfl, rfl, rfl, trivial⟩ (fun w h => h) (by show 2 * l.length - (i + 1) < 2 * l.length - i; omega)
          ·
            refine HW.skip 9 rfl (by kernel_rfl) (by kernel_rfl) (by kernel_rfl) (fun _ _ _ h => h) ⟨_, _, 48, _, rfl, rfl, rfl, fun h => by simp [undef] at h⟩ rfl (fun _ h => h) ?_
            refine HW.skip 10 rfl (by kernel_rfl) (by kernel_rfl) (by kernel_rfl) (fun _ _ _ h => h) ⟨_, _, 48, _, rfl, rfl, rfl, fun h => by simp [undef] at h⟩ rfl (fun _ h => h) ?_
            refine HW.skip 11 rfl (by kernel_rfl) (by kernel_rfl) (by kernel_rfl) (fun _ _ _ h => h) ⟨_, _, 48, _, rfl, rfl, rfl, fun h => by simp [undef] at h⟩ rfl (fun _ h => h) ?_
            refine HW.skip 12 rfl (by kernel_rfl) (by kernel_rfl) (by kernel_rfl) (fun _ _ _ h => h) ⟨_, _, 48, _, rfl, rfl, rfl, fun h => by simp [undef] at h⟩ rfl (fun _ h => h) ?_
            refine HW.take 13 rfl (by kernel_rfl) (by kernel_rfl) (by kernel_rfl) (fun _ _ _ h => h) (.inl rfl) rfl (fun _ h => h) (Yv.pickF rfl rfl) ?_
            refine HW.done (by kernel_rfl) ?_
            refine PW.go ?_
            refine CW.condF rfl ?_
            refine CW.skip ?_
            refine PW.block ?_
            refine PW.go ?_
            refine CW.region ?_
            refine RW.y (.inl rfl) rfl (Yv.move rfl) ?_
            refine RW.y (.inl rfl) rfl (Yv.add rfl rfl (by omega)) ?_
            refine RW.y (.inl rfl) rfl (Yv.assign rfl) ?_
            refine RW.nil ?_
            exact PW.next (i + 1, cs) (⟨by show i + 1 ≤ 2 * l.length; omega, hRn.stay (by rw [hb2]; first | (rw [hc48]; simp; done) | (rintro ⟨_, h⟩; omega))⟩) ⟨rfl, rfl, rfl, rfl, rfl, trivial⟩ (fun w h => h) (by show 2 * l.length - (i + 1) < 2 * l.length - i; omega)
        ·
          refine CW.exit ?_
          refine PW.then_exit ?_
          refine PW.then_exit ?_
          refine PW.block_exit ?_
          refine PW.block ?_
          refine PW.go ?_
          refine CW.region ?_
          refine RW.y (.inl rfl) rfl (Yv.move rfl) ?_
          refine RW.y (.inl rfl) rfl (Yv.add rfl rfl (by omega)) ?_
          refine RW.y (.inl rfl) rfl (Yv.assign rfl) ?_
          refine RW.nil ?_
          exact PW.next (q + 1, cs) (⟨by show q + 1 ≤ n; omega, hR.next (by rw [show 2 * l.length = i by omega]; exact hRn)⟩) ⟨rfl, rfl, rfl, rfl, trivial⟩ (fun w h => h) (by show n - (q + 1) < n - q; omega)
      ·
        refine CW.exit ?_
        refine PW.then_exit ?_
        refine PW.then_exit ?_
        refine PW.block_exit ?_
        refine PW.go ?_
        refine CW.seq ?_
        have hqn : q = n := by omega
        subst hqn
        have hcl := hR.1.len
        refine CW.region ?_
        refine RW.y (.inl rfl) rfl (Yv.loadK (vs := [_, _]) Tryz.isAgg149 Tryz.sizeOf149 rfl (CFs.whole 1 rfl)) ?_
        refine RW.o _ (.inl rfl) rfl (Ow.call e98 rfl (C.new (val := id) (φ := fun _ => True) (Ψ := fun v_ => row v_ 3 1 ((mems cs0 q).length) (i64s (mems cs0 q))) (fun w2 hs => (ref09List q hnn bs q cs0 hcl w2 (hs.row_Rd 0 rfl (by omega))).mono (fun e w3 ⟨v_, hv_, hb, F, hF, hk_⟩ => ⟨v_, trivial, hv_, hb, F, hF, hk_⟩)))) ?_
        rintro _ _ ⟨v_res, -, rfl, rfl⟩
        refine RW.y (.inl rfl) rfl (Yv.assign rfl) ?_
        refine RW.nil ?_
        refine PW.go ?_
        refine CW.ret ?_
        refine PW.ret1 Tryz.results51 rfl (fun w1 hs => ?_)
        have hs' := hs.row_eq (m' := (rchL q l f v).length) (xs' := i64s (rchL q l f v)) 0 rfl (by rw [← hR.1.list ⟨by omega, by omega⟩ hok hR.last]; rfl) (by rw [← hR.1.list ⟨by omega, by omega⟩ hok hR.last]; rfl)
        obtain ⟨F, hF, hk⟩ := hs'.out 0 rfl
        exact ⟨_, rfl, hs.mod.below, F, hF, hk⟩

end Go.Proofs.YtipoblpnkkcpgaaGreat
