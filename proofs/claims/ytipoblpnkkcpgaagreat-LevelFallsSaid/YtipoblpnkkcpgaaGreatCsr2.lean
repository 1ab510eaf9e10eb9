/- Walks, written by a program of this session (gen.py) out of a spec. -/
import Derived.Test.YtipoblpnkkcpgaaGreatCsr1
import Derived.Test.YtipoblpnkkcpgaaGreatCsr0
import Derived.Test.YtipoblpnkkcpgaaGreatCsrP
import Derived.Test.YtipoblpnkkcpgaaGreatSort
import Derived.Test.YtipoblpnkkcpgaaGreatCmp0
set_option linter.unusedVariables false
set_option linter.unusedSimpArgs false
namespace Go.Proofs.YtipoblpnkkcpgaaGreat
open Go Go.RowKit Go.Proofs.YtipoblpnkkcpgaaGreat.B

theorem HasArcs.of {w : World} {b : Nat} {l : List Edg} {Aa : Option Addr} {ca : Nat} {v2 v3 : Value} (h1 : ∃ F, (blk b [.slice Aa (2 * l.length) ca, v2, v3] 106).holds w F) (h2 : ∃ F, (row (.slice Aa (2 * l.length) ca) 126 2 (2 * l.length) (cellsA (arcsOf l))).holds w F) (hl : l.length ≤ 1048576) : HasArcs w b l := by
  obtain ⟨F1, a, _⟩ := h1
  obtain ⟨F2, c⟩ := h2
  exact ⟨⟨Aa, ca, v2, v3, a, row_rd c (by omega)⟩, hl⟩
theorem hasTailT (b : Nat) (l : List Edg) (i : Int) (hi : -9223372036854775808 ≤ i ∧ i ≤ 9223372036854775807) (t : Int) (ht : tailOf l i = t) (w : World) (hA : HasArcs w b l) : Calls Tryz.prog 30 #[.pointer (some ⟨b, 0, none⟩), .int .i64 i] w fun e w1 => e = .returned (.int .i64 t) ∧ Gr w w1 := by
  subst ht; exact hasTail b l i hi w hA
theorem nats_at {l : List Nat} {k : Nat} {x : Int} (hx : x.toNat = k) (h : k < l.length) : (nats l)[x.toNat]? = some (.int .i64 ((l.getD k 0 : Nat) : Int)) := by rw [hx]; exact nats_get l k h
theorem nats_inc {l : List Nat} {x y : Int} {k m : Nat} (hx : x.toNat = k) (hy : y = (m : Int)) : (nats l).set x.toNat (.int .i64 y) = nats (l.set k m) := by rw [hx, hy, nats_set]
theorem nats_one (l : List Nat) : ∀ u ∈ nats l, u.oneCell' = true := by
  intro u hu
  simp only [nats, List.mem_map] at hu
  obtain ⟨x, _, rfl⟩ := hu
  rfl
theorem map_bd {f : Nat → Nat} {n m : Nat} (h : ∀ j, f j ≤ m) (j : Nat) : ((List.range n).map f).getD j 0 ≤ m := by
  rw [List.getD_eq_getElem?_getD, map_range_get]
  split
  · exact h j
  · exact Nat.zero_le _
theorem eqC_le (ts : List Nat) (v : Nat) : eqC ts v ≤ ts.length := List.countP_le_length
theorem cntL_bd (n : Nat) (ts : List Nat) (j : Nat) : (cntL n ts).getD j 0 ≤ ts.length := map_bd (fun j => by split; omega; exact eqC_le _ _) j
theorem preL_bd (n : Nat) (ts : List Nat) (v j : Nat) : (preL n ts v).getD j 0 ≤ ts.length := map_bd (fun j => by split; exact preC_le _ _; exact eqC_le _ _) j
theorem arcsOf_snoc (l : List Edg) (e : Edg) : arcsOf (l ++ [e]) = arcsOf l ++ [(e.v, e.w), (e.u, e.w)] := by simp [arcsOf]
theorem Rd.seg {w : World} {bo m lo hi : Nat} {xs : List Value} {A : Option Addr} (h : Rd w (some ⟨bo, 0, none⟩) 1 m xs) (h1 : lo ≤ hi) (h2 : hi ≤ m) (hA : lo < hi → A = some ⟨bo, lo, none⟩) : Rd w A 1 (hi - lo) ((xs.drop lo).take (hi - lo)) := by
  obtain ⟨a, b, c⟩ := h
  refine ⟨by simp; omega, by omega, fun h0 => ?_⟩
  obtain ⟨b', o', he, hb, hc⟩ := c (by omega)
  cases he
  refine ⟨bo, lo, hA (by omega), hb, fun j u hj => ?_⟩
  have hjl := (List.getElem?_eq_some_iff.1 hj).1
  rw [List.length_take] at hjl
  rw [List.getElem?_take_of_lt (by omega), List.getElem?_drop] at hj
  have := hc (lo + j) u hj
  rwa [Nat.zero_add] at this

set_option maxRecDepth 100000 in
theorem csrCmp (b3 b : Nat) (l : List Edg) (x y : Int) (w : World) (h3 : w.heap[b3]? = some (.cells [Value.pointer (some ⟨b, 0, none⟩)].toArray 47 (0, 0))) (hA : HasArcs w b l) (hx : 0 ≤ x ∧ x < 2 * (l.length : Int)) (hy : 0 ≤ y ∧ y < 2 * (l.length : Int)) : Calls Tryz.prog 91 #[.int .i64 x, .int .i64 y, .pointer (some ⟨b3, 0, none⟩)] w fun e w1 => e = .returned (.int .i64 (cmpI (headOf l x) (headOf l y))) ∧ Gr w w1 := by
  obtain ⟨⟨Aa, ca, v2, v3, h1, h2⟩, hl⟩ := hA
  have hlen := arcsOf_length l
  obtain ⟨ba, oa, rfl, hba, hca⟩ := h2.2.2 (by omega)
  obtain ⟨ex, hex⟩ : ∃ a, (arcsOf l)[x.toNat]? = some a := ⟨_, List.getElem?_eq_getElem (by omega)⟩
  obtain ⟨ey, hey⟩ : ∃ a, (arcsOf l)[y.toNat]? = some a := ⟨_, List.getElem?_eq_getElem (by omega)⟩
  have hcx := cellsA_get _ _ ex hex
  have hcy := cellsA_get _ _ ey hey
  refine CW.enter (P := Tryz.prog) (F0 := none0) (L := [(0, _), (1, _), (2, _)]) 23 [] Tryz.func91 rfl Tryz.ntmps91 (Nat.le_of_ble_eq_true rfl) (St.start w none0) rfl ?_
  refine CW.seq ?_
  refine CW.region ?_
  refine RW.y (.inl rfl) rfl (Yv.assign rfl) ?_
  refine RW.nil ?_
  refine PW.go ?_
  refine CW.seq ?_
  refine CW.draw0 mixed ?_
  refine HW.take 0 rfl (by kernel_rfl) (by kernel_rfl) (by kernel_rfl) (fun _ _ _ h => h) (.inl rfl) rfl (fun _ h => h) (Yv.load1 Tryz.isAgg47 rfl (CF.old (cell_of h3 rfl) (not_none0 _))) ?_
  refine HW.take 1 rfl (by kernel_rfl) (by kernel_rfl) (by kernel_rfl) (fun _ _ _ h => h) (.inl rfl) rfl (fun _ h => h) (Yv.nilCheck rfl) ?_
  refine HW.take 2 rfl (by kernel_rfl) (by kernel_rfl) (by kernel_rfl) (fun _ _ _ h => h) (.inl rfl) rfl (fun _ h => h) (Yv.fieldAddr Tryz.underlying106 rfl Tryz.sizeOf104 rfl rfl) ?_
  refine HW.take 3 rfl (by kernel_rfl) (by kernel_rfl) (by kernel_rfl) (fun _ _ _ h => h) (.inl rfl) rfl (fun _ h => h) (Yv.load1 Tryz.isAgg104 rfl (CF.old (cell_of h1 rfl) (not_none0 _))) ?_
  refine HW.take 4 rfl (by kernel_rfl) (by kernel_rfl) (by kernel_rfl) (fun _ _ _ h => h) (.inl rfl) rfl (fun _ h => h) (Yv.move rfl) ?_
  refine HW.take 5 rfl (by kernel_rfl) (by kernel_rfl) (by kernel_rfl) (fun _ _ _ h => h) (.inl rfl) rfl (fun _ h => h) (Yv.indexK Tryz.underlying104 Tryz.sizeOf126 rfl rfl (by omega) (by omega)) ?_
  refine HW.take 6 rfl (by kernel_rfl) (by kernel_rfl) (by kernel_rfl) (fun _ _ _ h => h) (.inl rfl) rfl (fun _ h => h) (Yv.fieldAddr Tryz.underlying126 rfl Tryz.sizeOf3 rfl rfl) ?_
  refine HW.take 7 rfl (by kernel_rfl) (by kernel_rfl) (by kernel_rfl) (fun _ _ _ h => h) (.inl rfl) rfl (fun _ h => h) (Yv.load1 Tryz.isAgg3 rfl (CF.old (hca _ _ hcx.1) (not_none0 _))) ?_
  refine HW.take 8 rfl (by kernel_rfl) (by kernel_rfl) (by kernel_rfl) (fun _ _ _ h => h) (.inl rfl) rfl (fun _ h => h) (Yv.load1 Tryz.isAgg47 rfl (CF.old (cell_of h3 rfl) (not_none0 _))) ?_
  refine HW.take 9 rfl (by kernel_rfl) (by kernel_rfl) (by kernel_rfl) (fun _ _ _ h => h) (.inl rfl) rfl (fun _ h => h) (Yv.nilCheck rfl) ?_
  refine HW.take 10 rfl (by kernel_rfl) (by kernel_rfl) (by kernel_rfl) (fun _ _ _ h => h) (.inl rfl) rfl (fun _ h => h) (Yv.fieldAddr Tryz.underlying106 rfl Tryz.sizeOf104 rfl rfl) ?_
  refine HW.take 11 rfl (by kernel_rfl) (by kernel_rfl) (by kernel_rfl) (fun _ _ _ h => h) (.inl rfl) rfl (fun _ h => h) (Yv.load1 Tryz.isAgg104 rfl (CF.old (cell_of h1 rfl) (not_none0 _))) ?_
  refine HW.take 12 rfl (by kernel_rfl) (by kernel_rfl) (by kernel_rfl) (fun _ _ _ h => h) (.inl rfl) rfl (fun _ h => h) (Yv.move rfl) ?_
  refine HW.take 13 rfl (by kernel_rfl) (by kernel_rfl) (by kernel_rfl) (fun _ _ _ h => h) (.inl rfl) rfl (fun _ h => h) (Yv.indexK Tryz.underlying104 Tryz.sizeOf126 rfl rfl (by omega) (by omega)) ?_
  refine HW.take 14 rfl (by kernel_rfl) (by kernel_rfl) (by kernel_rfl) (fun _ _ _ h => h) (.inl rfl) rfl (fun _ h => h) (Yv.fieldAddr Tryz.underlying126 rfl Tryz.sizeOf3 rfl rfl) ?_
  refine HW.take 15 rfl (by kernel_rfl) (by kernel_rfl) (by kernel_rfl) (fun _ _ _ h => h) (.inl rfl) rfl (fun _ h => h) (Yv.load1 Tryz.isAgg3 rfl (CF.old (hca _ _ hcy.1) (not_none0 _))) ?_
  refine HW.run 16 rfl (by kernel_rfl) _ (.inl rfl) rfl (Ow.call e92 rfl (C.val (fun w hs => cmpCompare ex.1 ey.1 _))) (by rintro _ _ ⟨rfl, rfl⟩ w h; exact h) ?_
  rintro _ _ ⟨rfl, rfl⟩
  refine HW.take 17 rfl (by kernel_rfl) (by kernel_rfl) (by kernel_rfl) (fun _ _ _ h => h) (.inl rfl) rfl (fun _ h => h) (Yv.assign rfl) ?_
  refine HW.done (by kernel_rfl) ?_
  refine PW.go ?_
  refine CW.ret ?_
  refine PW.ret1 Tryz.results91 rfl (fun w1 hs => ?_)
  refine ⟨?_, hs.mod.below⟩
  have e1 : headOf l x = ex.1 := by unfold headOf; rw [if_pos (by omega), hex]; rfl
  have e2 : headOf l y = ey.1 := by unfold headOf; rw [if_pos (by omega), hey]; rfl
  rw [e1, e2]

set_option maxRecDepth 100000 in
theorem csrOf (b bo m co n : Nat) (v1 : Value) (Af : Option Addr) (cf : Nat) (fr : List Nat) (v : Nat) (w : World) (h1 : w.heap[b]? = some (.cells [v1, .slice Af (n + 1) cf, .slice (some ⟨bo, 0, none⟩) m co].toArray 106 (0, 0))) (h3 : Rd w Af 1 (n + 1) (nats fr)) (hv : v < n) (hmono : fr.getD v 0 ≤ fr.getD (v + 1) 0) (hle : fr.getD (v + 1) 0 ≤ co) (hn : n ≤ 4096) : Calls Tryz.prog 90 #[.pointer (some ⟨b, 0, none⟩), .int .i64 (v : Int)] w fun e w1 => ∃ A : Option Addr, (fr.getD v 0 < fr.getD (v + 1) 0 → A = some ⟨bo, fr.getD v 0, none⟩) ∧ e = .returned (.slice A (fr.getD (v + 1) 0 - fr.getD v 0) (fr.getD (v + 1) 0 - fr.getD v 0)) ∧ Gr w w1 := by
  obtain ⟨bf, of_, rfl, hbf, hcf⟩ := h3.2.2 (by omega)
  have hfl := h3.1
  rw [nats_length] at hfl
  refine CW.enter (P := Tryz.prog) (F0 := none0) (L := [(0, _), (1, _)]) 33 [] Tryz.func90 rfl Tryz.ntmps90 (Nat.le_of_ble_eq_true rfl) (St.start w none0) rfl ?_
  refine CW.seq ?_
  refine CW.region ?_
  refine RW.y (.inl rfl) rfl (Yv.assign rfl) ?_
  refine RW.nil ?_
  refine PW.go ?_
  refine CW.seq ?_
  refine CW.draw0 mixed ?_
  refine HW.take 0 rfl (by kernel_rfl) (by kernel_rfl) (by kernel_rfl) (fun _ _ _ h => h) (.inl rfl) rfl (fun _ h => h) (Yv.move rfl) ?_
  refine HW.take 1 rfl (by kernel_rfl) (by kernel_rfl) (by kernel_rfl) (fun _ _ _ h => h) (.inl rfl) rfl (fun _ h => h) (Yv.nilCheck rfl) ?_
  refine HW.take 2 rfl (by kernel_rfl) (by kernel_rfl) (by kernel_rfl) (fun _ _ _ h => h) (.inl rfl) rfl (fun _ h => h) (Yv.fieldAddr Tryz.underlying106 rfl Tryz.sizeOf51 rfl rfl) ?_
  refine HW.take 3 rfl (by kernel_rfl) (by kernel_rfl) (by kernel_rfl) (fun _ _ _ h => h) (.inl rfl) rfl (fun _ h => h) (Yv.load1 Tryz.isAgg51 rfl (CF.old (cell_of h1 rfl) (not_none0 _))) ?_
  refine HW.take 4 rfl (by kernel_rfl) (by kernel_rfl) (by kernel_rfl) (fun _ _ _ h => h) (.inl rfl) rfl (fun _ h => h) (Yv.move rfl) ?_
  refine HW.take 5 rfl (by kernel_rfl) (by kernel_rfl) (by kernel_rfl) (fun _ _ _ h => h) (.inl rfl) rfl (fun _ h => h) (Yv.nilCheck rfl) ?_
  refine HW.take 6 rfl (by kernel_rfl) (by kernel_rfl) (by kernel_rfl) (fun _ _ _ h => h) (.inl rfl) rfl (fun _ h => h) (Yv.fieldAddr Tryz.underlying106 rfl Tryz.sizeOf51 rfl rfl) ?_
  refine HW.take 7 rfl (by kernel_rfl) (by kernel_rfl) (by kernel_rfl) (fun _ _ _ h => h) (.inl rfl) rfl (fun _ h => h) (Yv.load1 Tryz.isAgg51 rfl (CF.old (cell_of h1 rfl) (not_none0 _))) ?_
  refine HW.take 8 rfl (by kernel_rfl) (by kernel_rfl) (by kernel_rfl) (fun _ _ _ h => h) (.inl rfl) rfl (fun _ h => h) (Yv.move rfl) ?_
  refine HW.take 9 rfl (by kernel_rfl) (by kernel_rfl) (by kernel_rfl) (fun _ _ _ h => h) (.inl rfl) rfl (fun _ h => h) (Yv.index1 Tryz.underlying51 Tryz.sizeOf3 rfl rfl (by omega) (by omega)) ?_
  refine HW.take 10 rfl (by kernel_rfl) (by kernel_rfl) (by kernel_rfl) (fun _ _ _ h => h) (.inl rfl) rfl (fun _ h => h) (Yv.load1 Tryz.isAgg3 rfl (CF.old (hcf _ _ (nats_get fr v (by omega))) (not_none0 _))) ?_
  refine HW.take 11 rfl (by kernel_rfl) (by kernel_rfl) (by kernel_rfl) (fun _ _ _ h => h) (.inl rfl) rfl (fun _ h => h) (Yv.move rfl) ?_
  refine HW.take 12 rfl (by kernel_rfl) (by kernel_rfl) (by kernel_rfl) (fun _ _ _ h => h) (.inl rfl) rfl (fun _ h => h) (Yv.nilCheck rfl) ?_
  refine HW.take 13 rfl (by kernel_rfl) (by kernel_rfl) (by kernel_rfl) (fun _ _ _ h => h) (.inl rfl) rfl (fun _ h => h) (Yv.fieldAddr Tryz.underlying106 rfl Tryz.sizeOf51 rfl rfl) ?_
  refine HW.take 14 rfl (by kernel_rfl) (by kernel_rfl) (by kernel_rfl) (fun _ _ _ h => h) (.inl rfl) rfl (fun _ h => h) (Yv.load1 Tryz.isAgg51 rfl (CF.old (cell_of h1 rfl) (not_none0 _))) ?_
  refine HW.take 15 rfl (by kernel_rfl) (by kernel_rfl) (by kernel_rfl) (fun _ _ _ h => h) (.inl rfl) rfl (fun _ h => h) (Yv.move rfl) ?_
  refine HW.take 16 rfl (by kernel_rfl) (by kernel_rfl) (by kernel_rfl) (fun _ _ _ h => h) (.inl rfl) rfl (fun _ h => h) (Yv.add rfl rfl (by omega)) ?_
  refine HW.take 17 rfl (by kernel_rfl) (by kernel_rfl) (by kernel_rfl) (fun _ _ _ h => h) (.inl rfl) rfl (fun _ h => h) (Yv.index1 Tryz.underlying51 Tryz.sizeOf3 rfl rfl (by omega) (by omega)) ?_
  refine HW.take 18 rfl (by kernel_rfl) (by kernel_rfl) (by kernel_rfl) (fun _ _ _ h => h) (.inl rfl) rfl (fun _ h => h) (Yv.load1 Tryz.isAgg3 rfl (CF.old (hcf _ _ (nats_get fr (v + 1) (by omega))) (not_none0 _))) ?_
  refine HW.take 19 rfl (by kernel_rfl) (by kernel_rfl) (by kernel_rfl) (fun _ _ _ h => h) (.inl rfl) rfl (fun _ h => h) (Yv.move rfl) ?_
  refine HW.take 20 rfl (by kernel_rfl) (by kernel_rfl) (by kernel_rfl) (fun _ _ _ h => h) (.inl rfl) rfl (fun _ h => h) (Yv.nilCheck rfl) ?_
  refine HW.take 21 rfl (by kernel_rfl) (by kernel_rfl) (by kernel_rfl) (fun _ _ _ h => h) (.inl rfl) rfl (fun _ h => h) (Yv.fieldAddr Tryz.underlying106 rfl Tryz.sizeOf51 rfl rfl) ?_
  refine HW.take 22 rfl (by kernel_rfl) (by kernel_rfl) (by kernel_rfl) (fun _ _ _ h => h) (.inl rfl) rfl (fun _ h => h) (Yv.load1 Tryz.isAgg51 rfl (CF.old (cell_of h1 rfl) (not_none0 _))) ?_
  refine HW.take 23 rfl (by kernel_rfl) (by kernel_rfl) (by kernel_rfl) (fun _ _ _ h => h) (.inl rfl) rfl (fun _ h => h) (Yv.move rfl) ?_
  refine HW.take 24 rfl (by kernel_rfl) (by kernel_rfl) (by kernel_rfl) (fun _ _ _ h => h) (.inl rfl) rfl (fun _ h => h) (Yv.add rfl rfl (by omega)) ?_
  refine HW.take 25 rfl (by kernel_rfl) (by kernel_rfl) (by kernel_rfl) (fun _ _ _ h => h) (.inl rfl) rfl (fun _ h => h) (Yv.index1 Tryz.underlying51 Tryz.sizeOf3 rfl rfl (by omega) (by omega)) ?_
  refine HW.take 26 rfl (by kernel_rfl) (by kernel_rfl) (by kernel_rfl) (fun _ _ _ h => h) (.inl rfl) rfl (fun _ h => h) (Yv.load1 Tryz.isAgg3 rfl (CF.old (hcf _ _ (nats_get fr (v + 1) (by omega))) (not_none0 _))) ?_
  refine HW.run 27 rfl (by kernel_rfl) _ (.inl rfl) rfl (Ow.slice3 Tryz.underlying51 Tryz.sizeOf3 rfl rfl rfl rfl (by omega) (by omega) (by omega) (by omega)) (by rintro _ _ ⟨A, rfl, hA, rfl⟩ w h; exact h) ?_
  rintro _ _ ⟨A, rfl, hA, rfl⟩
  refine HW.take 28 rfl (by kernel_rfl) (by kernel_rfl) (by kernel_rfl) (fun _ _ _ h => h) (.inl rfl) rfl (fun _ h => h) (Yv.assign rfl) ?_
  refine HW.done (by kernel_rfl) ?_
  refine PW.go ?_
  refine CW.ret ?_
  refine PW.ret1 Tryz.results90 rfl (fun w1 hs => ?_)
  exact ⟨A, fun h => by have := hA (by omega); simpa using this, rfl, hs.mod.below⟩

set_option maxRecDepth 100000 in
theorem arcsOut (b : Nat) (D : ArcsD) (v : Int) (w : World) (hA : IsArcs w b D) (h : 0 ≤ v ∧ v < D.n) : Calls Tryz.prog 78 #[.pointer (some ⟨b, 0, none⟩), .int .i64 v] w fun e w1 => ∃ u, e = .returned u ∧ Gr w w1 ∧ ∃ F, (row u 3 1 (D.of v.toNat).length (i64s (D.of v.toNat))).holds w1 F ∧ ∀ k, F k → w.heap.size ≤ k ∧ k < w1.heap.size := by
  have hA' := hA
  obtain ⟨⟨Aa, ca, Af, cf, bo, co, h1, h2, h3, h4, h5⟩, hn, hl, hmono⟩ := hA
  obtain ⟨k, rfl⟩ : ∃ k : Nat, v = k := ⟨v.toNat, by omega⟩
  rw [show ((k : Nat) : Int).toNat = k by omega]
  have hmk := hmono k (by omega)
  have hof : i64s (D.of k) = ((i64s D.out).drop (D.fr.getD k 0)).take (D.fr.getD (k + 1) 0 - D.fr.getD k 0) := by simp [i64s, ArcsD.of, List.map_take, List.map_drop]
  refine CW.enter (P := Tryz.prog) (F0 := none0) (L := [(0, _), (1, _)]) 17 [] Tryz.func78 rfl Tryz.ntmps78 (Nat.le_of_ble_eq_true rfl) (St.start w none0) rfl ?_
  refine CW.seq ?_
  refine CW.region ?_
  refine RW.y (.inl rfl) rfl (Yv.assign rfl) ?_
  refine RW.nil ?_
  refine PW.go ?_
  refine CW.seq ?_
  refine CW.seq ?_
  refine CW.region ?_
  refine RW.y (.inl rfl) rfl (Yv.move rfl) ?_
  refine RW.y (.inl rfl) rfl (Yv.lt rfl rfl) ?_
  refine RW.y (.inl rfl) rfl (Yv.move rfl) ?_
  refine RW.isF 7 rfl (by omega) ?_
  refine RW.y (.inr ⟨_, _, 7, rfl, rfl, rfl⟩) rfl (Yv.move rfl) ?_
  refine RW.y (.inr ⟨_, _, 7, rfl, rfl, rfl⟩) rfl (Yv.move rfl) ?_
  refine RW.o _ (.inr ⟨_, _, 7, rfl, rfl, rfl⟩) rfl (Ow.call e42 rfl (C.val (fun w hs => arcsN b D _ (hA'.below hs.mod.below)))) ?_
  rintro _ _ ⟨rfl, rfl⟩
  refine RW.y (.inr ⟨_, _, 7, rfl, rfl, rfl⟩) rfl (Yv.ge rfl rfl) ?_
  refine RW.y (.inl rfl) rfl (Yv.pickF rfl rfl) ?_
  refine RW.nil ?_
  refine PW.go ?_
  refine CW.condD rfl (fun hc12 => ?_) (fun hc12 => ?_)
  ·
    omega
  ·
    refine CW.skip ?_
    refine PW.go ?_
    refine CW.seq ?_
    refine CW.region ?_
    refine RW.y (.inl rfl) rfl (Yv.move rfl) ?_
    refine RW.y (.inl rfl) rfl (Yv.move rfl) ?_
    refine RW.o _ (.inl rfl) rfl (Ow.call e90 rfl (C.ex (fun w2 hs => csrOf b bo (2 * D.l.length) co D.n _ Af cf D.fr k w2 (by rw [hs.mod.below.block b (Array.getElem?_eq_some_iff.1 h1).1]; exact h1) (h3.below hs.mod.below) (by omega) hmk.1 (by omega) hn))) ?_
    rintro _ _ ⟨A, hA2, rfl, rfl⟩
    have hrd : Rd w A 1 (D.fr.getD (k + 1) 0 - D.fr.getD k 0) (i64s (D.of k)) := by rw [hof]; exact Rd.seg h4 hmk.1 hmk.2 hA2
    have hok : (D.of k).length = D.fr.getD (k + 1) 0 - D.fr.getD k 0 := by have := hrd.1; rw [i64s_length] at this; omega
    refine RW.o _ (.inl rfl) rfl (Ow.call e88 rfl (C.new (val := id) (φ := fun _ => True) (Ψ := fun v => row v 3 1 (D.fr.getD (k + 1) 0 - D.fr.getD k 0) (i64s (D.of k))) (fun w2 hs => (cloneI A (D.fr.getD (k + 1) 0 - D.fr.getD k 0) (D.fr.getD (k + 1) 0 - D.fr.getD k 0) (i64s (D.of k)) w2 (hrd.below hs.mod.below) (i64s_one _) (slice_nil_len hrd) (by omega)).mono (fun e w3 ⟨v, hv, hb, F, hF, hk⟩ => ⟨v, trivial, hv, hb, F, hF, hk⟩)))) ?_
    rintro _ _ ⟨vx, -, rfl, rfl⟩
    refine RW.y (.inl rfl) rfl (Yv.assign rfl) ?_
    refine RW.nil ?_
    refine PW.go ?_
    refine CW.ret ?_
    refine PW.ret1 Tryz.results78 rfl (fun w1 hs => ?_)
    have hs' := hs.row_eq (m' := (D.of k).length) (xs' := i64s (D.of k)) 0 rfl hok.symm rfl
    obtain ⟨F, hF, hk⟩ := hs'.out 0 rfl
    exact ⟨_, rfl, hs.mod.below, F, hF, hk⟩

set_option maxRecDepth 100000 in
theorem arcsOut_out (b : Nat) (D : ArcsD) (v : Int) (w : World) (hA : IsArcs w b D) (h : ¬ (0 ≤ v ∧ v < D.n)) : Calls Tryz.prog 78 #[.pointer (some ⟨b, 0, none⟩), .int .i64 v] w fun e w1 => e = .returned (.slice none 0 0) ∧ Gr w w1 := by
  refine CW.enter (P := Tryz.prog) (F0 := none0) (L := [(0, _), (1, _)]) 17 [] Tryz.func78 rfl Tryz.ntmps78 (Nat.le_of_ble_eq_true rfl) (St.start w none0) rfl ?_
  refine CW.seq ?_
  refine CW.region ?_
  refine RW.y (.inl rfl) rfl (Yv.assign rfl) ?_
  refine RW.nil ?_
  refine PW.go ?_
  refine CW.seq ?_
  refine CW.seq ?_
  refine CW.region ?_
  refine RW.y (.inl rfl) rfl (Yv.move rfl) ?_
  refine RW.y (.inl rfl) rfl (Yv.lt rfl rfl) ?_
  refine RW.y (.inl rfl) rfl (Yv.move rfl) ?_
  refine RW.splitD 7 rfl (fun hc7 => ?_) (fun hc7 => ?_)
  ·
    refine RW.no ⟨_, _, 7, _, rfl, rfl, rfl, fun h => by simp [undef] at h⟩ rfl ?_
    refine RW.no ⟨_, _, 7, _, rfl, rfl, rfl, fun h => by simp [undef] at h⟩ rfl ?_
    refine RW.no ⟨_, _, 7, _, rfl, rfl, rfl, fun h => by simp [undef] at h⟩ rfl ?_
    refine RW.no ⟨_, _, 7, _, rfl, rfl, rfl, fun h => by simp [undef] at h⟩ rfl ?_
    refine RW.y (.inl rfl) rfl (Yv.pickT rfl rfl) ?_
    refine RW.nil ?_
    refine PW.go ?_
    refine CW.condT rfl ?_
    refine CW.seq ?_
    refine CW.region ?_
    refine RW.y (.inl rfl) rfl (Yv.assign rfl) ?_
    refine RW.nil ?_
    refine PW.go ?_
    refine CW.ret ?_
    refine PW.then_ret ?_
    refine PW.ret1 Tryz.results78 rfl (fun w1 hs => ?_)
    exact ⟨rfl, hs.mod.below⟩
  ·
    refine RW.y (.inr ⟨_, _, 7, rfl, rfl, rfl⟩) rfl (Yv.move rfl) ?_
    refine RW.y (.inr ⟨_, _, 7, rfl, rfl, rfl⟩) rfl (Yv.move rfl) ?_
    refine RW.o _ (.inr ⟨_, _, 7, rfl, rfl, rfl⟩) rfl (Ow.call e42 rfl (C.val (fun w hs => arcsN b D _ (hA.below hs.mod.below)))) ?_
    rintro _ _ ⟨rfl, rfl⟩
    refine RW.y (.inr ⟨_, _, 7, rfl, rfl, rfl⟩) rfl (Yv.ge rfl rfl) ?_
    refine RW.y (.inl rfl) rfl (Yv.pickF rfl rfl) ?_
    refine RW.nil ?_
    refine PW.go ?_
    refine CW.condD rfl (fun hc12 => ?_) (fun hc12 => ?_)
    ·
      refine CW.seq ?_
      refine CW.region ?_
      refine RW.y (.inl rfl) rfl (Yv.assign rfl) ?_
      refine RW.nil ?_
      refine PW.go ?_
      refine CW.ret ?_
      refine PW.then_ret ?_
      refine PW.ret1 Tryz.results78 rfl (fun w1 hs => ?_)
      exact ⟨rfl, hs.mod.below⟩
    ·
      omega

set_option maxRecDepth 100000 in
theorem arcsOut_nil (v : Int) (w : World) : Calls Tryz.prog 78 #[.pointer none, .int .i64 v] w fun e w1 => e = .returned (.slice none 0 0) ∧ Gr w w1 := by
  refine CW.enter (P := Tryz.prog) (F0 := none0) (L := [(0, _), (1, _)]) 17 [] Tryz.func78 rfl Tryz.ntmps78 (Nat.le_of_ble_eq_true rfl) (St.start w none0) rfl ?_
  refine CW.seq ?_
  refine CW.region ?_
  refine RW.y (.inl rfl) rfl (Yv.assign rfl) ?_
  refine RW.nil ?_
  refine PW.go ?_
  refine CW.seq ?_
  refine CW.seq ?_
  refine CW.region ?_
  refine RW.y (.inl rfl) rfl (Yv.move rfl) ?_
  refine RW.y (.inl rfl) rfl (Yv.lt rfl rfl) ?_
  refine RW.y (.inl rfl) rfl (Yv.move rfl) ?_
  refine RW.splitD 7 rfl (fun hc7 => ?_) (fun hc7 => ?_)
  ·
    refine RW.no ⟨_, _, 7, _, rfl, rfl, rfl, fun h => by simp [undef] at h⟩ rfl ?_
    refine RW.no ⟨_, _, 7, _, rfl, rfl, rfl, fun h => by simp [undef] at h⟩ rfl ?_
    refine RW.no ⟨_, _, 7, _, rfl, rfl, rfl, fun h => by simp [undef] at h⟩ rfl ?_
    refine RW.no ⟨_, _, 7, _, rfl, rfl, rfl, fun h => by simp [undef] at h⟩ rfl ?_
    refine RW.y (.inl rfl) rfl (Yv.pickT rfl rfl) ?_
    refine RW.nil ?_
    refine PW.go ?_
    refine CW.condT rfl ?_
    refine CW.seq ?_
    refine CW.region ?_
    refine RW.y (.inl rfl) rfl (Yv.assign rfl) ?_
    refine RW.nil ?_
    refine PW.go ?_
    refine CW.ret ?_
    refine PW.then_ret ?_
    refine PW.ret1 Tryz.results78 rfl (fun w1 hs => ?_)
    exact ⟨rfl, hs.mod.below⟩
  ·
    refine RW.y (.inr ⟨_, _, 7, rfl, rfl, rfl⟩) rfl (Yv.move rfl) ?_
    refine RW.y (.inr ⟨_, _, 7, rfl, rfl, rfl⟩) rfl (Yv.move rfl) ?_
    refine RW.o _ (.inr ⟨_, _, 7, rfl, rfl, rfl⟩) rfl (Ow.call e42 rfl (C.val (fun w hs => arcsN_nil _))) ?_
    rintro _ _ ⟨rfl, rfl⟩
    refine RW.y (.inr ⟨_, _, 7, rfl, rfl, rfl⟩) rfl (Yv.ge rfl rfl) ?_
    refine RW.y (.inl rfl) rfl (Yv.pickF rfl rfl) ?_
    refine RW.nil ?_
    refine PW.go ?_
    refine CW.condD rfl (fun hc12 => ?_) (fun hc12 => ?_)
    ·
      refine CW.seq ?_
      refine CW.region ?_
      refine RW.y (.inl rfl) rfl (Yv.assign rfl) ?_
      refine RW.nil ?_
      refine PW.go ?_
      refine CW.ret ?_
      refine PW.then_ret ?_
      refine PW.ret1 Tryz.results78 rfl (fun w1 hs => ?_)
      exact ⟨rfl, hs.mod.below⟩
    ·
      omega

theorem sortSeg (A : Option Addr) (b m cap off c2 b3 b17 : Nat) (out bk : List Int) (l : List Edg) (w : World) (F0 : Nat → Prop) (h0 : (row (.slice (some ⟨b, 0, none⟩) m cap) 3 1 m (i64s out)).holds w F0) (hA : 0 < bk.length → A = some ⟨b, off, none⟩)
    (hpt : ∀ j x, bk[j]? = some x → out[off + j]? = some x) (hfit : off + bk.length ≤ out.length) (hmem : ∀ x ∈ bk, 0 ≤ x ∧ x < 2 * (l.length : Int)) (hlen : bk.length ≤ 1099511627776)
    (hW : ∀ W, Mod F0 w W → W.heap[b3]? = some (.cells [Value.pointer (some ⟨b17, 0, none⟩)].toArray 47 (0, 0)) ∧ HasArcs W b17 l) :
    Calls Tryz.prog 89 #[.slice A bk.length c2, .func (.func 91) #[] #[.pointer (some ⟨b3, 0, none⟩)]] w fun e' w1 => ∃ l' : List Int, (l'.Perm bk ∧ l'.Pairwise (fun x y => ¬ cmpI (headOf l y) (headOf l x) < 0)) ∧ e' = .returned (.tuple #[]) ∧ Mod F0 w w1 ∧
      ∃ F', (row (.slice (some ⟨b, 0, none⟩) m cap) 3 1 m (i64s (putL out l' off))).holds w1 F' ∧ ∀ k, F' k → F0 k ∨ (w.heap.size ≤ k ∧ k < w1.heap.size) := by
  refine (sortFuncI (fun x => 0 ≤ x ∧ x < 2 * (l.length : Int)) (fun x y => cmpI (headOf l x) (headOf l y)) (fun x _ => by unfold cmpI; simp) (fun x y z _ _ _ h1 h2 => by unfold cmpI at *; split at h1 <;> split at h2 <;> first | (rw [if_pos (by omega)]; omega) | omega) (fun x y z _ _ _ h1 h2 => by
      unfold cmpI at *
      by_cases a : headOf l x < headOf l y
      · rw [if_pos a] at h1; omega
      · by_cases b : headOf l y < headOf l z
        · rw [if_pos b] at h2; omega
        · rw [if_neg (by omega)]; split <;> omega) 91 #[.pointer (some ⟨b3, 0, none⟩)] e91 A b m cap off c2 3 (i64s out) bk w F0 h0 (fun j v hj => ?_) (by rw [i64s_length]; exact hfit) hmem hlen hA (fun W hM x y hx hy => ?_)).mono fun e w1 ⟨l', hp, he, hm, F', hF', hk⟩ => ⟨l', hp, he, hm, F', by rw [← putL_enc]; exact hF', hk⟩
  · obtain ⟨x, hx, rfl⟩ : ∃ x, bk[j]? = some x ∧ Value.int .i64 x = v := by simpa [i64s] using hj
    exact i64s_get _ _ _ (hpt j x hx)
  · have hW' := hW W (hM.mono (fun k hk => (h0.2 k).2 (by rw [hk]; rfl)))
    exact csrCmp b3 b17 l x y W hW'.1 hW'.2 hx hy
theorem seg_sub {ts : List Nat} {v : Nat} {out : List Int} {j : Nat} {x : Int} (h : (seg ts v out)[j]? = some x) : out[preC ts v + j]? = some x := by
  rw [seg_get] at h
  split at h
  · exact h
  · cases h
theorem isArcs_hold {w : World} {n : Nat} {l : List Edg} {out : List Int} {b3 b17 b15 b95 : Nat} {Aa : Option Addr} {ca : Nat} (hok : ArcsOk n l) (hlen : out.length = (tlsOf l).length)
    (h : Hold w [row (.slice (some ⟨b95, 0, none⟩) (2 * l.length) (2 * l.length)) 3 1 (2 * l.length) (i64s out), row (.slice Aa (2 * l.length) ca) 126 2 (2 * l.length) (cellsA (arcsOf l)), blk b3 [.pointer (some ⟨b17, 0, none⟩)] 47,
      blk b17 [.slice Aa (2 * l.length) ca, .slice (some ⟨b15, 0, none⟩) (n + 1) (n + 1), .slice (some ⟨b95, 0, none⟩) (2 * l.length) (2 * l.length)] 106, row (.slice (some ⟨b15, 0, none⟩) (n + 1) (n + 1)) 3 1 (n + 1) (nats (frL n (tlsOf l)))]) : IsArcs w b17 (csrD n l out) := by
  have hn := hok.hn; have hl := hok.hl
  obtain ⟨F1, d1⟩ := h 0 _ rfl
  obtain ⟨F2, d2⟩ := h 1 _ rfl
  obtain ⟨F4, d4⟩ := h 3 _ rfl
  obtain ⟨F5, d5⟩ := h 4 _ rfl
  refine ⟨⟨_, _, _, _, _, _, d4.1, row_rd d2 ?_, row_rd d5 ?_, row_rd d1 ?_, Nat.le_refl _⟩, hn, hl, fun k hk => ?_⟩
  · show 2 * l.length ≤ _; omega
  · show n + 1 ≤ _; omega
  · show 2 * l.length ≤ _; omega
  · have hk' : k < n := hk
    show (frL n (tlsOf l)).getD k 0 ≤ (frL n (tlsOf l)).getD (k + 1) 0 ∧ (frL n (tlsOf l)).getD (k + 1) 0 ≤ 2 * l.length
    rw [frL_get _ (by omega), frL_get _ (by omega)]
    exact ⟨preC_mono _ (by omega), by have := preC_le (tlsOf l) (k + 1); rw [tlsOf_length] at this; exact this⟩

set_option maxRecDepth 100000 in
theorem csrNew (p : Value) (n : Nat) (l : List Edg) (hok : ArcsOk n l) (w : World) (hN : ∀ w', Gr w w' → Calls Tryz.prog 61 #[p] w' fun e w1 => e = .returned (.int .i64 n) ∧ Gr w' w1) (hE : ∀ w', Gr w w' → Calls Tryz.prog 65 #[p] w' fun e w1 => ∃ v, e = .returned v ∧ Gr w' w1 ∧ ∃ F, (row v 79 3 l.length (cellsE l)).holds w1 F ∧ ∀ k, F k → w'.heap.size ≤ k ∧ k < w1.heap.size) : Calls Tryz.prog 41 #[p] w fun en w1 => ∃ x : Nat × List Int, (∀ v, v < n → (csrD n l x.2).of v = outOf n l v) ∧ en = .returned (.pointer (some ⟨x.1, 0, none⟩)) ∧ Gr w w1 ∧ ∃ F, (nowA (fun w' => IsArcs w' x.1 (csrD n l x.2))).holds w1 F ∧ ∀ k, F k → w.heap.size ≤ k ∧ k < w1.heap.size := by
  have hn := hok.hn
  have hl := hok.hl
  refine CW.enter (P := Tryz.prog) (F0 := none0) (L := [(0, _)]) 143 [] Tryz.func41 rfl Tryz.ntmps41 (Nat.le_of_ble_eq_true rfl) (St.start w none0) rfl ?_
  refine CW.seq ?_
  refine CW.region ?_
  refine RW.y (.inl rfl) rfl (Yv.assign rfl) ?_
  refine RW.nil ?_
  refine PW.go ?_
  refine CW.seq ?_
  refine CW.region ?_
  refine RW.y (.inl rfl) rfl (Yv.move rfl) ?_
  refine RW.o _ (.inl rfl) rfl (Ow.call e61 rfl (C.val (fun w hs => hN _ hs.mod.below))) ?_
  rintro _ _ ⟨rfl, rfl⟩
  refine RW.y (.inl rfl) rfl (Yv.add rfl rfl (by omega)) ?_
  refine RW.o _ (.inl rfl) rfl (Ow.make (m := n + 1) Tryz.underlying51 info3 rfl rfl rfl (by omega) (by omega) (by omega) (by omega)) ?_
  rintro _ _ ⟨b15, rfl, rfl⟩
  refine RW.y (.inl rfl) rfl (Yv.build rfl (fun w => by exact bld106_1 _ _ _ w)) ?_
  refine RW.o _ (.inl rfl) rfl (Ow.box (cs := [_, _, _]) rfl rfl) ?_
  rintro _ _ ⟨b17, rfl, rfl⟩
  refine RW.o _ (.inl rfl) rfl (Ow.alloc (cs := [_]) Tryz.zeroValue47 rfl) ?_
  rintro _ _ ⟨b3, rfl, rfl⟩
  refine RW.o _ (.inl rfl) rfl (Ow.store1 0 Tryz.sizeOf47 rfl rfl (rfl) rfl (Nat.le_of_ble_eq_true rfl)) ?_
  rintro _ _ ⟨rfl, rfl⟩
  refine RW.nil ?_
  refine PW.go ?_
  refine CW.seq ?_
  refine CW.seq ?_
  refine CW.region ?_
  refine RW.mem _ (fun w h => h.emptyRow 126 2) ?_
  refine RW.mem _ (fun w h => h.row_eq (m' := n + 1) (xs' := nats (List.replicate (n + 1) 0)) 3 rfl (rfl) (by simp [nats])) ?_
  refine RW.mem _ (fun w h => h.row_eq (m' := 2 * 0) (xs' := cellsA (arcsOf (l.take 0))) 0 rfl (rfl) (by simp [cellsA, arcsOf])) ?_
  refine RW.y (.inl rfl) rfl (Yv.move rfl) ?_
  refine RW.o _ (.inl rfl) rfl (Ow.call e65 rfl (C.new (val := id) (φ := fun _ => True) (Ψ := fun v => row v 79 3 l.length (cellsE l)) (fun w2 hs => (hE w2 hs.mod.below).mono (fun e w3 ⟨v, hv, hb, F, hF, hk⟩ => ⟨v, trivial, hv, hb, F, hF, hk⟩)))) ?_
  rintro _ _ ⟨vE, -, rfl, rfl⟩
  refine RW.y (.inl rfl) rfl (Yv.lenRow 0 Tryz.underlying22 rfl rfl) ?_
  refine RW.facts _ (fun w h => h.row_slice 0 rfl) ?_
  rintro ⟨Ae, ce, rfl⟩
  refine RW.y (.inl rfl) rfl (Yv.move rfl) ?_
  refine RW.nil ?_
  refine PW.go ?_
  refine CW.block ?_
  refine CW.loop (σ := Nat × Value) (fun s => s.1 ≤ l.length) (fun s => [(0, p), (3, .pointer (some ⟨b3, 0, none⟩)), (19, .slice Ae l.length ce), (20, .int .i64 l.length), (21, .int .i64 (s.1 : Nat))]) (fun s => [row (.slice Ae l.length ce) 79 3 l.length (cellsE l), row s.2 126 2 (2 * s.1) (cellsA (arcsOf (l.take s.1))), blk b3 [.pointer (some ⟨b17, 0, none⟩)] 47, blk b17 [s.2, .slice (some ⟨b15, 0, none⟩) (n + 1) (n + 1), .slice none 0 0] 106, row (.slice (some ⟨b15, 0, none⟩) (n + 1) (n + 1)) 3 1 (n + 1) (nats (List.replicate (n + 1) 0))]) (fun s => l.length - s.1) (0, .slice none 0 0) (by simp) ⟨rfl, rfl, rfl, rfl, rfl, trivial⟩ (fun w h => h) ?_
  rintro ⟨k, v⟩ hk
  (try dsimp only at *)
  refine CW.seq ?_
  refine CW.region ?_
  refine RW.y (.inl rfl) rfl (Yv.lt rfl rfl) ?_
  refine RW.nil ?_
  refine PW.go ?_
  refine CW.seq ?_
  refine CW.condD rfl (fun hc22 => ?_) (fun hc22 => ?_)
  ·
    refine CW.skip ?_
    refine PW.go ?_
    refine CW.seq ?_
    refine CW.block ?_
    refine CW.seq ?_
    have hkl : k < l.length := by omega
    refine CW.facts _ (fun w h => h.row_some 0 rfl (by omega)) ?_
    rintro ⟨be, rfl⟩
    obtain ⟨x, hx⟩ : ∃ x, l[k]? = some x := ⟨_, List.getElem?_eq_getElem hkl⟩
    have hcx := cellsE_get l k x hx
    refine CW.region ?_
    refine RW.y (.inl rfl) rfl (Yv.index0K Tryz.underlying22 Tryz.sizeOf79 rfl rfl (by omega) (by omega)) ?_
    refine RW.y (.inl rfl) rfl (Yv.loadK (vs := [_, _, _]) Tryz.isAgg79 Tryz.sizeOf79 rfl (CFs.row (vs := encE x) 0 rfl hcx)) ?_
    refine RW.o _ (.inl rfl) rfl (Ow.alloc (cs := [_, _, _]) Tryz.zeroValue79 rfl) ?_
    rintro _ _ ⟨b5, rfl, rfl⟩
    refine RW.o _ (.inl rfl) rfl (Ow.storeW (vs := [_, _, _]) 0 Tryz.sizeOf79 rfl rfl (rfl) rfl (rfl)) ?_
    rintro _ _ ⟨rfl, rfl⟩
    refine RW.nil ?_
    refine PW.go ?_
    refine CW.drawE mixed (fun _ h => ((h).erase 2).erase 3) ?_
    refine HW.take 0 rfl (by kernel_rfl) (by kernel_rfl) (by kernel_rfl) (fun _ _ _ h => h) (.inl rfl) rfl (fun _ h => ((h).erase 2).erase 3) (Yv.load1 Tryz.isAgg47 rfl (CF.blk 2 rfl rfl)) ?_
    refine HW.take 1 rfl (by kernel_rfl) (by kernel_rfl) (by kernel_rfl) (fun _ _ _ h => h) (.inl rfl) rfl (fun _ h => ((h).erase 2).erase 3) (Yv.load1 Tryz.isAgg47 rfl (CF.blk 2 rfl rfl)) ?_
    refine HW.take 2 rfl (by kernel_rfl) (by kernel_rfl) (by kernel_rfl) (fun _ _ _ h => h) (.inl rfl) rfl (fun _ h => ((h).erase 2).erase 3) (Yv.nilCheck rfl) ?_
    refine HW.take 3 rfl (by kernel_rfl) (by kernel_rfl) (by kernel_rfl) (fun _ _ _ h => h) (.inl rfl) rfl (fun _ h => ((h).erase 2).erase 3) (Yv.fieldAddr Tryz.underlying106 rfl Tryz.sizeOf104 rfl rfl) ?_
    refine HW.take 5 rfl (by kernel_rfl) (by kernel_rfl) (by kernel_rfl) (fun _ _ _ h => h) (.inl rfl) rfl (fun _ h => ((h).erase 2).erase 3) (Yv.fieldAddr Tryz.underlying79 rfl Tryz.sizeOf3 rfl rfl) ?_
    refine HW.take 6 rfl (by kernel_rfl) (by kernel_rfl) (by kernel_rfl) (fun _ _ _ h => h) (.inl rfl) rfl (fun _ h => ((h).erase 2).erase 3) (Yv.load1 Tryz.isAgg3 rfl (CF.blk 0 rfl rfl)) ?_
    refine HW.take 7 rfl (by kernel_rfl) (by kernel_rfl) (by kernel_rfl) (fun _ _ _ h => h) (.inl rfl) rfl (fun _ h => ((h).erase 2).erase 3) (Yv.fieldAddr Tryz.underlying79 rfl Tryz.sizeOf2 rfl rfl) ?_
    refine HW.take 8 rfl (by kernel_rfl) (by kernel_rfl) (by kernel_rfl) (fun _ _ _ h => h) (.inl rfl) rfl (fun _ h => ((h).erase 2).erase 3) (Yv.load1 Tryz.isAgg2 rfl (CF.blk 0 rfl rfl)) ?_
    refine HW.take 9 rfl (by kernel_rfl) (by kernel_rfl) (by kernel_rfl) (fun _ _ _ h => h) (.inl rfl) rfl (fun _ h => ((h).erase 2).erase 3) (Yv.build rfl (fun w => by exact bld126_0_1 _ _ w)) ?_
    refine HW.take 10 rfl (by kernel_rfl) (by kernel_rfl) (by kernel_rfl) (fun _ _ _ h => h) (.inl rfl) rfl (fun _ h => ((h).erase 2).erase 3) (Yv.fieldAddr Tryz.underlying79 rfl Tryz.sizeOf3 rfl rfl) ?_
    refine HW.take 11 rfl (by kernel_rfl) (by kernel_rfl) (by kernel_rfl) (fun _ _ _ h => h) (.inl rfl) rfl (fun _ h => ((h).erase 2).erase 3) (Yv.load1 Tryz.isAgg3 rfl (CF.blk 0 rfl rfl)) ?_
    refine HW.take 12 rfl (by kernel_rfl) (by kernel_rfl) (by kernel_rfl) (fun _ _ _ h => h) (.inl rfl) rfl (fun _ h => ((h).erase 2).erase 3) (Yv.fieldAddr Tryz.underlying79 rfl Tryz.sizeOf2 rfl rfl) ?_
    refine HW.take 13 rfl (by kernel_rfl) (by kernel_rfl) (by kernel_rfl) (fun _ _ _ h => h) (.inl rfl) rfl (fun _ h => ((h).erase 2).erase 3) (Yv.load1 Tryz.isAgg2 rfl (CF.blk 0 rfl rfl)) ?_
    refine HW.take 14 rfl (by kernel_rfl) (by kernel_rfl) (by kernel_rfl) (fun _ _ _ h => h) (.inl rfl) rfl (fun _ h => ((h).erase 2).erase 3) (Yv.build rfl (fun w => by exact bld126_0_1 _ _ w)) ?_
    refine HW.run2 4 15 (by kernel_rfl) (fun a w hf hs => HW.opp 4 rfl _ (.inl rfl) rfl (Yv.ow (Yv.load1 Tryz.isAgg104 rfl (CF.blk 4 rfl rfl))) (by rintro _ _ ⟨rfl, rfl⟩ w h; exact ((h).erase 2).erase 3) ?_ hf hs) (fun a w hf hs => HW.opp 15 rfl _ (.inl rfl) rfl (Ow.lit (len := 2) (vs := [_, _]) (cs := [_, _, _, _]) Tryz.underlying104 info126 rfl rfl rfl rfl rfl rfl rfl) (by rintro _ _ ⟨b40, rfl, rfl⟩ w h; exact (((h).erase 0).erase 2).erase 3) ?_ hf hs)
    ·
      clear hf hs
      rintro _ _ ⟨rfl, rfl⟩
      refine HW.run 15 rfl (by kernel_rfl) _ (.inl rfl) rfl (Ow.lit (len := 2) (vs := [_, _]) (cs := [_, _, _, _]) Tryz.underlying104 info126 rfl rfl rfl rfl rfl rfl rfl) (by rintro _ _ ⟨b40, rfl, rfl⟩ w h; exact (((h).erase 0).erase 2).erase 3) ?_
      rintro _ _ ⟨b40, rfl, rfl⟩
      refine HW.run 16 rfl (by kernel_rfl) _ (.inl rfl) rfl (Ow.append 3 0 Tryz.underlying104 info126 rfl rfl rfl rfl rfl rfl rfl rfl (by omega) (by omega)) (by rintro v41 _ rfl w h; exact (((h).erase 0).erase 2).erase 3) ?_
      rintro v41 _ rfl
      refine HW.take 17 rfl (by kernel_rfl) (by kernel_rfl) (by kernel_rfl) (fun _ _ _ h => h) (.inl rfl) rfl (fun _ h => (((h).erase 0).erase 2).erase 3) (Yv.nilCheck rfl) ?_
      refine HW.take 18 rfl (by kernel_rfl) (by kernel_rfl) (by kernel_rfl) (fun _ _ _ h => h) (.inl rfl) rfl (fun _ h => (((h).erase 0).erase 2).erase 3) (Yv.fieldAddr Tryz.underlying106 rfl Tryz.sizeOf104 rfl rfl) ?_
      refine HW.facts _ (fun w h => h.row_slice 3 rfl) ?_
      rintro ⟨Aa, ca, rfl⟩
      refine HW.run 19 rfl (by kernel_rfl) _ (.inl rfl) rfl (Ow.store1 5 Tryz.sizeOf104 rfl rfl (rfl) rfl (Nat.le_of_ble_eq_true rfl)) (by rintro _ _ ⟨rfl, rfl⟩ w h; exact (((h).erase 0).erase 2).erase 3) ?_
      rintro _ _ ⟨rfl, rfl⟩
      refine HW.done (by kernel_rfl) ?_
      refine PW.block ?_
      refine PW.go ?_
      refine CW.region ?_
      refine RW.y (.inl rfl) rfl (Yv.add rfl rfl (by omega)) ?_
      refine RW.y (.inl rfl) rfl (Yv.move rfl) ?_
      refine RW.nil ?_
      refine PW.mem _ (fun w h => h.erase 0) ?_
      refine PW.mem _ (fun w h => h.erase 0) ?_
      refine PW.mem _ (fun w h => h.row_eq (m' := 2 * (k + 1)) (xs' := cellsA (arcsOf (l.take (k + 1)))) 1 rfl (by omega) (by rw [take_snoc hx, arcsOf_snoc]; simp [cellsA_append, cellsA])) ?_
      exact PW.next (k + 1, .slice Aa (2 * k + 2) ca) (by show k + 1 ≤ l.length; omega) ⟨rfl, rfl, rfl, rfl, rfl, trivial⟩ (fun w h => h) (by show l.length - (k + 1) < l.length - k; omega)
    ·
      clear hf hs
      rintro _ _ ⟨b40, rfl, rfl⟩
      refine HW.run 4 rfl (by kernel_rfl) _ (.inl rfl) rfl (Yv.ow (Yv.load1 Tryz.isAgg104 rfl (CF.blk 5 rfl rfl))) (by rintro _ _ ⟨rfl, rfl⟩ w h; exact (((h).erase 0).erase 2).erase 3) ?_
      rintro _ _ ⟨rfl, rfl⟩
      refine HW.run 16 rfl (by kernel_rfl) _ (.inl rfl) rfl (Ow.append 3 0 Tryz.underlying104 info126 rfl rfl rfl rfl rfl rfl rfl rfl (by omega) (by omega)) (by rintro v41 _ rfl w h; exact (((h).erase 0).erase 2).erase 3) ?_
      rintro v41 _ rfl
      refine HW.take 17 rfl (by kernel_rfl) (by kernel_rfl) (by kernel_rfl) (fun _ _ _ h => h) (.inl rfl) rfl (fun _ h => (((h).erase 0).erase 2).erase 3) (Yv.nilCheck rfl) ?_
      refine HW.take 18 rfl (by kernel_rfl) (by kernel_rfl) (by kernel_rfl) (fun _ _ _ h => h) (.inl rfl) rfl (fun _ h => (((h).erase 0).erase 2).erase 3) (Yv.fieldAddr Tryz.underlying106 rfl Tryz.sizeOf104 rfl rfl) ?_
      refine HW.facts _ (fun w h => h.row_slice 3 rfl) ?_
      rintro ⟨Aa, ca, rfl⟩
      refine HW.run 19 rfl (by kernel_rfl) _ (.inl rfl) rfl (Ow.store1 5 Tryz.sizeOf104 rfl rfl (rfl) rfl (Nat.le_of_ble_eq_true rfl)) (by rintro _ _ ⟨rfl, rfl⟩ w h; exact (((h).erase 0).erase 2).erase 3) ?_
      rintro _ _ ⟨rfl, rfl⟩
      refine HW.done (by kernel_rfl) ?_
      refine PW.block ?_
      refine PW.go ?_
      refine CW.region ?_
      refine RW.y (.inl rfl) rfl (Yv.add rfl rfl (by omega)) ?_
      refine RW.y (.inl rfl) rfl (Yv.move rfl) ?_
      refine RW.nil ?_
      refine PW.mem _ (fun w h => h.erase 0) ?_
      refine PW.mem _ (fun w h => h.erase 0) ?_
      refine PW.mem _ (fun w h => h.row_eq (m' := 2 * (k + 1)) (xs' := cellsA (arcsOf (l.take (k + 1)))) 1 rfl (by omega) (by rw [take_snoc hx, arcsOf_snoc]; simp [cellsA_append, cellsA])) ?_
      exact PW.next (k + 1, .slice Aa (2 * k + 2) ca) (by show k + 1 ≤ l.length; omega) ⟨rfl, rfl, rfl, rfl, rfl, trivial⟩ (fun w h => h) (by show l.length - (k + 1) < l.length - k; omega)
  ·
    refine CW.exit ?_
    refine PW.then_exit ?_
    refine PW.then_exit ?_
    refine PW.block_exit ?_
    refine PW.go ?_
    refine CW.seq ?_
    refine CW.seq ?_
    refine CW.mem _ (fun w h => h.row_eq (m' := 2 * l.length) (xs' := cellsA (arcsOf l)) 1 rfl (by omega) (by rw [show k = l.length by omega, List.take_length])) ?_
    refine CW.facts _ (fun w h => h.row_slice 1 rfl) ?_
    rintro ⟨Aa, ca, rfl⟩
    refine CW.mem _ (fun w h => h.row_eq (m' := n + 1) (xs' := nats (cntL n ((tlsOf l).take 0))) 4 rfl (rfl) (by rw [List.take_zero, cntL_nil])) ?_
    refine CW.region ?_
    refine RW.y (.inl rfl) rfl (Yv.load1 Tryz.isAgg47 rfl (CF.blk 2 rfl rfl)) ?_
    refine RW.y (.inl rfl) rfl (Yv.nilCheck rfl) ?_
    refine RW.y (.inl rfl) rfl (Yv.fieldAddr Tryz.underlying106 rfl Tryz.sizeOf104 rfl rfl) ?_
    refine RW.y (.inl rfl) rfl (Yv.load1 Tryz.isAgg104 rfl (CF.blk 3 rfl rfl)) ?_
    refine RW.y (.inl rfl) rfl (Yv.lenRow 1 Tryz.underlying104 rfl rfl) ?_
    refine RW.y (.inl rfl) rfl (Yv.move rfl) ?_
    refine RW.nil ?_
    refine PW.go ?_
    refine CW.block ?_
    refine CW.loop (σ := Nat) (fun i => i ≤ 2 * l.length) (fun i => [(0, p), (3, .pointer (some ⟨b3, 0, none⟩)), (49, .int .i64 ((2 * l.length : Nat) : Int)), (50, .int .i64 (i : Nat))]) (fun i => [row (.slice Aa (2 * l.length) ca) 126 2 (2 * l.length) (cellsA (arcsOf l)), blk b3 [.pointer (some ⟨b17, 0, none⟩)] 47, blk b17 [.slice Aa (2 * l.length) ca, .slice (some ⟨b15, 0, none⟩) (n + 1) (n + 1), .slice none 0 0] 106, row (.slice (some ⟨b15, 0, none⟩) (n + 1) (n + 1)) 3 1 (n + 1) (nats (cntL n ((tlsOf l).take i)))]) (fun i => 2 * l.length - i) 0 (by simp) ⟨rfl, rfl, rfl, rfl, trivial⟩ (fun w h => (h).erase 0) ?_
    intro i hi
    refine CW.seq ?_
    refine CW.region ?_
    refine RW.y (.inl rfl) rfl (Yv.lt rfl rfl) ?_
    refine RW.nil ?_
    refine PW.go ?_
    refine CW.seq ?_
    refine CW.condD rfl (fun hc51 => ?_) (fun hc51 => ?_)
    ·
      refine CW.skip ?_
      refine PW.go ?_
      refine CW.seq ?_
      refine CW.block ?_
      refine CW.seq ?_
      have hil : i < 2 * l.length := by omega
      obtain ⟨t, ht, htl, htn⟩ := tls_tail hok hil
      have htl2 := tlsOf_length l
      have htk := List.length_take_le i (tlsOf l)
      have hcl := cntL_length n ((tlsOf l).take i)
      have hcb := cntL_bd n ((tlsOf l).take i) (t + 1)
      refine CW.region ?_
      refine RW.y (.inl rfl) rfl (Yv.move rfl) ?_
      refine RW.y (.inl rfl) rfl (Yv.assign rfl) ?_
      refine RW.nil ?_
      refine PW.go ?_
      refine CW.drawE mixed (fun _ h => (h).erase 3) ?_
      refine HW.take 0 rfl (by kernel_rfl) (by kernel_rfl) (by kernel_rfl) (fun _ _ _ h => h) (.inl rfl) rfl (fun _ h => (h).erase 3) (Yv.load1 Tryz.isAgg47 rfl (CF.blk 1 rfl rfl)) ?_
      refine HW.take 1 rfl (by kernel_rfl) (by kernel_rfl) (by kernel_rfl) (fun _ _ _ h => h) (.inl rfl) rfl (fun _ h => (h).erase 3) (Yv.nilCheck rfl) ?_
      refine HW.take 2 rfl (by kernel_rfl) (by kernel_rfl) (by kernel_rfl) (fun _ _ _ h => h) (.inl rfl) rfl (fun _ h => (h).erase 3) (Yv.fieldAddr Tryz.underlying106 rfl Tryz.sizeOf51 rfl rfl) ?_
      refine HW.take 3 rfl (by kernel_rfl) (by kernel_rfl) (by kernel_rfl) (fun _ _ _ h => h) (.inl rfl) rfl (fun _ h => (h).erase 3) (Yv.load1 Tryz.isAgg51 rfl (CF.blk 2 rfl rfl)) ?_
      refine HW.take 4 rfl (by kernel_rfl) (by kernel_rfl) (by kernel_rfl) (fun _ _ _ h => h) (.inl rfl) rfl (fun _ h => (h).erase 3) (Yv.load1 Tryz.isAgg47 rfl (CF.blk 1 rfl rfl)) ?_
      refine HW.take 5 rfl (by kernel_rfl) (by kernel_rfl) (by kernel_rfl) (fun _ _ _ h => h) (.inl rfl) rfl (fun _ h => (h).erase 3) (Yv.move rfl) ?_
      refine HW.run 6 rfl (by kernel_rfl) _ (.inl rfl) rfl (Ow.call e30 rfl (C.val (fun w hs => hasTailT b17 l (i : Nat) (by omega) t htl _ (HasArcs.of (hs.hold 2 _ rfl) (hs.hold 0 _ rfl) (by omega))))) (by rintro _ _ ⟨rfl, rfl⟩ w h; exact (h).erase 3) ?_
      rintro _ _ ⟨rfl, rfl⟩
      refine HW.take 7 rfl (by kernel_rfl) (by kernel_rfl) (by kernel_rfl) (fun _ _ _ h => h) (.inl rfl) rfl (fun _ h => (h).erase 3) (Yv.add rfl rfl (by omega)) ?_
      refine HW.take 8 rfl (by kernel_rfl) (by kernel_rfl) (by kernel_rfl) (fun _ _ _ h => h) (.inl rfl) rfl (fun _ h => (h).erase 3) (Yv.index0 Tryz.underlying51 Tryz.sizeOf3 rfl rfl (by omega) (by omega)) ?_
      refine HW.run 9 rfl (by kernel_rfl) _ (.inl rfl) rfl (Yv.ow (Yv.load1 Tryz.isAgg3 rfl (CF.row 3 rfl (nats_at (k := t + 1) (by omega) (by omega))))) (by rintro _ _ ⟨rfl, rfl⟩ w h; exact (h).erase 3) ?_
      rintro _ _ ⟨rfl, rfl⟩
      refine HW.take 10 rfl (by kernel_rfl) (by kernel_rfl) (by kernel_rfl) (fun _ _ _ h => h) (.inl rfl) rfl (fun _ h => (h).erase 3) (Yv.add rfl rfl (by omega)) ?_
      refine HW.take 11 rfl (by kernel_rfl) (by kernel_rfl) (by kernel_rfl) (fun _ _ _ h => h) (.inl rfl) rfl (fun _ h => (h).erase 3) (Yv.index0 Tryz.underlying51 Tryz.sizeOf3 rfl rfl (by omega) (by omega)) ?_
      refine HW.run 12 rfl (by kernel_rfl) _ (.inl rfl) rfl (Ow.storeRow 3 Tryz.sizeOf3 rfl rfl (rfl) rfl (by rw [nats_length]; omega)) (by rintro _ _ ⟨rfl, rfl⟩ w h; exact (h).erase 3) ?_
      rintro _ _ ⟨rfl, rfl⟩
      refine HW.done (by kernel_rfl) ?_
      refine PW.block ?_
      refine PW.go ?_
      refine CW.region ?_
      refine RW.y (.inl rfl) rfl (Yv.add rfl rfl (by omega)) ?_
      refine RW.y (.inl rfl) rfl (Yv.move rfl) ?_
      refine RW.nil ?_
      refine PW.mem _ (fun w h => h.row_eq (m' := n + 1) (xs' := nats (cntL n ((tlsOf l).take (i + 1)))) 3 rfl (rfl) (by rw [cntL_succ ht]; exact nats_inc (by omega) (by omega))) ?_
      exact PW.next (i + 1) (by omega) ⟨rfl, rfl, rfl, rfl, trivial⟩ (fun w h => h) (by omega)
    ·
      refine CW.exit ?_
      refine PW.then_exit ?_
      refine PW.then_exit ?_
      refine PW.block_exit ?_
      refine PW.go ?_
      refine CW.seq ?_
      refine CW.seq ?_
      refine CW.mem _ (fun w h => h.row_eq (m' := n + 1) (xs' := nats (preL n (tlsOf l) 0)) 3 rfl (rfl) (by rw [preL_zero, List.take_of_length_le (by rw [tlsOf_length]; omega)])) ?_
      refine CW.region ?_
      refine RW.y (.inl rfl) rfl (Yv.move rfl) ?_
      refine RW.o _ (.inl rfl) rfl (Ow.call e61 rfl (C.val (fun w hs => hN _ hs.mod.below))) ?_
      rintro _ _ ⟨rfl, rfl⟩
      refine RW.y (.inl rfl) rfl (Yv.move rfl) ?_
      refine RW.nil ?_
      refine PW.go ?_
      refine CW.block ?_
      refine CW.loop (σ := Nat) (fun v => v ≤ n) (fun v => [(0, p), (3, .pointer (some ⟨b3, 0, none⟩)), (67, .int .i64 n), (68, .int .i64 (v : Nat))]) (fun v => [row (.slice Aa (2 * l.length) ca) 126 2 (2 * l.length) (cellsA (arcsOf l)), blk b3 [.pointer (some ⟨b17, 0, none⟩)] 47, blk b17 [.slice Aa (2 * l.length) ca, .slice (some ⟨b15, 0, none⟩) (n + 1) (n + 1), .slice none 0 0] 106, row (.slice (some ⟨b15, 0, none⟩) (n + 1) (n + 1)) 3 1 (n + 1) (nats (preL n (tlsOf l) v))]) (fun v => n - v) 0 (by simp) ⟨rfl, rfl, rfl, rfl, trivial⟩ (fun w h => h) ?_
      intro v hv
      refine CW.seq ?_
      refine CW.region ?_
      refine RW.y (.inl rfl) rfl (Yv.lt rfl rfl) ?_
      refine RW.nil ?_
      refine PW.go ?_
      refine CW.seq ?_
      refine CW.condD rfl (fun hc69 => ?_) (fun hc69 => ?_)
      ·
        refine CW.skip ?_
        refine PW.go ?_
        refine CW.seq ?_
        refine CW.block ?_
        refine CW.seq ?_
        have hvn : v < n := by omega
        have htl2 := tlsOf_length l
        have hpl := preL_length n (tlsOf l) v
        have hb1 := preL_bd n (tlsOf l) v (v + 1)
        have hb2 := preL_bd n (tlsOf l) v v
        refine CW.region ?_
        refine RW.y (.inl rfl) rfl (Yv.move rfl) ?_
        refine RW.y (.inl rfl) rfl (Yv.assign rfl) ?_
        refine RW.nil ?_
        refine PW.go ?_
        refine CW.drawE mixed (fun _ h => (h).erase 3) ?_
        refine HW.take 0 rfl (by kernel_rfl) (by kernel_rfl) (by kernel_rfl) (fun _ _ _ h => h) (.inl rfl) rfl (fun _ h => (h).erase 3) (Yv.load1 Tryz.isAgg47 rfl (CF.blk 1 rfl rfl)) ?_
        refine HW.take 1 rfl (by kernel_rfl) (by kernel_rfl) (by kernel_rfl) (fun _ _ _ h => h) (.inl rfl) rfl (fun _ h => (h).erase 3) (Yv.nilCheck rfl) ?_
        refine HW.take 2 rfl (by kernel_rfl) (by kernel_rfl) (by kernel_rfl) (fun _ _ _ h => h) (.inl rfl) rfl (fun _ h => (h).erase 3) (Yv.fieldAddr Tryz.underlying106 rfl Tryz.sizeOf51 rfl rfl) ?_
        refine HW.take 3 rfl (by kernel_rfl) (by kernel_rfl) (by kernel_rfl) (fun _ _ _ h => h) (.inl rfl) rfl (fun _ h => (h).erase 3) (Yv.load1 Tryz.isAgg51 rfl (CF.blk 2 rfl rfl)) ?_
        refine HW.take 4 rfl (by kernel_rfl) (by kernel_rfl) (by kernel_rfl) (fun _ _ _ h => h) (.inl rfl) rfl (fun _ h => (h).erase 3) (Yv.move rfl) ?_
        refine HW.take 5 rfl (by kernel_rfl) (by kernel_rfl) (by kernel_rfl) (fun _ _ _ h => h) (.inl rfl) rfl (fun _ h => (h).erase 3) (Yv.add rfl rfl (by omega)) ?_
        refine HW.take 6 rfl (by kernel_rfl) (by kernel_rfl) (by kernel_rfl) (fun _ _ _ h => h) (.inl rfl) rfl (fun _ h => (h).erase 3) (Yv.index0 Tryz.underlying51 Tryz.sizeOf3 rfl rfl (by omega) (by omega)) ?_
        refine HW.take 8 rfl (by kernel_rfl) (by kernel_rfl) (by kernel_rfl) (fun _ _ _ h => h) (.inl rfl) rfl (fun _ h => (h).erase 3) (Yv.load1 Tryz.isAgg47 rfl (CF.blk 1 rfl rfl)) ?_
        refine HW.take 9 rfl (by kernel_rfl) (by kernel_rfl) (by kernel_rfl) (fun _ _ _ h => h) (.inl rfl) rfl (fun _ h => (h).erase 3) (Yv.nilCheck rfl) ?_
        refine HW.take 10 rfl (by kernel_rfl) (by kernel_rfl) (by kernel_rfl) (fun _ _ _ h => h) (.inl rfl) rfl (fun _ h => (h).erase 3) (Yv.fieldAddr Tryz.underlying106 rfl Tryz.sizeOf51 rfl rfl) ?_
        refine HW.take 11 rfl (by kernel_rfl) (by kernel_rfl) (by kernel_rfl) (fun _ _ _ h => h) (.inl rfl) rfl (fun _ h => (h).erase 3) (Yv.load1 Tryz.isAgg51 rfl (CF.blk 2 rfl rfl)) ?_
        refine HW.take 12 rfl (by kernel_rfl) (by kernel_rfl) (by kernel_rfl) (fun _ _ _ h => h) (.inl rfl) rfl (fun _ h => (h).erase 3) (Yv.move rfl) ?_
        refine HW.take 13 rfl (by kernel_rfl) (by kernel_rfl) (by kernel_rfl) (fun _ _ _ h => h) (.inl rfl) rfl (fun _ h => (h).erase 3) (Yv.index0 Tryz.underlying51 Tryz.sizeOf3 rfl rfl (by omega) (by omega)) ?_
        refine HW.run2 7 14 (by kernel_rfl) (fun a w hf hs => HW.opp 7 rfl _ (.inl rfl) rfl (Yv.ow (Yv.load1 Tryz.isAgg3 rfl (CF.row 3 rfl (nats_at (k := v + 1) (by omega) (by omega))))) (by rintro _ _ ⟨rfl, rfl⟩ w h; exact (h).erase 3) ?_ hf hs) (fun a w hf hs => HW.opp 14 rfl _ (.inl rfl) rfl (Yv.ow (Yv.load1 Tryz.isAgg3 rfl (CF.row 3 rfl (nats_at (k := v) (by omega) (by omega))))) (by rintro _ _ ⟨rfl, rfl⟩ w h; exact (h).erase 3) ?_ hf hs)
        ·
          clear hf hs
          rintro _ _ ⟨rfl, rfl⟩
          refine HW.run 14 rfl (by kernel_rfl) _ (.inl rfl) rfl (Yv.ow (Yv.load1 Tryz.isAgg3 rfl (CF.row 3 rfl (nats_at (k := v) (by omega) (by omega))))) (by rintro _ _ ⟨rfl, rfl⟩ w h; exact (h).erase 3) ?_
          rintro _ _ ⟨rfl, rfl⟩
          refine HW.take 15 rfl (by kernel_rfl) (by kernel_rfl) (by kernel_rfl) (fun _ _ _ h => h) (.inl rfl) rfl (fun _ h => (h).erase 3) (Yv.add rfl rfl (by omega)) ?_
          refine HW.take 16 rfl (by kernel_rfl) (by kernel_rfl) (by kernel_rfl) (fun _ _ _ h => h) (.inl rfl) rfl (fun _ h => (h).erase 3) (Yv.index0 Tryz.underlying51 Tryz.sizeOf3 rfl rfl (by omega) (by omega)) ?_
          refine HW.run 17 rfl (by kernel_rfl) _ (.inl rfl) rfl (Ow.storeRow 3 Tryz.sizeOf3 rfl rfl (rfl) rfl (by rw [nats_length]; omega)) (by rintro _ _ ⟨rfl, rfl⟩ w h; exact (h).erase 3) ?_
          rintro _ _ ⟨rfl, rfl⟩
          refine HW.done (by kernel_rfl) ?_
          refine PW.block ?_
          refine PW.go ?_
          refine CW.region ?_
          refine RW.y (.inl rfl) rfl (Yv.add rfl rfl (by omega)) ?_
          refine RW.y (.inl rfl) rfl (Yv.move rfl) ?_
          refine RW.nil ?_
          refine PW.mem _ (fun w h => h.row_eq (m' := n + 1) (xs' := nats (preL n (tlsOf l) (v + 1))) 3 rfl (rfl) (by rw [preL_succ hvn]; exact nats_inc (by omega) (by omega))) ?_
          exact PW.next (v + 1) (by omega) ⟨rfl, rfl, rfl, rfl, trivial⟩ (fun w h => h) (by omega)
        ·
          clear hf hs
          rintro _ _ ⟨rfl, rfl⟩
          refine HW.run 7 rfl (by kernel_rfl) _ (.inl rfl) rfl (Yv.ow (Yv.load1 Tryz.isAgg3 rfl (CF.row 3 rfl (nats_at (k := v + 1) (by omega) (by omega))))) (by rintro _ _ ⟨rfl, rfl⟩ w h; exact (h).erase 3) ?_
          rintro _ _ ⟨rfl, rfl⟩
          refine HW.take 15 rfl (by kernel_rfl) (by kernel_rfl) (by kernel_rfl) (fun _ _ _ h => h) (.inl rfl) rfl (fun _ h => (h).erase 3) (Yv.add rfl rfl (by omega)) ?_
          refine HW.take 16 rfl (by kernel_rfl) (by kernel_rfl) (by kernel_rfl) (fun _ _ _ h => h) (.inl rfl) rfl (fun _ h => (h).erase 3) (Yv.index0 Tryz.underlying51 Tryz.sizeOf3 rfl rfl (by omega) (by omega)) ?_
          refine HW.run 17 rfl (by kernel_rfl) _ (.inl rfl) rfl (Ow.storeRow 3 Tryz.sizeOf3 rfl rfl (rfl) rfl (by rw [nats_length]; omega)) (by rintro _ _ ⟨rfl, rfl⟩ w h; exact (h).erase 3) ?_
          rintro _ _ ⟨rfl, rfl⟩
          refine HW.done (by kernel_rfl) ?_
          refine PW.block ?_
          refine PW.go ?_
          refine CW.region ?_
          refine RW.y (.inl rfl) rfl (Yv.add rfl rfl (by omega)) ?_
          refine RW.y (.inl rfl) rfl (Yv.move rfl) ?_
          refine RW.nil ?_
          refine PW.mem _ (fun w h => h.row_eq (m' := n + 1) (xs' := nats (preL n (tlsOf l) (v + 1))) 3 rfl (rfl) (by rw [preL_succ hvn]; exact nats_inc (by omega) (by omega))) ?_
          exact PW.next (v + 1) (by omega) ⟨rfl, rfl, rfl, rfl, trivial⟩ (fun w h => h) (by omega)
      ·
        refine CW.exit ?_
        refine PW.then_exit ?_
        refine PW.then_exit ?_
        refine PW.block_exit ?_
        refine PW.go ?_
        refine CW.seq ?_
        refine CW.mem _ (fun w h => h.row_eq (m' := n + 1) (xs' := nats (frL n (tlsOf l))) 3 rfl (rfl) (by rw [show v = n by omega, preL_all])) ?_
        have hfl := frL_length n (tlsOf l)
        refine CW.drawE mixed (fun _ h => (h).erase 2) ?_
        refine HW.take 0 rfl (by kernel_rfl) (by kernel_rfl) (by kernel_rfl) (fun _ _ _ h => h) (.inl rfl) rfl (fun _ h => (h).erase 2) (Yv.load1 Tryz.isAgg47 rfl (CF.blk 1 rfl rfl)) ?_
        refine HW.take 1 rfl (by kernel_rfl) (by kernel_rfl) (by kernel_rfl) (fun _ _ _ h => h) (.inl rfl) rfl (fun _ h => (h).erase 2) (Yv.load1 Tryz.isAgg47 rfl (CF.blk 1 rfl rfl)) ?_
        refine HW.take 2 rfl (by kernel_rfl) (by kernel_rfl) (by kernel_rfl) (fun _ _ _ h => h) (.inl rfl) rfl (fun _ h => (h).erase 2) (Yv.nilCheck rfl) ?_
        refine HW.take 3 rfl (by kernel_rfl) (by kernel_rfl) (by kernel_rfl) (fun _ _ _ h => h) (.inl rfl) rfl (fun _ h => (h).erase 2) (Yv.fieldAddr Tryz.underlying106 rfl Tryz.sizeOf104 rfl rfl) ?_
        refine HW.run 4 rfl (by kernel_rfl) _ (.inl rfl) rfl (Yv.ow (Yv.load1 Tryz.isAgg104 rfl (CF.blk 2 rfl rfl))) (by rintro _ _ ⟨rfl, rfl⟩ w h; exact (h).erase 2) ?_
        rintro _ _ ⟨rfl, rfl⟩
        refine HW.take 5 rfl (by kernel_rfl) (by kernel_rfl) (by kernel_rfl) (fun _ _ _ h => h) (.inl rfl) rfl (fun _ h => (h).erase 2) (Yv.lenRow 0 Tryz.underlying104 rfl rfl) ?_
        refine HW.run 6 rfl (by kernel_rfl) _ (.inl rfl) rfl (Ow.make (m := 2 * l.length) Tryz.underlying51 info3 rfl rfl rfl (by omega) (by omega) (by omega) (by omega)) (by rintro _ _ ⟨b95, rfl, rfl⟩ w h; exact ((h).erase 0).erase 2) ?_
        rintro _ _ ⟨b95, rfl, rfl⟩
        refine HW.take 7 rfl (by kernel_rfl) (by kernel_rfl) (by kernel_rfl) (fun _ _ _ h => h) (.inl rfl) rfl (fun _ h => ((h).erase 0).erase 2) (Yv.nilCheck rfl) ?_
        refine HW.take 8 rfl (by kernel_rfl) (by kernel_rfl) (by kernel_rfl) (fun _ _ _ h => h) (.inl rfl) rfl (fun _ h => ((h).erase 0).erase 2) (Yv.fieldAddr Tryz.underlying106 rfl Tryz.sizeOf51 rfl rfl) ?_
        refine HW.run 9 rfl (by kernel_rfl) _ (.inl rfl) rfl (Ow.store1 3 Tryz.sizeOf51 rfl rfl (rfl) rfl (Nat.le_of_ble_eq_true rfl)) (by rintro _ _ ⟨rfl, rfl⟩ w h; exact ((h).erase 0).erase 2) ?_
        rintro _ _ ⟨rfl, rfl⟩
        refine HW.done (by kernel_rfl) ?_
        refine PW.go ?_
        refine CW.seq ?_
        refine CW.region ?_
        refine RW.y (.inl rfl) rfl (Yv.load1 Tryz.isAgg47 rfl (CF.blk 2 rfl rfl)) ?_
        refine RW.y (.inl rfl) rfl (Yv.nilCheck rfl) ?_
        refine RW.y (.inl rfl) rfl (Yv.fieldAddr Tryz.underlying106 rfl Tryz.sizeOf51 rfl rfl) ?_
        refine RW.y (.inl rfl) rfl (Yv.load1 Tryz.isAgg51 rfl (CF.blk 3 rfl rfl)) ?_
        refine RW.o _ (.inl rfl) rfl (Ow.call e88 rfl (C.new (val := id) (φ := fun _ => True) (Ψ := fun v => row v 3 1 (n + 1) (nats (frL n (tlsOf l)))) (fun w2 hs => (cloneI (some ⟨b15, 0, none⟩) (n + 1) (n + 1) (nats (frL n (tlsOf l))) w2 (hs.row_Rd 4 rfl (by omega)) (nats_one _) (fun h => by cases h) (by omega)).mono (fun e w3 ⟨v, hv, hb, F, hF, hk⟩ => ⟨v, trivial, hv, hb, F, hF, hk⟩)))) ?_
        rintro _ _ ⟨vnext, -, rfl, rfl⟩
        refine RW.facts _ (fun w h => h.row_slice 0 rfl) ?_
        rintro ⟨An, cn, rfl⟩
        refine RW.facts _ (fun w h => h.row_some 0 rfl (by omega)) ?_
        rintro ⟨bn, rfl⟩
        refine RW.y (.inl rfl) rfl (Yv.assign rfl) ?_
        refine RW.nil ?_
        refine PW.go ?_
        refine CW.seq ?_
        refine CW.seq ?_
        refine CW.mem _ (fun w h => h.row_eq (m' := n + 1) (xs' := nats (nxtL n (tlsOf l) 0)) 0 rfl (rfl) (by rw [nxtL_zero])) ?_
        refine CW.mem _ (fun w h => h.row_eq (m' := 2 * l.length) (xs' := i64s (List.replicate (tlsOf l).length 0)) 1 rfl (rfl) (by rw [tlsOf_length]; simp [i64s])) ?_
        refine CW.region ?_
        refine RW.y (.inl rfl) rfl (Yv.load1 Tryz.isAgg47 rfl (CF.blk 3 rfl rfl)) ?_
        refine RW.y (.inl rfl) rfl (Yv.nilCheck rfl) ?_
        refine RW.y (.inl rfl) rfl (Yv.fieldAddr Tryz.underlying106 rfl Tryz.sizeOf104 rfl rfl) ?_
        refine RW.y (.inl rfl) rfl (Yv.load1 Tryz.isAgg104 rfl (CF.blk 4 rfl rfl)) ?_
        refine RW.y (.inl rfl) rfl (Yv.lenRow 2 Tryz.underlying104 rfl rfl) ?_
        refine RW.y (.inl rfl) rfl (Yv.move rfl) ?_
        refine RW.nil ?_
        refine PW.go ?_
        refine CW.block ?_
        refine CW.loop (σ := Nat × List Int) (fun s => s.1 ≤ 2 * l.length ∧ OutOk (tlsOf l) s.1 s.2) (fun s => [(0, p), (3, .pointer (some ⟨b3, 0, none⟩)), (8, .slice (some ⟨bn, 0, none⟩) (n + 1) cn), (107, .int .i64 ((2 * l.length : Nat) : Int)), (108, .int .i64 (s.1 : Nat))]) (fun s => [row (.slice (some ⟨bn, 0, none⟩) (n + 1) cn) 3 1 (n + 1) (nats (nxtL n (tlsOf l) s.1)), row (.slice (some ⟨b95, 0, none⟩) (2 * l.length) (2 * l.length)) 3 1 (2 * l.length) (i64s s.2), row (.slice Aa (2 * l.length) ca) 126 2 (2 * l.length) (cellsA (arcsOf l)), blk b3 [.pointer (some ⟨b17, 0, none⟩)] 47, blk b17 [.slice Aa (2 * l.length) ca, .slice (some ⟨b15, 0, none⟩) (n + 1) (n + 1), .slice (some ⟨b95, 0, none⟩) (2 * l.length) (2 * l.length)] 106, row (.slice (some ⟨b15, 0, none⟩) (n + 1) (n + 1)) 3 1 (n + 1) (nats (frL n (tlsOf l)))]) (fun s => 2 * l.length - s.1) (0, List.replicate (tlsOf l).length 0) (⟨by simp, OutOk.zero _⟩) ⟨rfl, rfl, rfl, rfl, rfl, trivial⟩ (fun w h => h) ?_
        rintro ⟨i, out⟩ ⟨hi, hout⟩
        (try dsimp only at *)
        refine CW.seq ?_
        refine CW.region ?_
        refine RW.y (.inl rfl) rfl (Yv.lt rfl rfl) ?_
        refine RW.nil ?_
        refine PW.go ?_
        refine CW.seq ?_
        refine CW.condD rfl (fun hc109 => ?_) (fun hc109 => ?_)
        ·
          refine CW.skip ?_
          refine PW.go ?_
          refine CW.seq ?_
          refine CW.block ?_
          refine CW.seq ?_
          have hil : i < 2 * l.length := by omega
          obtain ⟨t, ht, htl, htn⟩ := tls_tail hok hil
          have htl2 := tlsOf_length l
          have htk := List.length_take_le i (tlsOf l)
          have hnl := nxtL_length n (tlsOf l) i
          have hng := nxtL_get (n := n) ht (by omega)
          have hpl := posC_lt ht
          have hol := hout.len
          refine CW.region ?_
          refine RW.y (.inl rfl) rfl (Yv.move rfl) ?_
          refine RW.y (.inl rfl) rfl (Yv.assign rfl) ?_
          refine RW.nil ?_
          refine PW.go ?_
          refine CW.seq ?_
          refine CW.region ?_
          refine RW.y (.inl rfl) rfl (Yv.load1 Tryz.isAgg47 rfl (CF.blk 3 rfl rfl)) ?_
          refine RW.y (.inl rfl) rfl (Yv.move rfl) ?_
          refine RW.o _ (.inl rfl) rfl (Ow.call e30 rfl (C.val (fun w hs => hasTailT b17 l (i : Nat) (by omega) t htl _ (HasArcs.of (hs.hold 4 _ rfl) (hs.hold 2 _ rfl) (by omega))))) ?_
          rintro _ _ ⟨rfl, rfl⟩
          refine RW.y (.inl rfl) rfl (Yv.assign rfl) ?_
          refine RW.nil ?_
          refine PW.go ?_
          refine CW.seq ?_
          refine CW.drawE mixed (fun _ h => (h).erase 1) ?_
          refine HW.take 0 rfl (by kernel_rfl) (by kernel_rfl) (by kernel_rfl) (fun _ _ _ h => h) (.inl rfl) rfl (fun _ h => (h).erase 1) (Yv.load1 Tryz.isAgg47 rfl (CF.blk 2 rfl rfl)) ?_
          refine HW.take 1 rfl (by kernel_rfl) (by kernel_rfl) (by kernel_rfl) (fun _ _ _ h => h) (.inl rfl) rfl (fun _ h => (h).erase 1) (Yv.nilCheck rfl) ?_
          refine HW.take 2 rfl (by kernel_rfl) (by kernel_rfl) (by kernel_rfl) (fun _ _ _ h => h) (.inl rfl) rfl (fun _ h => (h).erase 1) (Yv.fieldAddr Tryz.underlying106 rfl Tryz.sizeOf51 rfl rfl) ?_
          refine HW.take 3 rfl (by kernel_rfl) (by kernel_rfl) (by kernel_rfl) (fun _ _ _ h => h) (.inl rfl) rfl (fun _ h => (h).erase 1) (Yv.load1 Tryz.isAgg51 rfl (CF.blk 3 rfl rfl)) ?_
          refine HW.take 4 rfl (by kernel_rfl) (by kernel_rfl) (by kernel_rfl) (fun _ _ _ h => h) (.inl rfl) rfl (fun _ h => (h).erase 1) (Yv.move rfl) ?_
          refine HW.take 5 rfl (by kernel_rfl) (by kernel_rfl) (by kernel_rfl) (fun _ _ _ h => h) (.inl rfl) rfl (fun _ h => (h).erase 1) (Yv.move rfl) ?_
          refine HW.take 6 rfl (by kernel_rfl) (by kernel_rfl) (by kernel_rfl) (fun _ _ _ h => h) (.inl rfl) rfl (fun _ h => (h).erase 1) (Yv.index0 Tryz.underlying51 Tryz.sizeOf3 rfl rfl (by omega) (by omega)) ?_
          refine HW.take 7 rfl (by kernel_rfl) (by kernel_rfl) (by kernel_rfl) (fun _ _ _ h => h) (.inl rfl) rfl (fun _ h => (h).erase 1) (Yv.load1 Tryz.isAgg3 rfl (CF.row 0 rfl (nats_at (k := t) (by omega) (by omega)))) ?_
          refine HW.take 8 rfl (by kernel_rfl) (by kernel_rfl) (by kernel_rfl) (fun _ _ _ h => h) (.inl rfl) rfl (fun _ h => (h).erase 1) (Yv.move rfl) ?_
          refine HW.take 9 rfl (by kernel_rfl) (by kernel_rfl) (by kernel_rfl) (fun _ _ _ h => h) (.inl rfl) rfl (fun _ h => (h).erase 1) (Yv.index0 Tryz.underlying51 Tryz.sizeOf3 rfl rfl (by omega) (by omega)) ?_
          refine HW.run 10 rfl (by kernel_rfl) _ (.inl rfl) rfl (Ow.storeRow 1 Tryz.sizeOf3 rfl rfl (rfl) rfl (by rw [i64s_length]; omega)) (by rintro _ _ ⟨rfl, rfl⟩ w h; exact (h).erase 1) ?_
          rintro _ _ ⟨rfl, rfl⟩
          refine HW.done (by kernel_rfl) ?_
          refine PW.go ?_
          refine CW.region ?_
          refine RW.y (.inl rfl) rfl (Yv.move rfl) ?_
          refine RW.y (.inl rfl) rfl (Yv.move rfl) ?_
          refine RW.y (.inl rfl) rfl (Yv.index0 Tryz.underlying51 Tryz.sizeOf3 rfl rfl (by omega) (by omega)) ?_
          refine RW.y (.inl rfl) rfl (Yv.load1 Tryz.isAgg3 rfl (CF.row 0 rfl (nats_at (k := t) (by omega) (by omega)))) ?_
          refine RW.y (.inl rfl) rfl (Yv.add rfl rfl (by omega)) ?_
          refine RW.y (.inl rfl) rfl (Yv.index0 Tryz.underlying51 Tryz.sizeOf3 rfl rfl (by omega) (by omega)) ?_
          refine RW.o _ (.inl rfl) rfl (Ow.storeRow 0 Tryz.sizeOf3 rfl rfl (rfl) rfl (by rw [nats_length]; omega)) ?_
          rintro _ _ ⟨rfl, rfl⟩
          refine RW.nil ?_
          refine PW.block ?_
          refine PW.go ?_
          refine CW.region ?_
          refine RW.y (.inl rfl) rfl (Yv.add rfl rfl (by omega)) ?_
          refine RW.y (.inl rfl) rfl (Yv.move rfl) ?_
          refine RW.nil ?_
          refine PW.mem _ (fun w h => h.row_eq (m' := n + 1) (xs' := nats (nxtL n (tlsOf l) (i + 1))) 0 rfl (rfl) (by rw [nxtL_succ ht]; exact nats_inc (by omega) (by omega))) ?_
          refine PW.mem _ (fun w h => h.row_eq (m' := 2 * l.length) (xs' := i64s (out.set (posC (tlsOf l) i) (i : Int))) 1 rfl (rfl) (by rw [hng]; simp [i64s, List.map_set])) ?_
          exact PW.next ((i + 1, out.set (posC (tlsOf l) i) (i : Int))) (⟨by show i + 1 ≤ 2 * l.length; omega, hout.succ ht⟩) ⟨rfl, rfl, rfl, rfl, rfl, trivial⟩ (fun w h => h) (by show 2 * l.length - (i + 1) < 2 * l.length - i; omega)
        ·
          refine CW.exit ?_
          refine PW.then_exit ?_
          refine PW.then_exit ?_
          refine PW.block_exit ?_
          refine PW.go ?_
          refine CW.seq ?_
          refine CW.seq ?_
          have hseg : SegOk n l 0 out := SegOk.zero (by rw [tlsOf_length, ← show i = 2 * l.length by omega]; exact hout)
          refine CW.region ?_
          refine RW.y (.inl rfl) rfl (Yv.move rfl) ?_
          refine RW.o _ (.inl rfl) rfl (Ow.call e61 rfl (C.val (fun w hs => hN _ hs.mod.below))) ?_
          rintro _ _ ⟨rfl, rfl⟩
          refine RW.y (.inl rfl) rfl (Yv.move rfl) ?_
          refine RW.nil ?_
          refine PW.go ?_
          refine CW.block ?_
          refine CW.loop (σ := Nat × List Int) (fun s => s.1 ≤ n ∧ SegOk n l s.1 s.2) (fun s => [(3, .pointer (some ⟨b3, 0, none⟩)), (132, .int .i64 n), (133, .int .i64 (s.1 : Nat))]) (fun s => [row (.slice (some ⟨b95, 0, none⟩) (2 * l.length) (2 * l.length)) 3 1 (2 * l.length) (i64s s.2), row (.slice Aa (2 * l.length) ca) 126 2 (2 * l.length) (cellsA (arcsOf l)), blk b3 [.pointer (some ⟨b17, 0, none⟩)] 47, blk b17 [.slice Aa (2 * l.length) ca, .slice (some ⟨b15, 0, none⟩) (n + 1) (n + 1), .slice (some ⟨b95, 0, none⟩) (2 * l.length) (2 * l.length)] 106, row (.slice (some ⟨b15, 0, none⟩) (n + 1) (n + 1)) 3 1 (n + 1) (nats (frL n (tlsOf l)))]) (fun s => n - s.1) (0, out) (⟨by simp, hseg⟩) ⟨rfl, rfl, rfl, trivial⟩ (fun w h => (h).erase 0) ?_
          rintro ⟨v, out⟩ ⟨hv, hseg⟩
          (try dsimp only at *)
          refine CW.seq ?_
          refine CW.region ?_
          refine RW.y (.inl rfl) rfl (Yv.lt rfl rfl) ?_
          refine RW.nil ?_
          refine PW.go ?_
          refine CW.seq ?_
          refine CW.condD rfl (fun hc134 => ?_) (fun hc134 => ?_)
          ·
            refine CW.skip ?_
            refine PW.go ?_
            refine CW.seq ?_
            refine CW.block ?_
            refine CW.seq ?_
            have hvn : v < n := by omega
            have htl2 := tlsOf_length l
            have hf1 := frL_get (n := n) (v := v) (tlsOf l) (by omega)
            have hf2 := frL_get (n := n) (v := v + 1) (tlsOf l) (by omega)
            have hps := preC_succ (tlsOf l) v
            have hpe := preC_le (tlsOf l) (v + 1)
            have hbl := bkt_length (tlsOf l) v
            have hsv := hseg.seg v hvn
            rw [if_neg (by omega)] at hsv
            have hol := hseg.len
            have hfl := frL_length n (tlsOf l)
            have hK : (frL n (tlsOf l)).getD (v + 1) 0 - (frL n (tlsOf l)).getD v 0 = (bkt (tlsOf l) v).length := by omega
            refine CW.region ?_
            refine RW.y (.inl rfl) rfl (Yv.move rfl) ?_
            refine RW.y (.inl rfl) rfl (Yv.assign rfl) ?_
            refine RW.nil ?_
            refine PW.go ?_
            refine CW.region ?_
            refine RW.y (.inl rfl) rfl (Yv.load1 Tryz.isAgg47 rfl (CF.blk 2 rfl rfl)) ?_
            refine RW.y (.inl rfl) rfl (Yv.move rfl) ?_
            refine RW.o _ (.inl rfl) rfl (Ow.call e90 rfl (C.ex (fun w2 hs => csrOf b17 b95 (2 * l.length) (2 * l.length) n _ (some ⟨b15, 0, none⟩) (n + 1) (frL n (tlsOf l)) v w2 (blk_at (hs.hold 3 _ rfl)) (hs.row_Rd 4 rfl (by omega)) hvn (by omega) (by omega) hn))) ?_
            rintro _ _ ⟨A, hA2, rfl, rfl⟩
            rw [hK]
            refine RW.y (.inl rfl) rfl (Yv.makeFunc rfl) ?_
            refine RW.o _ (.inl rfl) rfl (Ow.call e89 rfl (C.mut0 (val := fun _ : List Int => .tuple #[]) (Ψ := fun l' => row (.slice (some ⟨b95, 0, none⟩) (2 * l.length) (2 * l.length)) 3 1 (2 * l.length) (i64s (putL out l' (preC (tlsOf l) v)))) (φ := fun l' => l'.Perm (bkt (tlsOf l) v) ∧ l'.Pairwise (fun x y => ¬ cmpI (headOf l y) (headOf l x) < 0)) (fun w2 F2 h2 h3 h4 => sortSeg A b95 (2 * l.length) (2 * l.length) (preC (tlsOf l) v) _ b3 b17 out (bkt (tlsOf l) v) l w2 F2 h2 (fun h => by rw [hA2 (by omega), hf1]) (fun j x hj => by rw [← hsv] at hj; exact seg_sub hj) (by omega) (fun x hx => by have := (mem_bkt hok v x).1 hx; omega) (by omega) (fun W hM => ⟨blk_at (h4 W hM 1 _ rfl), HasArcs.of (h4 W hM 2 _ rfl) (h4 W hM 0 _ rfl) (by omega)⟩)))) ?_
            rintro _ _ ⟨l', ⟨hp1, hp2⟩, rfl, rfl⟩
            refine RW.nil ?_
            refine PW.block ?_
            refine PW.go ?_
            refine CW.region ?_
            refine RW.y (.inl rfl) rfl (Yv.add rfl rfl (by omega)) ?_
            refine RW.y (.inl rfl) rfl (Yv.move rfl) ?_
            refine RW.nil ?_
            exact PW.next (v + 1, putL out l' (preC (tlsOf l) v)) (⟨by show v + 1 ≤ n; omega, hseg.succ hok hvn hp1 hp2⟩) ⟨rfl, rfl, rfl, trivial⟩ (fun w h => h) (by show n - (v + 1) < n - v; omega)
          ·
            refine CW.exit ?_
            refine PW.then_exit ?_
            refine PW.then_exit ?_
            refine PW.block_exit ?_
            refine PW.go ?_
            refine CW.seq ?_
            refine CW.region ?_
            refine RW.y (.inl rfl) rfl (Yv.load1 Tryz.isAgg47 rfl (CF.blk 2 rfl rfl)) ?_
            refine RW.y (.inl rfl) rfl (Yv.assign rfl) ?_
            refine RW.nil ?_
            refine PW.go ?_
            refine CW.ret ?_
            refine PW.ret1 Tryz.results41 rfl (fun w1 hs => ?_)
            have hvn : v = n := by omega
            subst hvn
            obtain ⟨F, hF1, hF2⟩ := hs.outNow (fun w' => IsArcs w' b17 (csrD v l out)) (fun w' hh => isArcs_hold hok hseg.len hh)
            exact ⟨(b17, out), fun u hu => hseg.of hu, rfl, hs.mod.below, F, hF1, hF2⟩

end Go.Proofs.YtipoblpnkkcpgaaGreat
