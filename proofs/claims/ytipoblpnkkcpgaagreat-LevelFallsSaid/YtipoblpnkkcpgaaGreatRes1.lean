/- Walks, written by a program of this session (gen.py) out of a spec. -/
import Derived.Test.YtipoblpnkkcpgaaGreatRchP
import Derived.Test.YtipoblpnkkcpgaaGreatRes0
import Derived.Test.YtipoblpnkkcpgaaGreatSort
set_option linter.unusedVariables false
set_option linter.unusedSimpArgs false
namespace Go.Proofs.YtipoblpnkkcpgaaGreat
open Go Go.RowKit Go.Proofs.YtipoblpnkkcpgaaGreat.B

theorem outOf_length2 (l : List Edg) (v : Int) : ∀ u, (outOf u l v).length ≤ u * (2 * l.length)
  | 0 => by simp [outOf]
  | u + 1 => by
    have h : outOf (u + 1) l v = outOf u l v ++ ((List.range (2 * l.length)).filter fun (i : Nat) => decide (0 ≤ v ∧ tailOf l (i : Int) = v ∧ headOf l (i : Int) = (u : Int))).map (fun (i : Nat) => (i : Int)) := by
      unfold outOf; rw [List.range_succ, List.flatMap_append]; simp
    rw [h, List.length_append, List.length_map]
    have h1 := outOf_length2 l v u
    have h2 := List.length_filter_le (fun (i : Nat) => decide (0 ≤ v ∧ tailOf l (i : Int) = v ∧ headOf l (i : Int) = (u : Int))) (List.range (2 * l.length))
    rw [List.length_range] at h2
    have := Nat.succ_mul u (2 * l.length)
    rw [Nat.succ_eq_add_one] at this
    omega

set_option maxRecDepth 100000 in
theorem restTwin (R : RI) (D : ArcsD) (xs ys : List Int) (w : World) (hR : IsRest w R D xs ys) : Calls Tryz.prog 12 #[.pointer (some ⟨R.b, 0, none⟩)] w fun e w1 => ∃ Q : RI, Q.ba = R.ba ∧ e = .returned (.pointer (some ⟨Q.b, 0, none⟩)) ∧ Gr w w1 ∧ ∃ F, (restA Q D.n (2 * D.l.length) xs ys).holds w1 F ∧ ∀ k, F k → w.heap.size ≤ k ∧ k < w1.heap.size := by
  have hml := hR.ha.hl
  have hnn := hR.ha.hn
  have hhb := hR.hb
  refine CW.enter (P := Tryz.prog) (F0 := none0) (L := [(0, _)]) 43 [] Tryz.func12 rfl Tryz.ntmps12 (Nat.le_of_ble_eq_true rfl) (St.start w none0) rfl ?_
  refine CW.seq ?_
  refine CW.region ?_
  refine RW.y (.inl rfl) rfl (Yv.assign rfl) ?_
  refine RW.nil ?_
  refine PW.go ?_
  refine CW.seq ?_
  refine CW.seq ?_
  refine CW.region ?_
  refine RW.y (.inl rfl) rfl (Yv.move rfl) ?_
  refine RW.y (.inl rfl) rfl (Yv.ptrNil Tryz.underlying29 rfl rfl) ?_
  refine RW.nil ?_
  refine PW.go ?_
  refine CW.cond rfl (fun hc5 => ?_) (fun hc5 => ?_)
  ·
    cases hc5
  ·
    refine CW.skip ?_
    refine PW.go ?_
    refine CW.cut (σ := Nat × Nat × Nat) (fun s => True) (fun s => [(0, .pointer (some ⟨R.b, 0, none⟩)), (3, .pointer (some ⟨s.1, 0, none⟩))]) (fun s => [blk s.1 [.pointer (some ⟨R.ba, 0, none⟩), .slice (some ⟨s.2.1, 0, none⟩) (2 * D.l.length) (2 * D.l.length), .slice (some ⟨s.2.2, 0, none⟩) D.n D.n] 93, row (.slice (some ⟨s.2.1, 0, none⟩) (2 * D.l.length) (2 * D.l.length)) 2 1 (2 * D.l.length) (i64s (List.replicate (2 * D.l.length) 0)), row (.slice (some ⟨s.2.2, 0, none⟩) D.n D.n) 2 1 D.n (i64s (List.replicate D.n 0))]) ?_ ?_
    ·
      refine CW.draw0 mixed ?_
      refine HW.take 0 rfl (by kernel_rfl) (by kernel_rfl) (by kernel_rfl) (fun _ _ _ h => h) (.inl rfl) rfl (fun _ h => h) (Yv.move rfl) ?_
      refine HW.take 1 rfl (by kernel_rfl) (by kernel_rfl) (by kernel_rfl) (fun _ _ _ h => h) (.inl rfl) rfl (fun _ h => h) (Yv.nilCheck rfl) ?_
      refine HW.take 2 rfl (by kernel_rfl) (by kernel_rfl) (by kernel_rfl) (fun _ _ _ h => h) (.inl rfl) rfl (fun _ h => h) (Yv.fieldAddr Tryz.underlying93 rfl Tryz.sizeOf47 rfl rfl) ?_
      refine HW.take 3 rfl (by kernel_rfl) (by kernel_rfl) (by kernel_rfl) (fun _ _ _ h => h) (.inl rfl) rfl (fun _ h => h) (Yv.load1 Tryz.isAgg47 rfl (CF.old (cell_of hR.hb rfl) (not_none0 _))) ?_
      refine HW.take 4 rfl (by kernel_rfl) (by kernel_rfl) (by kernel_rfl) (fun _ _ _ h => h) (.inl rfl) rfl (fun _ h => h) (Yv.move rfl) ?_
      refine HW.take 5 rfl (by kernel_rfl) (by kernel_rfl) (by kernel_rfl) (fun _ _ _ h => h) (.inl rfl) rfl (fun _ h => h) (Yv.nilCheck rfl) ?_
      refine HW.take 6 rfl (by kernel_rfl) (by kernel_rfl) (by kernel_rfl) (fun _ _ _ h => h) (.inl rfl) rfl (fun _ h => h) (Yv.fieldAddr Tryz.underlying93 rfl Tryz.sizeOf33 rfl rfl) ?_
      refine HW.take 7 rfl (by kernel_rfl) (by kernel_rfl) (by kernel_rfl) (fun _ _ _ h => h) (.inl rfl) rfl (fun _ h => h) (Yv.load1 Tryz.isAgg33 rfl (CF.old (cell_of hR.hb rfl) (not_none0 _))) ?_
      refine HW.take 8 rfl (by kernel_rfl) (by kernel_rfl) (by kernel_rfl) (fun _ _ _ h => h) (.inl rfl) rfl (fun _ h => h) (Yv.len Tryz.underlying33 rfl) ?_
      refine HW.take 10 rfl (by kernel_rfl) (by kernel_rfl) (by kernel_rfl) (fun _ _ _ h => h) (.inl rfl) rfl (fun _ h => h) (Yv.move rfl) ?_
      refine HW.take 11 rfl (by kernel_rfl) (by kernel_rfl) (by kernel_rfl) (fun _ _ _ h => h) (.inl rfl) rfl (fun _ h => h) (Yv.nilCheck rfl) ?_
      refine HW.take 12 rfl (by kernel_rfl) (by kernel_rfl) (by kernel_rfl) (fun _ _ _ h => h) (.inl rfl) rfl (fun _ h => h) (Yv.fieldAddr Tryz.underlying93 rfl Tryz.sizeOf33 rfl rfl) ?_
      refine HW.take 13 rfl (by kernel_rfl) (by kernel_rfl) (by kernel_rfl) (fun _ _ _ h => h) (.inl rfl) rfl (fun _ h => h) (Yv.load1 Tryz.isAgg33 rfl (CF.old (cell_of hR.hb rfl) (not_none0 _))) ?_
      refine HW.take 14 rfl (by kernel_rfl) (by kernel_rfl) (by kernel_rfl) (fun _ _ _ h => h) (.inl rfl) rfl (fun _ h => h) (Yv.len Tryz.underlying33 rfl) ?_
      refine HW.run2 9 15 (by kernel_rfl) (fun a w hf hs => HW.opp 9 rfl _ (.inl rfl) rfl (Ow.make (m := 2 * D.l.length) Tryz.underlying33 info2 rfl rfl rfl (by omega) (by omega) (by omega) (by omega)) (by rintro _ _ ⟨b15, rfl, rfl⟩ w h; exact (h).erase 0) ?_ hf hs) (fun a w hf hs => HW.opp 15 rfl _ (.inl rfl) rfl (Ow.make (m := D.n) Tryz.underlying33 info2 rfl rfl rfl (by omega) (by omega) (by omega) (by omega)) (by rintro _ _ ⟨b21, rfl, rfl⟩ w h; exact (h).erase 0) ?_ hf hs)
      ·
        clear hf hs
        rintro _ _ ⟨b15, rfl, rfl⟩
        refine HW.run 15 rfl (by kernel_rfl) _ (.inl rfl) rfl (Ow.make (m := D.n) Tryz.underlying33 info2 rfl rfl rfl (by omega) (by omega) (by omega) (by omega)) (by rintro _ _ ⟨b21, rfl, rfl⟩ w h; exact ((h).erase 0).erase 0) ?_
        rintro _ _ ⟨b21, rfl, rfl⟩
        refine HW.take 16 rfl (by kernel_rfl) (by kernel_rfl) (by kernel_rfl) (fun _ _ _ h => h) (.inl rfl) rfl (fun _ h => ((h).erase 0).erase 0) (Yv.build rfl (fun w => by exact bld93_0_1_2 _ _ _ _ _ _ _ w)) ?_
        refine HW.run 17 rfl (by kernel_rfl) _ (.inl rfl) rfl (Ow.box (cs := [_, _, _]) rfl rfl) (by rintro _ _ ⟨b23, rfl, rfl⟩ w h; exact (((h).erase 0).erase 0).erase 0) ?_
        rintro _ _ ⟨b23, rfl, rfl⟩
        refine HW.take 18 rfl (by kernel_rfl) (by kernel_rfl) (by kernel_rfl) (fun _ _ _ h => h) (.inl rfl) rfl (fun _ h => (((h).erase 0).erase 0).erase 0) (Yv.assign rfl) ?_
        refine HW.done (by kernel_rfl) ?_
        refine PW.mem _ (fun w h => h.row_eq (m' := 2 * D.l.length) (xs' := i64s (List.replicate (2 * D.l.length) 0)) 2 rfl (rfl) (by simp [i64s])) ?_
        refine PW.mem _ (fun w h => h.row_eq (m' := D.n) (xs' := i64s (List.replicate D.n 0)) 1 rfl (rfl) (by simp [i64s])) ?_
        refine PW.mem _ (fun w h => h.front 1 rfl) ?_
        refine PW.mem _ (fun w h => h.front 2 rfl) ?_
        refine PW.mem _ (fun w h => h.front 2 rfl) ?_
        exact PW.mid (b23, b15, b21) (trivial) ⟨rfl, rfl, trivial⟩ (fun w h => h)
      ·
        clear hf hs
        rintro _ _ ⟨b21, rfl, rfl⟩
        refine HW.run 9 rfl (by kernel_rfl) _ (.inl rfl) rfl (Ow.make (m := 2 * D.l.length) Tryz.underlying33 info2 rfl rfl rfl (by omega) (by omega) (by omega) (by omega)) (by rintro _ _ ⟨b15, rfl, rfl⟩ w h; exact ((h).erase 0).erase 0) ?_
        rintro _ _ ⟨b15, rfl, rfl⟩
        refine HW.take 16 rfl (by kernel_rfl) (by kernel_rfl) (by kernel_rfl) (fun _ _ _ h => h) (.inl rfl) rfl (fun _ h => ((h).erase 0).erase 0) (Yv.build rfl (fun w => by exact bld93_0_1_2 _ _ _ _ _ _ _ w)) ?_
        refine HW.run 17 rfl (by kernel_rfl) _ (.inl rfl) rfl (Ow.box (cs := [_, _, _]) rfl rfl) (by rintro _ _ ⟨b23, rfl, rfl⟩ w h; exact (((h).erase 0).erase 0).erase 0) ?_
        rintro _ _ ⟨b23, rfl, rfl⟩
        refine HW.take 18 rfl (by kernel_rfl) (by kernel_rfl) (by kernel_rfl) (fun _ _ _ h => h) (.inl rfl) rfl (fun _ h => (((h).erase 0).erase 0).erase 0) (Yv.assign rfl) ?_
        refine HW.done (by kernel_rfl) ?_
        refine PW.mem _ (fun w h => h.row_eq (m' := 2 * D.l.length) (xs' := i64s (List.replicate (2 * D.l.length) 0)) 1 rfl (rfl) (by simp [i64s])) ?_
        refine PW.mem _ (fun w h => h.row_eq (m' := D.n) (xs' := i64s (List.replicate D.n 0)) 2 rfl (rfl) (by simp [i64s])) ?_
        refine PW.mem _ (fun w h => h.front 2 rfl) ?_
        refine PW.mem _ (fun w h => h.front 2 rfl) ?_
        refine PW.mem _ (fun w h => h.front 2 rfl) ?_
        exact PW.mid (b23, b15, b21) (trivial) ⟨rfl, rfl, trivial⟩ (fun w h => h)
    · intro ⟨b23, b15, b21⟩ _
      (try dsimp only)
      refine CW.seq ?_
      refine CW.drawE mixed (fun _ h => (h).erase 1) ?_
      refine HW.take 0 rfl (by kernel_rfl) (by kernel_rfl) (by kernel_rfl) (fun _ _ _ h => h) (.inl rfl) rfl (fun _ h => (h).erase 1) (Yv.move rfl) ?_
      refine HW.take 1 rfl (by kernel_rfl) (by kernel_rfl) (by kernel_rfl) (fun _ _ _ h => h) (.inl rfl) rfl (fun _ h => (h).erase 1) (Yv.nilCheck rfl) ?_
      refine HW.take 2 rfl (by kernel_rfl) (by kernel_rfl) (by kernel_rfl) (fun _ _ _ h => h) (.inl rfl) rfl (fun _ h => (h).erase 1) (Yv.fieldAddr Tryz.underlying93 rfl Tryz.sizeOf33 rfl rfl) ?_
      refine HW.take 3 rfl (by kernel_rfl) (by kernel_rfl) (by kernel_rfl) (fun _ _ _ h => h) (.inl rfl) rfl (fun _ h => (h).erase 1) (Yv.load1 Tryz.isAgg33 rfl (CF.blk 0 rfl rfl)) ?_
      refine HW.take 4 rfl (by kernel_rfl) (by kernel_rfl) (by kernel_rfl) (fun _ _ _ h => h) (.inl rfl) rfl (fun _ h => (h).erase 1) (Yv.move rfl) ?_
      refine HW.take 5 rfl (by kernel_rfl) (by kernel_rfl) (by kernel_rfl) (fun _ _ _ h => h) (.inl rfl) rfl (fun _ h => (h).erase 1) (Yv.nilCheck rfl) ?_
      refine HW.take 6 rfl (by kernel_rfl) (by kernel_rfl) (by kernel_rfl) (fun _ _ _ h => h) (.inl rfl) rfl (fun _ h => (h).erase 1) (Yv.fieldAddr Tryz.underlying93 rfl Tryz.sizeOf33 rfl rfl) ?_
      refine HW.take 7 rfl (by kernel_rfl) (by kernel_rfl) (by kernel_rfl) (fun _ _ _ h => h) (.inl rfl) rfl (fun _ h => (h).erase 1) (Yv.load1 Tryz.isAgg33 rfl (CF.old (cell_of hR.hb rfl) (not_none0 _))) ?_
      refine HW.run 8 rfl (by kernel_rfl) _ (.inl rfl) rfl (Ow.copyAll 1 Tryz.underlying33 info2 rfl rfl rfl (fun w hs => hR.hl.below hs.mod.below) (i64s_one _)) (by rintro _ _ ⟨rfl, rfl⟩ w h; exact (h).erase 1) ?_
      rintro _ _ ⟨rfl, rfl⟩
      refine HW.done (by kernel_rfl) ?_
      refine PW.go ?_
      refine CW.seq ?_
      refine CW.drawE mixed (fun _ h => (h).erase 2) ?_
      refine HW.take 0 rfl (by kernel_rfl) (by kernel_rfl) (by kernel_rfl) (fun _ _ _ h => h) (.inl rfl) rfl (fun _ h => (h).erase 2) (Yv.move rfl) ?_
      refine HW.take 1 rfl (by kernel_rfl) (by kernel_rfl) (by kernel_rfl) (fun _ _ _ h => h) (.inl rfl) rfl (fun _ h => (h).erase 2) (Yv.nilCheck rfl) ?_
      refine HW.take 2 rfl (by kernel_rfl) (by kernel_rfl) (by kernel_rfl) (fun _ _ _ h => h) (.inl rfl) rfl (fun _ h => (h).erase 2) (Yv.fieldAddr Tryz.underlying93 rfl Tryz.sizeOf33 rfl rfl) ?_
      refine HW.take 3 rfl (by kernel_rfl) (by kernel_rfl) (by kernel_rfl) (fun _ _ _ h => h) (.inl rfl) rfl (fun _ h => (h).erase 2) (Yv.load1 Tryz.isAgg33 rfl (CF.blk 0 rfl rfl)) ?_
      refine HW.take 4 rfl (by kernel_rfl) (by kernel_rfl) (by kernel_rfl) (fun _ _ _ h => h) (.inl rfl) rfl (fun _ h => (h).erase 2) (Yv.move rfl) ?_
      refine HW.take 5 rfl (by kernel_rfl) (by kernel_rfl) (by kernel_rfl) (fun _ _ _ h => h) (.inl rfl) rfl (fun _ h => (h).erase 2) (Yv.nilCheck rfl) ?_
      refine HW.take 6 rfl (by kernel_rfl) (by kernel_rfl) (by kernel_rfl) (fun _ _ _ h => h) (.inl rfl) rfl (fun _ h => (h).erase 2) (Yv.fieldAddr Tryz.underlying93 rfl Tryz.sizeOf33 rfl rfl) ?_
      refine HW.take 7 rfl (by kernel_rfl) (by kernel_rfl) (by kernel_rfl) (fun _ _ _ h => h) (.inl rfl) rfl (fun _ h => (h).erase 2) (Yv.load1 Tryz.isAgg33 rfl (CF.old (cell_of hR.hb rfl) (not_none0 _))) ?_
      refine HW.run 8 rfl (by kernel_rfl) _ (.inl rfl) rfl (Ow.copyAll 2 Tryz.underlying33 info2 rfl rfl rfl (fun w hs => hR.ho.below hs.mod.below) (i64s_one _)) (by rintro _ _ ⟨rfl, rfl⟩ w h; exact (h).erase 2) ?_
      rintro _ _ ⟨rfl, rfl⟩
      refine HW.done (by kernel_rfl) ?_
      refine PW.go ?_
      refine CW.seq ?_
      refine CW.region ?_
      refine RW.y (.inl rfl) rfl (Yv.move rfl) ?_
      refine RW.y (.inl rfl) rfl (Yv.assign rfl) ?_
      refine RW.nil ?_
      refine PW.go ?_
      refine CW.ret ?_
      refine PW.ret1 Tryz.results12 rfl (fun w1 hs => ?_)
      obtain ⟨F, hF, hk⟩ := (restShut (R := ⟨b23, R.ba, b15, b21⟩) hs).out 0 rfl
      exact ⟨⟨b23, R.ba, b15, b21⟩, rfl, rfl, hs.mod.below, F, hF, hk⟩

set_option maxRecDepth 100000 in
theorem restReachIn (R : RI) (D : ArcsD) (f ys : List Int) (hok : ArcsOk D.n D.l) (hF : FlowOk D.l f) (hof : ∀ v, v < D.n → D.of v = outOf D.n D.l v) (v : Int) (hv : 0 ≤ v ∧ v < D.n) (w : World) (hR : IsRest w R D (leftL D.l f) ys) : Calls Tryz.prog 50 #[.pointer (some ⟨R.b, 0, none⟩), .int .i64 v] w fun e w1 => ∃ u_, e = .returned u_ ∧ Gr w w1 ∧ ∃ F, (row u_ 3 1 ((rchL D.n D.l f v).length) (i64s (rchL D.n D.l f v))).holds w1 F ∧ ∀ k, F k → w.heap.size ≤ k ∧ k < w1.heap.size := by
  have hml := hok.hl
  have hnn := hok.hn
  have hlx := leftL_length D.l f
  refine CW.enter (P := Tryz.prog) (F0 := none0) (L := [(0, _), (1, _)]) 83 [] Tryz.func50 rfl Tryz.ntmps50 (Nat.le_of_ble_eq_true rfl) (St.start w none0) rfl ?_
  refine CW.seq ?_
  refine CW.region ?_
  refine RW.y (.inl rfl) rfl (Yv.assign rfl) ?_
  refine RW.nil ?_
  refine PW.go ?_
  refine CW.seq ?_
  refine CW.seq ?_
  refine CW.region ?_
  refine RW.y (.inl rfl) rfl (Yv.move rfl) ?_
  refine RW.y (.inl rfl) rfl (Yv.lt rfl rfl) ?_
  refine RW.y (.inl rfl) rfl (Yv.move rfl) ?_
  refine RW.isF 13 rfl (by omega) ?_
  refine RW.y (.inr ⟨_, _, 13, rfl, rfl, rfl⟩) rfl (Yv.move rfl) ?_
  refine RW.y (.inr ⟨_, _, 13, rfl, rfl, rfl⟩) rfl (Yv.move rfl) ?_
  refine RW.o _ (.inr ⟨_, _, 13, rfl, rfl, rfl⟩) rfl (Ow.call e15 rfl (C.val (fun w hs => restArcs R D.n _ _ (hR.below hs.mod.below).hb))) ?_
  rintro _ _ ⟨rfl, rfl⟩
  refine RW.o _ (.inr ⟨_, _, 13, rfl, rfl, rfl⟩) rfl (Ow.call e42 rfl (C.val (fun w hs => arcsN R.ba D _ (hR.below hs.mod.below).ha))) ?_
  rintro _ _ ⟨rfl, rfl⟩
  refine RW.y (.inr ⟨_, _, 13, rfl, rfl, rfl⟩) rfl (Yv.ge rfl rfl) ?_
  refine RW.y (.inl rfl) rfl (Yv.pickF rfl rfl) ?_
  refine RW.nil ?_
  refine PW.go ?_
  refine CW.condD rfl (fun hc19 => ?_) (fun hc19 => ?_)
  ·
    omega
  ·
    refine CW.skip ?_
    refine PW.go ?_
    refine CW.seq ?_
    refine CW.region ?_
    refine RW.y (.inl rfl) rfl (Yv.move rfl) ?_
    refine RW.y (.inl rfl) rfl (Yv.nilCheck rfl) ?_
    refine RW.y (.inl rfl) rfl (Yv.fieldAddr Tryz.underlying93 rfl Tryz.sizeOf47 rfl rfl) ?_
    refine RW.y (.inl rfl) rfl (Yv.load1 Tryz.isAgg47 rfl (CF.old (cell_of hR.hb rfl) (not_none0 _))) ?_
    refine RW.o _ (.inl rfl) rfl (Ow.call e42 rfl (C.val (fun w hs => arcsN R.ba D _ (hR.below hs.mod.below).ha))) ?_
    rintro _ _ ⟨rfl, rfl⟩
    refine RW.o _ (.inl rfl) rfl (Ow.make (m := D.n) Tryz.underlying147 info4 rfl rfl rfl (by omega) (by omega) (by omega) (by omega)) ?_
    rintro _ _ ⟨b25, rfl, rfl⟩
    refine RW.y (.inl rfl) rfl (Yv.assign rfl) ?_
    refine RW.nil ?_
    refine PW.go ?_
    refine CW.seq ?_
    refine CW.region ?_
    refine RW.y (.inl rfl) rfl (Yv.move rfl) ?_
    refine RW.y (.inl rfl) rfl (Yv.move rfl) ?_
    refine RW.y (.inl rfl) rfl (Yv.index0 Tryz.underlying147 Tryz.sizeOf4 rfl rfl (by omega) (by omega)) ?_
    refine RW.o _ (.inl rfl) rfl (Ow.storeRow 0 Tryz.sizeOf4 rfl rfl (rfl) rfl (by simp; omega)) ?_
    rintro _ _ ⟨rfl, rfl⟩
    refine RW.nil ?_
    refine PW.go ?_
    refine CW.seq ?_
    refine CW.region ?_
    refine RW.y (.inl rfl) rfl (Yv.move rfl) ?_
    refine RW.o _ (.inl rfl) rfl (Ow.lit (len := 1) (vs := [_]) (cs := [_]) Tryz.underlying51 info3 rfl rfl rfl rfl rfl rfl rfl) ?_
    rintro _ _ ⟨b30, rfl, rfl⟩
    refine RW.y (.inl rfl) rfl (Yv.assign rfl) ?_
    refine RW.nil ?_
    refine PW.go ?_
    refine CW.seq ?_
    refine CW.seq ?_
    refine CW.mem _ (fun w h => h.row_eq (m' := D.n) (xs' := bools ((List.replicate D.n false).set v.toNat true)) 1 rfl (rfl) (by rw [← bools_set]; simp [bools])) ?_
    refine CW.mem _ (fun w h => h.rowOf (s := 1) (m := 1) 0 rfl (rfl) (by omega)) ?_
    refine CW.region ?_
    refine RW.y (.inl rfl) rfl (Yv.assign rfl) ?_
    refine RW.nil ?_
    refine PW.go ?_
    refine CW.block ?_
    refine CW.loop (σ := Nat × List Bool × List Int × Value) (fun s => s.1 ≤ s.2.2.1.length ∧ Bfs D.n D.l f v s.2.1 s.2.2.1 s.1) (fun s => [(0, .pointer (some ⟨R.b, 0, none⟩)), (5, .slice (some ⟨b25, 0, none⟩) D.n D.n), (6, s.2.2.2), (7, .int .i64 (s.1 : Nat))]) (fun s => [row (s.2.2.2) 3 1 (s.2.2.1).length (i64s (s.2.2.1)), row (.slice (some ⟨b25, 0, none⟩) D.n D.n) 4 1 D.n (bools (s.2.1))]) (fun s => D.n - s.1) (0, (List.replicate D.n false).set v.toNat true, [v], .slice (some ⟨b30, 0, none⟩) 1 1) (⟨by simp, bfs_start D.l f hv⟩) ⟨rfl, rfl, rfl, rfl, trivial⟩ (fun w h => h) ?_
    rintro ⟨k, cs, out, vo⟩ ⟨hk, hB⟩
    (try dsimp only at *)
    have hct := hB.ct
    have hcl := cnt_le cs
    have hcn := hB.met.len
    refine CW.seq ?_
    refine CW.seq ?_
    refine CW.region ?_
    refine RW.y (.inl rfl) rfl (Yv.move rfl) ?_
    refine RW.y (.inl rfl) rfl (Yv.move rfl) ?_
    refine RW.y (.inl rfl) rfl (Yv.lenRow 0 Tryz.underlying51 rfl rfl) ?_
    refine RW.y (.inl rfl) rfl (Yv.lt rfl rfl) ?_
    refine RW.nil ?_
    refine PW.go ?_
    refine CW.condD rfl (fun hc34 => ?_) (fun hc34 => ?_)
    ·
      refine CW.skip ?_
      refine PW.go ?_
      refine CW.seq ?_
      refine CW.block ?_
      refine CW.seq ?_
      have hkl : k < out.length := by omega
      refine CW.facts _ (fun w h => h.row_slice 0 rfl) ?_
      rintro ⟨Ao, co, rfl⟩
      refine CW.facts _ (fun w h => h.row_some 0 rfl (by omega)) ?_
      rintro ⟨bo, rfl⟩
      obtain ⟨u, hu⟩ : ∃ u, out[k]? = some u := ⟨_, List.getElem?_eq_getElem hkl⟩
      obtain ⟨hu0, hub⟩ := (hB.mem u).1 (List.mem_of_getElem? hu)
      have hun : u.toNat < D.n := by
        rcases Nat.lt_or_ge u.toNat D.n with h | h
        · exact h
        · rw [List.getD_eq_getElem?_getD, List.getElem?_eq_none (by omega)] at hub; cases hub
      refine CW.draw0 mixed ?_
      refine HW.take 0 rfl (by kernel_rfl) (by kernel_rfl) (by kernel_rfl) (fun _ _ _ h => h) (.inl rfl) rfl (fun _ h => h) (Yv.move rfl) ?_
      refine HW.take 1 rfl (by kernel_rfl) (by kernel_rfl) (by kernel_rfl) (fun _ _ _ h => h) (.inl rfl) rfl (fun _ h => h) (Yv.nilCheck rfl) ?_
      refine HW.take 2 rfl (by kernel_rfl) (by kernel_rfl) (by kernel_rfl) (fun _ _ _ h => h) (.inl rfl) rfl (fun _ h => h) (Yv.fieldAddr Tryz.underlying93 rfl Tryz.sizeOf47 rfl rfl) ?_
      refine HW.take 3 rfl (by kernel_rfl) (by kernel_rfl) (by kernel_rfl) (fun _ _ _ h => h) (.inl rfl) rfl (fun _ h => h) (Yv.load1 Tryz.isAgg47 rfl (CF.old (cell_of hR.hb rfl) (not_none0 _))) ?_
      refine HW.take 4 rfl (by kernel_rfl) (by kernel_rfl) (by kernel_rfl) (fun _ _ _ h => h) (.inl rfl) rfl (fun _ h => h) (Yv.move rfl) ?_
      refine HW.take 5 rfl (by kernel_rfl) (by kernel_rfl) (by kernel_rfl) (fun _ _ _ h => h) (.inl rfl) rfl (fun _ h => h) (Yv.move rfl) ?_
      refine HW.take 6 rfl (by kernel_rfl) (by kernel_rfl) (by kernel_rfl) (fun _ _ _ h => h) (.inl rfl) rfl (fun _ h => h) (Yv.index0 Tryz.underlying51 Tryz.sizeOf3 rfl rfl (by omega) (by omega)) ?_
      refine HW.take 7 rfl (by kernel_rfl) (by kernel_rfl) (by kernel_rfl) (fun _ _ _ h => h) (.inl rfl) rfl (fun _ h => h) (Yv.load1 Tryz.isAgg3 rfl (CF.row 0 rfl (i64s_get _ _ _ hu))) ?_
      refine HW.take 10 rfl (by kernel_rfl) (by kernel_rfl) (by kernel_rfl) (fun _ _ _ h => h) (.inl rfl) rfl (fun _ h => h) (Yv.move rfl) ?_
      refine HW.run 8 rfl (by kernel_rfl) _ (.inl rfl) rfl (Ow.call e78 rfl (C.new (val := id) (φ := fun _ => True) (Ψ := fun v_ => row v_ 3 1 ((outOf D.n D.l u).length) (i64s (outOf D.n D.l u))) (fun w2 hs => ((by have h := arcsOut R.ba D u w2 (hR.below hs.mod.below).ha ⟨hu0, by omega⟩; rw [hof u.toNat hun, show ((u.toNat : Nat) : Int) = u by omega] at h; exact h : Calls Tryz.prog _ _ w2 fun e w1 => ∃ u_, e = .returned u_ ∧ Gr w2 w1 ∧ ∃ F, (row u_ 3 1 (outOf D.n D.l u).length (i64s (outOf D.n D.l u))).holds w1 F ∧ ∀ k, F k → w2.heap.size ≤ k ∧ k < w1.heap.size)).mono (fun e w3 ⟨v_, hv_, hb, F, hF, hk_⟩ => ⟨v_, trivial, hv_, hb, F, hF, hk_⟩)))) (by rintro _ _ ⟨v_o, -, rfl, rfl⟩ w h; exact (h).erase 0) ?_
      rintro _ _ ⟨v_o, -, rfl, rfl⟩
      refine HW.facts _ (fun w h => h.row_slice 0 rfl) ?_
      rintro ⟨Aq, cq, rfl⟩
      have hol := outOf_length2 D.l u D.n
      have hmm : D.n * (2 * D.l.length) ≤ 4096 * (2 * 1048576) := Nat.mul_le_mul (by omega) (by omega)
      refine HW.run 9 rfl (by kernel_rfl) _ (.inl rfl) rfl (Yv.ow (Yv.lenRow 0 Tryz.underlying51 rfl rfl)) (by rintro _ _ ⟨rfl, rfl⟩ w h; exact (h).erase 0) ?_
      rintro _ _ ⟨rfl, rfl⟩
      refine HW.done (by kernel_rfl) ?_
      refine PW.go ?_
      refine CW.block ?_
      refine CW.loop (σ := Nat × List Bool × List Int × Value) (fun s => s.1 ≤ (outOf D.n D.l u).length ∧ BfsIn D.n D.l f v s.2.1 s.2.2.1 k ((outOf D.n D.l u).take s.1) ∧ s.2.2.1[k]? = some u) (fun s => [(0, .pointer (some ⟨R.b, 0, none⟩)), (5, .slice (some ⟨b25, 0, none⟩) D.n D.n), (6, s.2.2.2), (7, .int .i64 (k : Nat)), (45, .slice Aq (outOf D.n D.l u).length cq), (46, .int .i64 ((outOf D.n D.l u).length : Nat)), (47, .int .i64 (s.1 : Nat))]) (fun s => [row (.slice Aq (outOf D.n D.l u).length cq) 3 1 (outOf D.n D.l u).length (i64s (outOf D.n D.l u)), row (s.2.2.2) 3 1 (s.2.2.1).length (i64s (s.2.2.1)), row (.slice (some ⟨b25, 0, none⟩) D.n D.n) 4 1 D.n (bools (s.2.1))]) (fun s => (outOf D.n D.l u).length - s.1) (0, cs, out, .slice (some ⟨bo, 0, none⟩) out.length co) (⟨by simp, ⟨hB, by simp⟩, hu⟩) ⟨rfl, rfl, rfl, rfl, rfl, rfl, rfl, trivial⟩ (fun w h => h) ?_
      rintro ⟨j, cs2, out2, vo2⟩ ⟨hj, hB2, hu2⟩
      (try dsimp only at *)
      have hct2 := hB2.1.ct
      have hcl2 := cnt_le cs2
      have hcn2 := hB2.1.met.len
      have hkl2 := (List.getElem?_eq_some_iff.1 hu2).1
      refine CW.seq ?_
      refine CW.region ?_
      refine RW.y (.inl rfl) rfl (Yv.lt rfl rfl) ?_
      refine RW.nil ?_
      refine PW.go ?_
      refine CW.seq ?_
      refine CW.condD rfl (fun hc48 => ?_) (fun hc48 => ?_)
      ·
        refine CW.skip ?_
        refine PW.go ?_
        refine CW.seq ?_
        refine CW.block ?_
        refine CW.seq ?_
        have hjl : j < (outOf D.n D.l u).length := by omega
        refine CW.facts _ (fun w h => h.row_some 0 rfl (by omega)) ?_
        rintro ⟨bq, rfl⟩
        obtain ⟨i0, hi⟩ : ∃ x, (outOf D.n D.l u)[j]? = some x := ⟨_, List.getElem?_eq_getElem hjl⟩
        obtain ⟨hi0, hi1, hit⟩ := (mem_outOf hok hu0 i0).1 (List.mem_of_getElem? hi)
        obtain ⟨i, rfl⟩ : ∃ i : Nat, i0 = i := ⟨i0.toNat, by omega⟩
        have hhr := head_rng hok hi0 hi1
        obtain ⟨a, hla⟩ : ∃ a, (leftL D.l f)[i]? = some a := ⟨_, List.getElem?_eq_getElem (by omega)⟩
        have hai : atI (leftL D.l f) (i : Int) = a := by rw [atI_nat, getD_of hla]
        obtain ⟨bb, hb, hb2⟩ := getB (cs := cs2) (t := (headOf D.l (i : Int)).toNat) (by omega)
        refine CW.region ?_
        refine RW.y (.inl rfl) rfl (Yv.index0 Tryz.underlying51 Tryz.sizeOf3 rfl rfl (by omega) (by omega)) ?_
        refine RW.y (.inl rfl) rfl (Yv.load1 Tryz.isAgg3 rfl (CF.row 0 rfl (i64s_get _ _ _ hi))) ?_
        refine RW.y (.inl rfl) rfl (Yv.assign rfl) ?_
        refine RW.nil ?_
        refine PW.go ?_
        refine CW.seq ?_
        refine CW.region ?_
        refine RW.y (.inl rfl) rfl (Yv.move rfl) ?_
        refine RW.y (.inl rfl) rfl (Yv.nilCheck rfl) ?_
        refine RW.y (.inl rfl) rfl (Yv.fieldAddr Tryz.underlying93 rfl Tryz.sizeOf47 rfl rfl) ?_
        refine RW.y (.inl rfl) rfl (Yv.load1 Tryz.isAgg47 rfl (CF.old (cell_of hR.hb rfl) (not_none0 _))) ?_
        refine RW.y (.inl rfl) rfl (Yv.move rfl) ?_
        refine RW.o _ (.inl rfl) rfl (Ow.call e31 rfl (C.val (fun w hs => arcsHead R.ba D (i : Int) _ (hR.below hs.mod.below).ha))) ?_
        rintro _ _ ⟨rfl, rfl⟩
        refine RW.y (.inl rfl) rfl (Yv.assign rfl) ?_
        refine RW.nil ?_
        refine PW.go ?_
        refine CW.seq ?_
        refine CW.region ?_
        refine RW.y (.inl rfl) rfl (Yv.move rfl) ?_
        refine RW.y (.inl rfl) rfl (Yv.nilCheck rfl) ?_
        refine RW.y (.inl rfl) rfl (Yv.fieldAddr Tryz.underlying93 rfl Tryz.sizeOf33 rfl rfl) ?_
        refine RW.y (.inl rfl) rfl (Yv.load1 Tryz.isAgg33 rfl (CF.old (cell_of hR.hb rfl) (not_none0 _))) ?_
        refine RW.y (.inl rfl) rfl (Yv.move rfl) ?_
        refine RW.y (.inl rfl) rfl (Yv.index0 Tryz.underlying33 Tryz.sizeOf2 rfl rfl (by omega) (by omega)) ?_
        refine RW.y (.inl rfl) rfl (Yv.load1 Tryz.isAgg2 rfl (CF.old (rd_at0 hR.hl _ _ (i64s_at (by omega) hla)) (not_none0 _))) ?_
        refine RW.y (.inl rfl) rfl (Yv.gt rfl rfl) ?_
        refine RW.y (.inl rfl) rfl (Yv.move rfl) ?_
        refine RW.splitD 65 rfl (fun hc65 => ?_) (fun hc65 => ?_)
        ·
          refine RW.y (.inr ⟨_, _, 65, rfl, rfl, rfl⟩) rfl (Yv.move rfl) ?_
          refine RW.y (.inr ⟨_, _, 65, rfl, rfl, rfl⟩) rfl (Yv.move rfl) ?_
          refine RW.y (.inr ⟨_, _, 65, rfl, rfl, rfl⟩) rfl (Yv.index0 Tryz.underlying147 Tryz.sizeOf4 rfl rfl (by omega) (by omega)) ?_
          refine RW.y (.inr ⟨_, _, 65, rfl, rfl, rfl⟩) rfl (Yv.load1 Tryz.isAgg4 rfl (CF.row 2 rfl (bools_at rfl hb))) ?_
          refine RW.y (.inr ⟨_, _, 65, rfl, rfl, rfl⟩) rfl (Yv.not rfl) ?_
          refine RW.y (.inl rfl) rfl (Yv.pickT rfl rfl) ?_
          refine RW.nil ?_
          refine PW.go ?_
          refine CW.cond rfl (fun hc71 => ?_) (fun hc71 => ?_)
          ·
            refine CW.seq ?_
            refine CW.region ?_
            refine RW.y (.inl rfl) rfl (Yv.move rfl) ?_
            refine RW.y (.inl rfl) rfl (Yv.move rfl) ?_
            refine RW.y (.inl rfl) rfl (Yv.index0 Tryz.underlying147 Tryz.sizeOf4 rfl rfl (by omega) (by omega)) ?_
            refine RW.o _ (.inl rfl) rfl (Ow.storeRow 2 Tryz.sizeOf4 rfl rfl (rfl) rfl (by rw [bools_length]; omega)) ?_
            rintro _ _ ⟨rfl, rfl⟩
            refine RW.nil ?_
            refine PW.go ?_
            refine CW.region ?_
            refine RW.y (.inl rfl) rfl (Yv.move rfl) ?_
            refine RW.y (.inl rfl) rfl (Yv.move rfl) ?_
            refine RW.o _ (.inl rfl) rfl (Ow.lit (len := 1) (vs := [_]) (cs := [_]) Tryz.underlying51 info3 rfl rfl rfl rfl rfl rfl rfl) ?_
            rintro _ _ ⟨b77, rfl, rfl⟩
            refine RW.o _ (.inl rfl) rfl (Ow.append 2 0 Tryz.underlying51 info3 rfl rfl rfl rfl rfl rfl rfl rfl (by omega) (by omega)) ?_
            rintro v78 _ rfl
            refine RW.y (.inl rfl) rfl (Yv.assign rfl) ?_
            refine RW.nil ?_
            refine PW.block ?_
            refine PW.go ?_
            refine CW.region ?_
            refine RW.y (.inl rfl) rfl (Yv.add rfl rfl (by omega)) ?_
            refine RW.y (.inl rfl) rfl (Yv.move rfl) ?_
            refine RW.nil ?_
            refine PW.mem _ (fun w h => h.erase 0) ?_
            refine PW.mem _ (fun w h => h.row_eq (m' := D.n) (xs' := bools (cs2.set (headOf D.l (i : Int)).toNat true)) 2 rfl (rfl) (bools_set _ _ _)) ?_
            refine PW.mem _ (fun w h => h.row_eq (m' := (out2 ++ [headOf D.l (i : Int)]).length) (xs' := i64s (out2 ++ [headOf D.l (i : Int)])) 1 rfl (by simp) (by simp [i64s])) ?_
            exact PW.next (j + 1, cs2.set (headOf D.l (i : Int)).toNat true, out2 ++ [headOf D.l (i : Int)], v78) (⟨by show j + 1 ≤ (outOf D.n D.l u).length; omega, by show BfsIn _ _ _ _ _ _ _ (List.take (j + 1) _); rw [take_snocN hi]; exact hB2.see hok hu2 (by omega) hit (by rw [hai]; exact hc65) (by rw [hb2]; simpa using hc71), by show (out2 ++ [_])[k]? = some u; rw [List.getElem?_append_left (by omega)]; exact hu2⟩) ⟨rfl, rfl, rfl, rfl, rfl, rfl, rfl, trivial⟩ (fun w h => h) (by show (outOf D.n D.l u).length - (j + 1) < (outOf D.n D.l u).length - j; omega)
          ·
            refine CW.skip ?_
            refine PW.block ?_
            refine PW.go ?_
            refine CW.region ?_
            refine RW.y (.inl rfl) rfl (Yv.add rfl rfl (by omega)) ?_
            refine RW.y (.inl rfl) rfl (Yv.move rfl) ?_
            refine RW.nil ?_
            exact PW.next (j + 1, cs2, out2, vo2) (⟨by show j + 1 ≤ (outOf D.n D.l u).length; omega, by show BfsIn _ _ _ _ _ _ _ (List.take (j + 1) _); rw [take_snocN hi]; exact hB2.pass (fun hp => by first | (rw [hb2]; simpa using hc71) | (exact absurd (by rwa [hai] at hp) hc65)), hu2⟩) ⟨rfl, rfl, rfl, rfl, rfl, rfl, rfl, trivial⟩ (fun w h => h) (by show (outOf D.n D.l u).length - (j + 1) < (outOf D.n D.l u).length - j; omega)
        ·
          refine RW.no ⟨_, _, 65, _, rfl, rfl, rfl, fun h => by simp [undef] at h⟩ rfl ?_
          refine RW.no ⟨_, _, 65, _, rfl, rfl, rfl, fun h => by simp [undef] at h⟩ rfl ?_
          refine RW.no ⟨_, _, 65, _, rfl, rfl, rfl, fun h => by simp [undef] at h⟩ rfl ?_
          refine RW.no ⟨_, _, 65, _, rfl, rfl, rfl, fun h => by simp [undef] at h⟩ rfl ?_
          refine RW.no ⟨_, _, 65, _, rfl, rfl, rfl, fun h => by simp [undef] at h⟩ rfl ?_
          refine RW.y (.inl rfl) rfl (Yv.pickF rfl rfl) ?_
          refine RW.nil ?_
          refine PW.go ?_
          refine CW.condF rfl ?_
          refine CW.skip ?_
          refine PW.block ?_
          refine PW.go ?_
          refine CW.region ?_
          refine RW.y (.inl rfl) rfl (Yv.add rfl rfl (by omega)) ?_
          refine RW.y (.inl rfl) rfl (Yv.move rfl) ?_
          refine RW.nil ?_
          exact PW.next (j + 1, cs2, out2, vo2) (⟨by show j + 1 ≤ (outOf D.n D.l u).length; omega, by show BfsIn _ _ _ _ _ _ _ (List.take (j + 1) _); rw [take_snocN hi]; exact hB2.pass (fun hp => by first | (rw [hb2]; simpa using hc71) | (exact absurd (by rwa [hai] at hp) hc65)), hu2⟩) ⟨rfl, rfl, rfl, rfl, rfl, rfl, rfl, trivial⟩ (fun w h => h) (by show (outOf D.n D.l u).length - (j + 1) < (outOf D.n D.l u).length - j; omega)
      ·
        refine CW.exit ?_
        refine PW.then_exit ?_
        refine PW.then_exit ?_
        refine PW.block_exit ?_
        refine PW.block ?_
        refine PW.go ?_
        refine CW.region ?_
        refine RW.y (.inl rfl) rfl (Yv.move rfl) ?_
        refine RW.y (.inl rfl) rfl (Yv.add rfl rfl (by omega)) ?_
        refine RW.y (.inl rfl) rfl (Yv.assign rfl) ?_
        refine RW.nil ?_
        exact PW.next (k + 1, cs2, out2, vo2) (⟨by show k + 1 ≤ out2.length; omega, BfsIn.next (by rw [← show (outOf D.n D.l u).take j = (outOf D.n D.l u) from List.take_of_length_le (by omega)]; exact hB2) hok hu2 hu0⟩) ⟨rfl, rfl, rfl, rfl, trivial⟩ (fun w h => (h).erase 0) (by show D.n - (k + 1) < D.n - k; omega)
    ·
      refine CW.exit ?_
      refine PW.then_exit ?_
      refine PW.then_exit ?_
      refine PW.block_exit ?_
      refine PW.go ?_
      refine CW.seq ?_
      have hke : k = out.length := by omega
      subst hke
      refine CW.facts _ (fun w h => h.row_slice 0 rfl) ?_
      rintro ⟨Ao, co, rfl⟩
      refine CW.region ?_
      refine RW.y (.inl rfl) rfl (Yv.move rfl) ?_
      refine RW.o _ (.inl rfl) rfl (Ow.call e40 rfl (C.mut (val := fun _ : Unit => .tuple #[]) (Ψ := fun _ : Unit => row (.slice Ao out.length co) 3 1 out.length (i64s (sortL out))) (φ := fun _ => True) 0 rfl (fun w2 F2 h2 h3 => sortInts Ao co out w2 F2 h2 (by omega)))) ?_
      rintro _ _ ⟨_, -, rfl, rfl⟩
      refine RW.nil ?_
      refine PW.go ?_
      refine CW.seq ?_
      refine CW.region ?_
      refine RW.y (.inl rfl) rfl (Yv.move rfl) ?_
      refine RW.y (.inl rfl) rfl (Yv.assign rfl) ?_
      refine RW.nil ?_
      refine PW.go ?_
      refine CW.ret ?_
      refine PW.ret1 Tryz.results50 rfl (fun w1 hs => ?_)
      have hs' := hs.row_eq (m' := (rchL D.n D.l f v).length) (xs' := i64s (rchL D.n D.l f v)) 0 rfl (by rw [← hB.list hv hok, sortL_length]) (by rw [hB.list hv hok])
      obtain ⟨F, hF, hk⟩ := hs'.out 0 rfl
      exact ⟨_, rfl, hs.mod.below, F, hF, hk⟩

theorem restReach (R : RI) (D : ArcsD) (f ys : List Int) (hok : ArcsOk D.n D.l) (hF : FlowOk D.l f) (hof : ∀ v, v < D.n → D.of v = outOf D.n D.l v) (v : Int) (w : World) (hR : IsRest w R D (leftL D.l f) ys) : Calls Tryz.prog 50 #[.pointer (some ⟨R.b, 0, none⟩), .int .i64 v] w fun e w1 => ∃ u_, e = .returned u_ ∧ Gr w w1 ∧ ∃ F, (row u_ 3 1 (rchL D.n D.l f v).length (i64s (rchL D.n D.l f v))).holds w1 F ∧ ∀ k, F k → w.heap.size ≤ k ∧ k < w1.heap.size := by
  by_cases hv : 0 ≤ v ∧ v < D.n
  · exact restReachIn R D f ys hok hF hof v hv w hR
  · rw [show rchL D.n D.l f v = [] by unfold rchL; rw [if_neg hv]]
    exact (restReach_out R D _ ys v w hR (by omega)).mono fun e w1 ⟨he, hb⟩ => ⟨_, he, hb, none0, ⟨World.ownsRow_nil w1 0 3 1, fun k => ⟨fun h => h.elim, fun h => by simp [Value.ownBlock] at h⟩⟩, fun k h => h.elim⟩

end Go.Proofs.YtipoblpnkkcpgaaGreat
