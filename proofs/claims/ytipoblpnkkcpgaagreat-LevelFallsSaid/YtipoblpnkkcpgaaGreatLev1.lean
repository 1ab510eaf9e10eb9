/- Walks, written by a program of this session (gen.py) out of a spec. -/
import Derived.Test.YtipoblpnkkcpgaaGreatWayP
import Derived.Test.YtipoblpnkkcpgaaGreatLev0
set_option linter.unusedVariables false
set_option linter.unusedSimpArgs false
namespace Go.Proofs.YtipoblpnkkcpgaaGreat
open Go Go.RowKit Go.Proofs.YtipoblpnkkcpgaaGreat.B

theorem oAt_rep (n : Nat) (u : Int) : oAt (List.replicate n (-1 : Int)) u = -1 := by
  unfold oAt
  split
  · rw [List.getD_eq_getElem?_getD, List.getElem?_replicate]; split <;> rfl
  · rfl
theorem bstep_eq {l : List Edg} {f out : List Int} {v b i r : Int} (h : (candB l f out v i ∧ (b < 0 ∨ i < b) → r = i) ∧ (¬ (candB l f out v i ∧ (b < 0 ∨ i < b)) → r = b)) : bstep l f out v b i = r := by
  unfold bstep
  split
  · rename_i hc; exact (h.1 hc).symm
  · rename_i hc; exact (h.2 hc).symm

set_option maxRecDepth 100000 in
theorem levelWay (R : RI) (D : ArcsD) (f ys : List Int) (hok : ArcsOk D.n D.l) (hF : FlowOk D.l f) (hof : ∀ v, v < D.n → D.of v = outOf D.n D.l v) (s t : Int) (w : World) (hR : IsRest w R D (leftL D.l f) ys) : Calls Tryz.prog 33 #[.pointer (some ⟨R.b, 0, none⟩), .int .i64 s, .int .i64 t] w fun e w1 => ∃ x : List Int × Value, ((0 ≤ t ∧ t < D.n → Dist D.n (nbT D.n D.l f) t x.1) ∧ (¬ (0 ≤ t ∧ t < D.n) → x.1 = List.replicate D.n (-1))) ∧ e = .returned x.2 ∧ Gr w w1 ∧ ∃ F, (row x.2 3 1 (wayOf D.n D.l f x.1 s).length (i64s (wayOf D.n D.l f x.1 s))).holds w1 F ∧ ∀ k, F k → w.heap.size ≤ k ∧ k < w1.heap.size := by
  have hml := hok.hl
  have hnn := hok.hn
  have hlx := leftL_length D.l f
  refine CW.enter (P := Tryz.prog) (F0 := none0) (L := [(0, _), (1, _), (2, _)]) 85 [] Tryz.func33 rfl Tryz.ntmps33 (Nat.le_of_ble_eq_true rfl) (St.start w none0) rfl ?_
  refine CW.seq ?_
  refine CW.region ?_
  refine RW.y (.inl rfl) rfl (Yv.assign rfl) ?_
  refine RW.nil ?_
  refine PW.go ?_
  refine CW.seq ?_
  refine CW.region ?_
  refine RW.y (.inl rfl) rfl (Yv.move rfl) ?_
  refine RW.y (.inl rfl) rfl (Yv.move rfl) ?_
  refine RW.o _ (.inl rfl) rfl (Ow.call e29 rfl (C.new (val := fun (x : Nat × List Int) => .slice (some ⟨x.1, 0, none⟩) D.n D.n) (φ := fun x => ((0 ≤ t ∧ t < D.n → Dist D.n (nbT D.n D.l f) t x.2) ∧ (¬ (0 ≤ t ∧ t < D.n) → x.2 = List.replicate D.n (-1)))) (Ψ := fun x => row (.slice (some ⟨x.1, 0, none⟩) D.n D.n) 3 1 D.n (i64s (x.2))) (fun w2 hs => levelTo R D f ys hok hof t w2 (hR.below hs.mod.below)))) ?_
  rintro _ _ ⟨⟨bt, out⟩, hto, rfl, rfl⟩
  refine RW.y (.inl rfl) rfl (Yv.assign rfl) ?_
  refine RW.nil ?_
  refine PW.go ?_
  refine CW.seq ?_
  refine CW.seq ?_
  (try dsimp only at hto)
  have holen : out.length = D.n := by
    by_cases h : 0 ≤ t ∧ t < D.n
    · exact (hto.1 h).len
    · rw [hto.2 h]; simp
  refine CW.region ?_
  refine RW.y (.inl rfl) rfl (Yv.move rfl) ?_
  refine RW.y (.inl rfl) rfl (Yv.lt rfl rfl) ?_
  refine RW.y (.inl rfl) rfl (Yv.move rfl) ?_
  refine RW.splitD 19 rfl (fun hc19 => ?_) (fun hc19 => ?_)
  ·
    refine RW.no ⟨_, _, 19, _, rfl, rfl, rfl, fun h => by simp [undef] at h⟩ rfl ?_
    refine RW.no ⟨_, _, 19, _, rfl, rfl, rfl, fun h => by simp [undef] at h⟩ rfl ?_
    refine RW.no ⟨_, _, 19, _, rfl, rfl, rfl, fun h => by simp [undef] at h⟩ rfl ?_
    refine RW.no ⟨_, _, 19, _, rfl, rfl, rfl, fun h => by simp [undef] at h⟩ rfl ?_
    refine RW.y (.inl rfl) rfl (Yv.pickT rfl rfl) ?_
    refine RW.y (.inl rfl) rfl (Yv.move rfl) ?_
    refine RW.no ⟨_, _, 25, _, rfl, rfl, rfl, fun h => by simp [undef] at h⟩ rfl ?_
    refine RW.no ⟨_, _, 25, _, rfl, rfl, rfl, fun h => by simp [undef] at h⟩ rfl ?_
    refine RW.no ⟨_, _, 25, _, rfl, rfl, rfl, fun h => by simp [undef] at h⟩ rfl ?_
    refine RW.no ⟨_, _, 25, _, rfl, rfl, rfl, fun h => by simp [undef] at h⟩ rfl ?_
    refine RW.no ⟨_, _, 25, _, rfl, rfl, rfl, fun h => by simp [undef] at h⟩ rfl ?_
    refine RW.y (.inl rfl) rfl (Yv.pickT rfl rfl) ?_
    refine RW.nil ?_
    refine PW.go ?_
    refine CW.condT rfl ?_
    refine CW.seq ?_
    refine CW.region ?_
    refine RW.y (.inl rfl) rfl (Yv.assign rfl) ?_
    refine RW.nil ?_
    refine PW.go ?_
    refine CW.ret ?_
    refine PW.then_ret ?_
    refine PW.ret1 Tryz.results33 rfl (fun w1 hs => ?_)
    refine ⟨(out, .slice none 0 0), hto, rfl, hs.mod.below, none0, ?_, fun k hk => hk.elim⟩
    have hw : wayOf D.n D.l f out s = [] := by
      unfold wayOf
      rw [if_pos]
      first
      | (rw [oAt_out (by omega)]; omega)
      | omega
    show (row _ _ 1 (wayOf D.n D.l f out s).length (i64s (wayOf D.n D.l f out s))).holds w1 _
    rw [hw]
    exact ⟨World.ownsRow_nil _ _ _ _, fun k => ⟨fun h => h.elim, fun h => by simp [Value.ownBlock] at h⟩⟩
  ·
    refine RW.y (.inr ⟨_, _, 19, rfl, rfl, rfl⟩) rfl (Yv.move rfl) ?_
    refine RW.y (.inr ⟨_, _, 19, rfl, rfl, rfl⟩) rfl (Yv.move rfl) ?_
    refine RW.y (.inr ⟨_, _, 19, rfl, rfl, rfl⟩) rfl (Yv.len Tryz.underlying51 rfl) ?_
    refine RW.y (.inr ⟨_, _, 19, rfl, rfl, rfl⟩) rfl (Yv.ge rfl rfl) ?_
    refine RW.y (.inl rfl) rfl (Yv.pickF rfl rfl) ?_
    refine RW.y (.inl rfl) rfl (Yv.move rfl) ?_
    refine RW.splitD 25 rfl (fun hc25 => ?_) (fun hc25 => ?_)
    ·
      refine RW.no ⟨_, _, 25, _, rfl, rfl, rfl, fun h => by simp [undef] at h⟩ rfl ?_
      refine RW.no ⟨_, _, 25, _, rfl, rfl, rfl, fun h => by simp [undef] at h⟩ rfl ?_
      refine RW.no ⟨_, _, 25, _, rfl, rfl, rfl, fun h => by simp [undef] at h⟩ rfl ?_
      refine RW.no ⟨_, _, 25, _, rfl, rfl, rfl, fun h => by simp [undef] at h⟩ rfl ?_
      refine RW.no ⟨_, _, 25, _, rfl, rfl, rfl, fun h => by simp [undef] at h⟩ rfl ?_
      refine RW.y (.inl rfl) rfl (Yv.pickT rfl rfl) ?_
      refine RW.nil ?_
      refine PW.go ?_
      refine CW.condT rfl ?_
      refine CW.seq ?_
      refine CW.region ?_
      refine RW.y (.inl rfl) rfl (Yv.assign rfl) ?_
      refine RW.nil ?_
      refine PW.go ?_
      refine CW.ret ?_
      refine PW.then_ret ?_
      refine PW.ret1 Tryz.results33 rfl (fun w1 hs => ?_)
      refine ⟨(out, .slice none 0 0), hto, rfl, hs.mod.below, none0, ?_, fun k hk => hk.elim⟩
      have hw : wayOf D.n D.l f out s = [] := by
        unfold wayOf
        rw [if_pos]
        first
        | (rw [oAt_out (by omega)]; omega)
        | omega
      show (row _ _ 1 (wayOf D.n D.l f out s).length (i64s (wayOf D.n D.l f out s))).holds w1 _
      rw [hw]
      exact ⟨World.ownsRow_nil _ _ _ _, fun k => ⟨fun h => h.elim, fun h => by simp [Value.ownBlock] at h⟩⟩
    ·
      obtain ⟨x0, hx0⟩ : ∃ x, out[s.toNat]? = some x := ⟨_, List.getElem?_eq_getElem (by omega)⟩
      have ho0 := oAt_of (by omega) hx0
      refine RW.y (.inr ⟨_, _, 25, rfl, rfl, rfl⟩) rfl (Yv.move rfl) ?_
      refine RW.y (.inr ⟨_, _, 25, rfl, rfl, rfl⟩) rfl (Yv.move rfl) ?_
      refine RW.y (.inr ⟨_, _, 25, rfl, rfl, rfl⟩) rfl (Yv.index0 Tryz.underlying51 Tryz.sizeOf3 rfl rfl (by omega) (by omega)) ?_
      refine RW.y (.inr ⟨_, _, 25, rfl, rfl, rfl⟩) rfl (Yv.load1 Tryz.isAgg3 rfl (CF.row 0 rfl (i64s_get _ _ _ hx0))) ?_
      refine RW.y (.inr ⟨_, _, 25, rfl, rfl, rfl⟩) rfl (Yv.lt rfl rfl) ?_
      refine RW.y (.inl rfl) rfl (Yv.pickF rfl rfl) ?_
      refine RW.nil ?_
      refine PW.go ?_
      refine CW.condD rfl (fun hc31 => ?_) (fun hc31 => ?_)
      ·
        refine CW.seq ?_
        refine CW.region ?_
        refine RW.y (.inl rfl) rfl (Yv.assign rfl) ?_
        refine RW.nil ?_
        refine PW.go ?_
        refine CW.ret ?_
        refine PW.then_ret ?_
        refine PW.ret1 Tryz.results33 rfl (fun w1 hs => ?_)
        refine ⟨(out, .slice none 0 0), hto, rfl, hs.mod.below, none0, ?_, fun k hk => hk.elim⟩
        have hw : wayOf D.n D.l f out s = [] := by
          unfold wayOf
          rw [if_pos]
          first
          | (rw [oAt_out (by omega)]; omega)
          | omega
        show (row _ _ 1 (wayOf D.n D.l f out s).length (i64s (wayOf D.n D.l f out s))).holds w1 _
        rw [hw]
        exact ⟨World.ownsRow_nil _ _ _ _, fun k => ⟨fun h => h.elim, fun h => by simp [Value.ownBlock] at h⟩⟩
      ·
        refine CW.skip ?_
        refine PW.go ?_
        refine CW.seq ?_
        refine CW.region ?_
        refine RW.y (.inl rfl) rfl (Yv.move rfl) ?_
        refine RW.o _ (.inl rfl) rfl (Ow.call e15 rfl (C.val (fun w hs => restArcs R D.n _ _ (hR.below hs.mod.below).hb))) ?_
        rintro _ _ ⟨rfl, rfl⟩
        refine RW.y (.inl rfl) rfl (Yv.assign rfl) ?_
        refine RW.nil ?_
        refine PW.go ?_
        refine CW.seq ?_
        have hd : Dist D.n (nbT D.n D.l f) t out := by
          refine hto.1 (Classical.byContradiction fun h => ?_)
          rw [hto.2 h, oAt_rep] at ho0; omega
        obtain ⟨K, hK⟩ : ∃ K : Nat, oAt out s = K := ⟨(oAt out s).toNat, by omega⟩
        have hKn := (hd.lo s).2
        have hway : wayOf D.n D.l f out s = wayF D.n D.l f out K s := by unfold wayOf; rw [if_neg (by omega), hK]; rfl
        refine CW.region ?_
        refine RW.mem _ (fun w h => h.emptyRow 3 1) ?_
        refine RW.y (.inl rfl) rfl (Yv.assign rfl) ?_
        refine RW.nil ?_
        refine PW.go ?_
        refine CW.seq ?_
        refine CW.seq ?_
        refine CW.region ?_
        refine RW.y (.inl rfl) rfl (Yv.move rfl) ?_
        refine RW.y (.inl rfl) rfl (Yv.assign rfl) ?_
        refine RW.nil ?_
        refine PW.go ?_
        refine CW.block ?_
        refine CW.loop (σ := Nat × Int × List Int × Value) (fun q => oAt out q.2.1 = (q.1 : Nat) ∧ (0 ≤ q.2.1 ∧ q.2.1 < D.n) ∧ q.2.2.1 ++ wayF D.n D.l f out q.1 q.2.1 = wayF D.n D.l f out K s ∧ q.2.2.1.length + q.1 = K) (fun q => [(0, .pointer (some ⟨R.b, 0, none⟩)), (7, .slice (some ⟨bt, 0, none⟩) D.n D.n), (8, .pointer (some ⟨R.ba, 0, none⟩)), (9, q.2.2.2), (10, .int .i64 q.2.1)]) (fun q => [row q.2.2.2 3 1 q.2.2.1.length (i64s q.2.2.1), row (.slice (some ⟨bt, 0, none⟩) D.n D.n) 3 1 D.n (i64s (out))]) (fun q => q.1) (K, s, [], .slice none 0 0) (⟨hK, ⟨by show 0 ≤ s; omega, by show s < D.n; omega⟩, rfl, by simp⟩) ⟨rfl, rfl, rfl, rfl, rfl, trivial⟩ (fun w h => h) ?_
        rintro ⟨k, v, acc, vw⟩ ⟨hk, hv, hacc, hal⟩
        (try dsimp only at *)
        refine CW.seq ?_
        refine CW.seq ?_
        obtain ⟨xv, hxv⟩ : ∃ x, out[v.toNat]? = some x := ⟨_, List.getElem?_eq_getElem (by omega)⟩
        have hov := oAt_of hv.1 hxv
        refine CW.region ?_
        refine RW.y (.inl rfl) rfl (Yv.move rfl) ?_
        refine RW.y (.inl rfl) rfl (Yv.move rfl) ?_
        refine RW.y (.inl rfl) rfl (Yv.index0 Tryz.underlying51 Tryz.sizeOf3 rfl rfl (by omega) (by omega)) ?_
        refine RW.y (.inl rfl) rfl (Yv.load1 Tryz.isAgg3 rfl (CF.row 1 rfl (i64s_get _ _ _ hxv))) ?_
        refine RW.y (.inl rfl) rfl (Yv.gt rfl rfl) ?_
        refine RW.nil ?_
        refine PW.go ?_
        refine CW.condD rfl (fun hc39 => ?_) (fun hc39 => ?_)
        ·
          refine CW.skip ?_
          refine PW.go ?_
          refine CW.block ?_
          refine CW.seq ?_
          obtain ⟨hb0, hb1, hbt, hbc, _⟩ := best_ok hok hd (v := v) (by omega)
          have hbh := head_rng hok hb0 hb1
          refine CW.region ?_
          refine RW.y (.inl rfl) rfl (Yv.assign rfl) ?_
          refine RW.nil ?_
          refine PW.go ?_
          refine CW.seq ?_
          refine CW.seq ?_
          refine CW.region ?_
          refine RW.y (.inl rfl) rfl (Yv.move rfl) ?_
          refine RW.y (.inl rfl) rfl (Yv.move rfl) ?_
          refine RW.o _ (.inl rfl) rfl (Ow.call e78 rfl (C.new (val := id) (φ := fun _ => True) (Ψ := fun v_ => row v_ 3 1 ((outOf D.n D.l v).length) (i64s (outOf D.n D.l v))) (fun w2 hs => ((by have h := arcsOut R.ba D v w2 (hR.below hs.mod.below).ha hv; rw [hof v.toNat (by omega), show ((v.toNat : Nat) : Int) = v by omega] at h; exact h : Calls Tryz.prog _ _ w2 fun e w1 => ∃ u_, e = .returned u_ ∧ Gr w2 w1 ∧ ∃ F, (row u_ 3 1 (outOf D.n D.l v).length (i64s (outOf D.n D.l v))).holds w1 F ∧ ∀ k, F k → w2.heap.size ≤ k ∧ k < w1.heap.size)).mono (fun e w3 ⟨v_, hv_, hb, F, hF, hk_⟩ => ⟨v_, trivial, hv_, hb, F, hF, hk_⟩)))) ?_
          rintro _ _ ⟨v_o, -, rfl, rfl⟩
          refine RW.y (.inl rfl) rfl (Yv.lenRow 0 Tryz.underlying51 rfl rfl) ?_
          refine RW.facts _ (fun w h => h.row_slice 0 rfl) ?_
          rintro ⟨Aq, cq, rfl⟩
          have hol := outOf_length2 D.l v D.n
          have hmm : D.n * (2 * D.l.length) ≤ 4096 * (2 * 1048576) := Nat.mul_le_mul (by omega) (by omega)
          refine RW.y (.inl rfl) rfl (Yv.move rfl) ?_
          refine RW.nil ?_
          refine PW.go ?_
          refine CW.block ?_
          refine CW.loop (σ := Nat × Int) (fun q => q.1 ≤ (outOf D.n D.l v).length ∧ q.2 = ((outOf D.n D.l v).take q.1).foldl (bstep D.l f out v) (-1)) (fun q => [(0, .pointer (some ⟨R.b, 0, none⟩)), (7, .slice (some ⟨bt, 0, none⟩) D.n D.n), (8, .pointer (some ⟨R.ba, 0, none⟩)), (9, vw), (10, .int .i64 v), (11, .int .i64 q.2), (42, .slice Aq (outOf D.n D.l v).length cq), (43, .int .i64 ((outOf D.n D.l v).length : Nat)), (44, .int .i64 (q.1 : Nat))]) (fun q => [row (.slice Aq (outOf D.n D.l v).length cq) 3 1 (outOf D.n D.l v).length (i64s (outOf D.n D.l v)), row vw 3 1 acc.length (i64s acc), row (.slice (some ⟨bt, 0, none⟩) D.n D.n) 3 1 D.n (i64s (out))]) (fun q => (outOf D.n D.l v).length - q.1) (0, -1) (⟨by simp, by simp⟩) ⟨rfl, rfl, rfl, rfl, rfl, rfl, rfl, rfl, rfl, trivial⟩ (fun w h => h) ?_
          rintro ⟨j, best⟩ ⟨hj, hbj⟩
          (try dsimp only at *)
          refine CW.seq ?_
          refine CW.region ?_
          refine RW.y (.inl rfl) rfl (Yv.lt rfl rfl) ?_
          refine RW.nil ?_
          refine PW.go ?_
          refine CW.seq ?_
          refine CW.condD rfl (fun hc45 => ?_) (fun hc45 => ?_)
          ·
            refine CW.skip ?_
            refine PW.go ?_
            refine CW.seq ?_
            refine CW.block ?_
            refine CW.seq ?_
            have hjl : j < (outOf D.n D.l v).length := by omega
            refine CW.facts _ (fun w h => h.row_some 0 rfl (by omega)) ?_
            rintro ⟨bq, rfl⟩
            obtain ⟨i0, hi⟩ : ∃ x, (outOf D.n D.l v)[j]? = some x := ⟨_, List.getElem?_eq_getElem hjl⟩
            obtain ⟨hi0, hi1, hit, _⟩ := outOf_mem hok (List.mem_of_getElem? hi)
            obtain ⟨i, rfl⟩ : ∃ i : Nat, i0 = i := ⟨i0.toNat, by omega⟩
            have hhr := head_rng hok hi0 hi1
            obtain ⟨xh, hxh⟩ : ∃ x, out[(headOf D.l (i : Int)).toNat]? = some x := ⟨_, List.getElem?_eq_getElem (by omega)⟩
            have hoh := oAt_of hhr.1 hxh
            have hxhb := hd.lo (headOf D.l (i : Int))
            refine CW.region ?_
            refine RW.y (.inl rfl) rfl (Yv.index0 Tryz.underlying51 Tryz.sizeOf3 rfl rfl (by omega) (by omega)) ?_
            refine RW.y (.inl rfl) rfl (Yv.load1 Tryz.isAgg3 rfl (CF.row 0 rfl (i64s_get _ _ _ hi))) ?_
            refine RW.y (.inl rfl) rfl (Yv.assign rfl) ?_
            refine RW.nil ?_
            refine PW.go ?_
            refine CW.seq ?_
            refine CW.draw0 mixed ?_
            refine HW.take 0 rfl (by kernel_rfl) (by kernel_rfl) (by kernel_rfl) (fun _ _ _ h => h) (.inl rfl) rfl (fun _ h => h) (Yv.move rfl) ?_
            refine HW.take 1 rfl (by kernel_rfl) (by kernel_rfl) (by kernel_rfl) (fun _ _ _ h => h) (.inl rfl) rfl (fun _ h => h) (Yv.move rfl) ?_
            refine HW.run 2 rfl (by kernel_rfl) _ (.inl rfl) rfl (Ow.call e32 rfl (C.val (fun w hs => restLeftT R D _ _ (i : Int) _ (hR.below hs.mod.below) (a := atI (leftL D.l f) (i : Int)) rfl))) (by rintro _ _ ⟨rfl, rfl⟩ w h; exact h) ?_
            rintro _ _ ⟨rfl, rfl⟩
            refine HW.take 3 rfl (by kernel_rfl) (by kernel_rfl) (by kernel_rfl) (fun _ _ _ h => h) (.inl rfl) rfl (fun _ h => h) (Yv.gt rfl rfl) ?_
            refine HW.take 4 rfl (by kernel_rfl) (by kernel_rfl) (by kernel_rfl) (fun _ _ _ h => h) (.inl rfl) rfl (fun _ h => h) (Yv.move rfl) ?_
            refine HW.splitD 52 rfl (fun hc52 => ?_) (fun hc52 => ?_)
            ·
              refine HW.take 5 rfl (by kernel_rfl) (by kernel_rfl) (by kernel_rfl) (fun _ _ _ h => h) (.inr ⟨_, _, 52, rfl, rfl, rfl⟩) rfl (fun _ h => h) (Yv.move rfl) ?_
              refine HW.take 6 rfl (by kernel_rfl) (by kernel_rfl) (by kernel_rfl) (fun _ _ _ h => h) (.inr ⟨_, _, 52, rfl, rfl, rfl⟩) rfl (fun _ h => h) (Yv.move rfl) ?_
              refine HW.take 7 rfl (by kernel_rfl) (by kernel_rfl) (by kernel_rfl) (fun _ _ _ h => h) (.inr ⟨_, _, 52, rfl, rfl, rfl⟩) rfl (fun _ h => h) (Yv.move rfl) ?_
              refine HW.take 11 rfl (by kernel_rfl) (by kernel_rfl) (by kernel_rfl) (fun _ _ _ h => h) (.inr ⟨_, _, 52, rfl, rfl, rfl⟩) rfl (fun _ h => h) (Yv.move rfl) ?_
              refine HW.take 12 rfl (by kernel_rfl) (by kernel_rfl) (by kernel_rfl) (fun _ _ _ h => h) (.inr ⟨_, _, 52, rfl, rfl, rfl⟩) rfl (fun _ h => h) (Yv.move rfl) ?_
              refine HW.take 13 rfl (by kernel_rfl) (by kernel_rfl) (by kernel_rfl) (fun _ _ _ h => h) (.inr ⟨_, _, 52, rfl, rfl, rfl⟩) rfl (fun _ h => h) (Yv.index0 Tryz.underlying51 Tryz.sizeOf3 rfl rfl (by omega) (by omega)) ?_
              refine HW.take 14 rfl (by kernel_rfl) (by kernel_rfl) (by kernel_rfl) (fun _ _ _ h => h) (.inr ⟨_, _, 52, rfl, rfl, rfl⟩) rfl (fun _ h => h) (Yv.load1 Tryz.isAgg3 rfl (CF.row 2 rfl (i64s_get _ _ _ hxv))) ?_
              refine HW.take 15 rfl (by kernel_rfl) (by kernel_rfl) (by kernel_rfl) (fun _ _ _ h => h) (.inr ⟨_, _, 52, rfl, rfl, rfl⟩) rfl (fun _ h => h) (Yv.sub rfl rfl (by omega)) ?_
              refine HW.run 8 rfl (by kernel_rfl) _ (.inr ⟨_, _, 52, rfl, rfl, rfl⟩) rfl (Ow.call e31 rfl (C.val (fun w hs => arcsHead R.ba D (i : Int) _ (hR.below hs.mod.below).ha))) (by rintro _ _ ⟨rfl, rfl⟩ w h; exact h) ?_
              rintro _ _ ⟨rfl, rfl⟩
              refine HW.take 9 rfl (by kernel_rfl) (by kernel_rfl) (by kernel_rfl) (fun _ _ _ h => h) (.inr ⟨_, _, 52, rfl, rfl, rfl⟩) rfl (fun _ h => h) (Yv.index0 Tryz.underlying51 Tryz.sizeOf3 rfl rfl (by omega) (by omega)) ?_
              refine HW.take 10 rfl (by kernel_rfl) (by kernel_rfl) (by kernel_rfl) (fun _ _ _ h => h) (.inr ⟨_, _, 52, rfl, rfl, rfl⟩) rfl (fun _ h => h) (Yv.load1 Tryz.isAgg3 rfl (CF.row 2 rfl (i64s_get _ _ _ hxh))) ?_
              refine HW.take 16 rfl (by kernel_rfl) (by kernel_rfl) (by kernel_rfl) (fun _ _ _ h => h) (.inr ⟨_, _, 52, rfl, rfl, rfl⟩) rfl (fun _ h => h) (Yv.eq rfl rfl) ?_
              refine HW.take 17 rfl (by kernel_rfl) (by kernel_rfl) (by kernel_rfl) (fun _ _ _ h => h) (.inl rfl) rfl (fun _ h => h) (Yv.pickT rfl rfl) ?_
              refine HW.take 18 rfl (by kernel_rfl) (by kernel_rfl) (by kernel_rfl) (fun _ _ _ h => h) (.inl rfl) rfl (fun _ h => h) (Yv.move rfl) ?_
              refine HW.splitD 66 rfl (fun hc66 => ?_) (fun hc66 => ?_)
              ·
                refine HW.take 19 rfl (by kernel_rfl) (by kernel_rfl) (by kernel_rfl) (fun _ _ _ h => h) (.inr ⟨_, _, 66, rfl, rfl, rfl⟩) rfl (fun _ h => h) (Yv.move rfl) ?_
                refine HW.take 20 rfl (by kernel_rfl) (by kernel_rfl) (by kernel_rfl) (fun _ _ _ h => h) (.inr ⟨_, _, 66, rfl, rfl, rfl⟩) rfl (fun _ h => h) (Yv.lt rfl rfl) ?_
                refine HW.take 21 rfl (by kernel_rfl) (by kernel_rfl) (by kernel_rfl) (fun _ _ _ h => h) (.inr ⟨_, _, 66, rfl, rfl, rfl⟩) rfl (fun _ h => h) (Yv.move rfl) ?_
                refine HW.splitD 69 rfl (fun hc69 => ?_) (fun hc69 => ?_)
                ·
                  refine HW.skip 22 rfl (by kernel_rfl) (by kernel_rfl) (by kernel_rfl) (fun _ _ _ h => h) ⟨_, _, 69, _, rfl, rfl, rfl, fun h => by simp [undef] at h⟩ rfl (fun _ h => h) ?_
                  refine HW.skip 23 rfl (by kernel_rfl) (by kernel_rfl) (by kernel_rfl) (fun _ _ _ h => h) ⟨_, _, 69, _, rfl, rfl, rfl, fun h => by simp [undef] at h⟩ rfl (fun _ h => h) ?_
                  refine HW.skip 24 rfl (by kernel_rfl) (by kernel_rfl) (by kernel_rfl) (fun _ _ _ h => h) ⟨_, _, 69, _, rfl, rfl, rfl, fun h => by simp [undef] at h⟩ rfl (fun _ h => h) ?_
                  refine HW.take 25 rfl (by kernel_rfl) (by kernel_rfl) (by kernel_rfl) (fun _ _ _ h => h) (.inr ⟨_, _, 66, rfl, rfl, rfl⟩) rfl (fun _ h => h) (Yv.pickT rfl rfl) ?_
                  refine HW.take 26 rfl (by kernel_rfl) (by kernel_rfl) (by kernel_rfl) (fun _ _ _ h => h) (.inl rfl) rfl (fun _ h => h) (Yv.pickT rfl rfl) ?_
                  refine HW.done (by kernel_rfl) ?_
                  refine PW.go ?_
                  refine CW.condT rfl ?_
                  refine CW.region ?_
                  refine RW.y (.inl rfl) rfl (Yv.move rfl) ?_
                  refine RW.y (.inl rfl) rfl (Yv.assign rfl) ?_
                  refine RW.nil ?_
                  refine PW.block ?_
                  refine PW.go ?_
                  refine CW.region ?_
                  refine RW.y (.inl rfl) rfl (Yv.add rfl rfl (by omega)) ?_
                  refine RW.y (.inl rfl) rfl (Yv.move rfl) ?_
                  refine RW.nil ?_
                  exact PW.next (j + 1, (i : Int)) (⟨by show j + 1 ≤ (outOf D.n D.l v).length; omega, by show _ = List.foldl _ _ (List.take (j + 1) _); rw [take_snocN hi, List.foldl_append, ← hbj]; exact (bstep_eq ⟨fun hc => by first | rfl | (exfalso; unfold candB at hc; omega), fun hc => by first | rfl | (exfalso; exact hc ⟨⟨by omega, by omega⟩, by omega⟩)⟩).symm⟩) ⟨rfl, rfl, rfl, rfl, rfl, rfl, rfl, rfl, rfl, trivial⟩ (fun w h => h) (by show (outOf D.n D.l v).length - (j + 1) < (outOf D.n D.l v).length - j; omega)
                ·
                  refine HW.take 22 rfl (by kernel_rfl) (by kernel_rfl) (by kernel_rfl) (fun _ _ _ h => h) (.inr ⟨_, _, 69, rfl, rfl, rfl⟩) rfl (fun _ h => h) (Yv.move rfl) ?_
                  refine HW.take 23 rfl (by kernel_rfl) (by kernel_rfl) (by kernel_rfl) (fun _ _ _ h => h) (.inr ⟨_, _, 69, rfl, rfl, rfl⟩) rfl (fun _ h => h) (Yv.move rfl) ?_
                  refine HW.take 24 rfl (by kernel_rfl) (by kernel_rfl) (by kernel_rfl) (fun _ _ _ h => h) (.inr ⟨_, _, 69, rfl, rfl, rfl⟩) rfl (fun _ h => h) (Yv.lt rfl rfl) ?_
                  refine HW.take 25 rfl (by kernel_rfl) (by kernel_rfl) (by kernel_rfl) (fun _ _ _ h => h) (.inr ⟨_, _, 66, rfl, rfl, rfl⟩) rfl (fun _ h => h) (Yv.pickF rfl rfl) ?_
                  refine HW.take 26 rfl (by kernel_rfl) (by kernel_rfl) (by kernel_rfl) (fun _ _ _ h => h) (.inl rfl) rfl (fun _ h => h) (Yv.pickT rfl rfl) ?_
                  refine HW.done (by kernel_rfl) ?_
                  refine PW.go ?_
                  refine CW.condD rfl (fun hc74 => ?_) (fun hc74 => ?_)
                  ·
                    refine CW.region ?_
                    refine RW.y (.inl rfl) rfl (Yv.move rfl) ?_
                    refine RW.y (.inl rfl) rfl (Yv.assign rfl) ?_
                    refine RW.nil ?_
                    refine PW.block ?_
                    refine PW.go ?_
                    refine CW.region ?_
                    refine RW.y (.inl rfl) rfl (Yv.add rfl rfl (by omega)) ?_
                    refine RW.y (.inl rfl) rfl (Yv.move rfl) ?_
                    refine RW.nil ?_
                    exact PW.next (j + 1, (i : Int)) (⟨by show j + 1 ≤ (outOf D.n D.l v).length; omega, by show _ = List.foldl _ _ (List.take (j + 1) _); rw [take_snocN hi, List.foldl_append, ← hbj]; exact (bstep_eq ⟨fun hc => by first | rfl | (exfalso; unfold candB at hc; omega), fun hc => by first | rfl | (exfalso; exact hc ⟨⟨by omega, by omega⟩, by omega⟩)⟩).symm⟩) ⟨rfl, rfl, rfl, rfl, rfl, rfl, rfl, rfl, rfl, trivial⟩ (fun w h => h) (by show (outOf D.n D.l v).length - (j + 1) < (outOf D.n D.l v).length - j; omega)
                  ·
                    refine CW.skip ?_
                    refine PW.block ?_
                    refine PW.go ?_
                    refine CW.region ?_
                    refine RW.y (.inl rfl) rfl (Yv.add rfl rfl (by omega)) ?_
                    refine RW.y (.inl rfl) rfl (Yv.move rfl) ?_
                    refine RW.nil ?_
                    exact PW.next (j + 1, best) (⟨by show j + 1 ≤ (outOf D.n D.l v).length; omega, by show _ = List.foldl _ _ (List.take (j + 1) _); rw [take_snocN hi, List.foldl_append, ← hbj]; exact (bstep_eq ⟨fun hc => by first | rfl | (exfalso; unfold candB at hc; omega), fun hc => by first | rfl | (exfalso; exact hc ⟨⟨by omega, by omega⟩, by omega⟩)⟩).symm⟩) ⟨rfl, rfl, rfl, rfl, rfl, rfl, rfl, rfl, rfl, trivial⟩ (fun w h => h) (by show (outOf D.n D.l v).length - (j + 1) < (outOf D.n D.l v).length - j; omega)
              ·
                refine HW.skip 19 rfl (by kernel_rfl) (by kernel_rfl) (by kernel_rfl) (fun _ _ _ h => h) ⟨_, _, 66, _, rfl, rfl, rfl, fun h => by simp [undef] at h⟩ rfl (fun _ h => h) ?_
                refine HW.skip 20 rfl (by kernel_rfl) (by kernel_rfl) (by kernel_rfl) (fun _ _ _ h => h) ⟨_, _, 66, _, rfl, rfl, rfl, fun h => by simp [undef] at h⟩ rfl (fun _ h => h) ?_
                refine HW.skip 21 rfl (by kernel_rfl) (by kernel_rfl) (by kernel_rfl) (fun _ _ _ h => h) ⟨_, _, 66, _, rfl, rfl, rfl, fun h => by simp [undef] at h⟩ rfl (fun _ h => h) ?_
                refine HW.skip 22 rfl (by kernel_rfl) (by kernel_rfl) (by kernel_rfl) (fun _ _ _ h => h) ⟨_, _, 69, _, rfl, rfl, rfl, fun h => by simp [undef] at h⟩ rfl (fun _ h => h) ?_
                refine HW.skip 23 rfl (by kernel_rfl) (by kernel_rfl) (by kernel_rfl) (fun _ _ _ h => h) ⟨_, _, 69, _, rfl, rfl, rfl, fun h => by simp [undef] at h⟩ rfl (fun _ h => h) ?_
                refine HW.skip 24 rfl (by kernel_rfl) (by kernel_rfl) (by kernel_rfl) (fun _ _ _ h => h) ⟨_, _, 69, _, rfl, rfl, rfl, fun h => by simp [undef] at h⟩ rfl (fun _ h => h) ?_
                refine HW.skip 25 rfl (by kernel_rfl) (by kernel_rfl) (by kernel_rfl) (fun _ _ _ h => h) ⟨_, _, 66, _, rfl, rfl, rfl, fun h => by simp [undef] at h⟩ rfl (fun _ h => h) ?_
                refine HW.take 26 rfl (by kernel_rfl) (by kernel_rfl) (by kernel_rfl) (fun _ _ _ h => h) (.inl rfl) rfl (fun _ h => h) (Yv.pickF rfl rfl) ?_
                refine HW.done (by kernel_rfl) ?_
                refine PW.go ?_
                refine CW.condF rfl ?_
                refine CW.skip ?_
                refine PW.block ?_
                refine PW.go ?_
                refine CW.region ?_
                refine RW.y (.inl rfl) rfl (Yv.add rfl rfl (by omega)) ?_
                refine RW.y (.inl rfl) rfl (Yv.move rfl) ?_
                refine RW.nil ?_
                exact PW.next (j + 1, best) (⟨by show j + 1 ≤ (outOf D.n D.l v).length; omega, by show _ = List.foldl _ _ (List.take (j + 1) _); rw [take_snocN hi, List.foldl_append, ← hbj]; exact (bstep_eq ⟨fun hc => by first | rfl | (exfalso; unfold candB at hc; omega), fun hc => by first | rfl | (exfalso; exact hc ⟨⟨by omega, by omega⟩, by omega⟩)⟩).symm⟩) ⟨rfl, rfl, rfl, rfl, rfl, rfl, rfl, rfl, rfl, trivial⟩ (fun w h => h) (by show (outOf D.n D.l v).length - (j + 1) < (outOf D.n D.l v).length - j; omega)
            ·
              refine HW.skip 5 rfl (by kernel_rfl) (by kernel_rfl) (by kernel_rfl) (fun _ _ _ h => h) ⟨_, _, 52, _, rfl, rfl, rfl, fun h => by simp [undef] at h⟩ rfl (fun _ h => h) ?_
              refine HW.skip 6 rfl (by kernel_rfl) (by kernel_rfl) (by kernel_rfl) (fun _ _ _ h => h) ⟨_, _, 52, _, rfl, rfl, rfl, fun h => by simp [undef] at h⟩ rfl (fun _ h => h) ?_
              refine HW.skip 7 rfl (by kernel_rfl) (by kernel_rfl) (by kernel_rfl) (fun _ _ _ h => h) ⟨_, _, 52, _, rfl, rfl, rfl, fun h => by simp [undef] at h⟩ rfl (fun _ h => h) ?_
              refine HW.skip 11 rfl (by kernel_rfl) (by kernel_rfl) (by kernel_rfl) (fun _ _ _ h => h) ⟨_, _, 52, _, rfl, rfl, rfl, fun h => by simp [undef] at h⟩ rfl (fun _ h => h) ?_
              refine HW.skip 12 rfl (by kernel_rfl) (by kernel_rfl) (by kernel_rfl) (fun _ _ _ h => h) ⟨_, _, 52, _, rfl, rfl, rfl, fun h => by simp [undef] at h⟩ rfl (fun _ h => h) ?_
              refine HW.skip 13 rfl (by kernel_rfl) (by kernel_rfl) (by kernel_rfl) (fun _ _ _ h => h) ⟨_, _, 52, _, rfl, rfl, rfl, fun h => by simp [undef] at h⟩ rfl (fun _ h => h) ?_
              refine HW.skip 14 rfl (by kernel_rfl) (by kernel_rfl) (by kernel_rfl) (fun _ _ _ h => h) ⟨_, _, 52, _, rfl, rfl, rfl, fun h => by simp [undef] at h⟩ rfl (fun _ h => h) ?_
              refine HW.skip 15 rfl (by kernel_rfl) (by kernel_rfl) (by kernel_rfl) (fun _ _ _ h => h) ⟨_, _, 52, _, rfl, rfl, rfl, fun h => by simp [undef] at h⟩ rfl (fun _ h => h) ?_
              refine HW.skip 8 rfl (by kernel_rfl) (by kernel_rfl) (by kernel_rfl) (fun _ _ _ h => h) ⟨_, _, 52, _, rfl, rfl, rfl, fun h => by simp [undef] at h⟩ rfl (fun _ h => h) ?_
              refine HW.skip 9 rfl (by kernel_rfl) (by kernel_rfl) (by kernel_rfl) (fun _ _ _ h => h) ⟨_, _, 52, _, rfl, rfl, rfl, fun h => by simp [undef] at h⟩ rfl (fun _ h => h) ?_
              refine HW.skip 10 rfl (by kernel_rfl) (by kernel_rfl) (by kernel_rfl) (fun _ _ _ h => h) ⟨_, _, 52, _, rfl, rfl, rfl, fun h => by simp [undef] at h⟩ rfl (fun _ h => h) ?_
              refine HW.skip 16 rfl (by kernel_rfl) (by kernel_rfl) (by kernel_rfl) (fun _ _ _ h => h) ⟨_, _, 52, _, rfl, rfl, rfl, fun h => by simp [undef] at h⟩ rfl (fun _ h => h) ?_
              refine HW.take 17 rfl (by kernel_rfl) (by kernel_rfl) (by kernel_rfl) (fun _ _ _ h => h) (.inl rfl) rfl (fun _ h => h) (Yv.pickF rfl rfl) ?_
              refine HW.take 18 rfl (by kernel_rfl) (by kernel_rfl) (by kernel_rfl) (fun _ _ _ h => h) (.inl rfl) rfl (fun _ h => h) (Yv.move rfl) ?_
              refine HW.skip 19 rfl (by kernel_rfl) (by kernel_rfl) (by kernel_rfl) (fun _ _ _ h => h) ⟨_, _, 66, _, rfl, rfl, rfl, fun h => by simp [undef] at h⟩ rfl (fun _ h => h) ?_
              refine HW.skip 20 rfl (by kernel_rfl) (by kernel_rfl) (by kernel_rfl) (fun _ _ _ h => h) ⟨_, _, 66, _, rfl, rfl, rfl, fun h => by simp [undef] at h⟩ rfl (fun _ h => h) ?_
              refine HW.skip 21 rfl (by kernel_rfl) (by kernel_rfl) (by kernel_rfl) (fun _ _ _ h => h) ⟨_, _, 66, _, rfl, rfl, rfl, fun h => by simp [undef] at h⟩ rfl (fun _ h => h) ?_
              refine HW.skip 22 rfl (by kernel_rfl) (by kernel_rfl) (by kernel_rfl) (fun _ _ _ h => h) ⟨_, _, 69, _, rfl, rfl, rfl, fun h => by simp [undef] at h⟩ rfl (fun _ h => h) ?_
              refine HW.skip 23 rfl (by kernel_rfl) (by kernel_rfl) (by kernel_rfl) (fun _ _ _ h => h) ⟨_, _, 69, _, rfl, rfl, rfl, fun h => by simp [undef] at h⟩ rfl (fun _ h => h) ?_
              refine HW.skip 24 rfl (by kernel_rfl) (by kernel_rfl) (by kernel_rfl) (fun _ _ _ h => h) ⟨_, _, 69, _, rfl, rfl, rfl, fun h => by simp [undef] at h⟩ rfl (fun _ h => h) ?_
              refine HW.skip 25 rfl (by kernel_rfl) (by kernel_rfl) (by kernel_rfl) (fun _ _ _ h => h) ⟨_, _, 66, _, rfl, rfl, rfl, fun h => by simp [undef] at h⟩ rfl (fun _ h => h) ?_
              refine HW.take 26 rfl (by kernel_rfl) (by kernel_rfl) (by kernel_rfl) (fun _ _ _ h => h) (.inl rfl) rfl (fun _ h => h) (Yv.pickF rfl rfl) ?_
              refine HW.done (by kernel_rfl) ?_
              refine PW.go ?_
              refine CW.condF rfl ?_
              refine CW.skip ?_
              refine PW.block ?_
              refine PW.go ?_
              refine CW.region ?_
              refine RW.y (.inl rfl) rfl (Yv.add rfl rfl (by omega)) ?_
              refine RW.y (.inl rfl) rfl (Yv.move rfl) ?_
              refine RW.nil ?_
              exact PW.next (j + 1, best) (⟨by show j + 1 ≤ (outOf D.n D.l v).length; omega, by show _ = List.foldl _ _ (List.take (j + 1) _); rw [take_snocN hi, List.foldl_append, ← hbj]; exact (bstep_eq ⟨fun hc => by first | rfl | (exfalso; unfold candB at hc; omega), fun hc => by first | rfl | (exfalso; exact hc ⟨⟨by omega, by omega⟩, by omega⟩)⟩).symm⟩) ⟨rfl, rfl, rfl, rfl, rfl, rfl, rfl, rfl, rfl, trivial⟩ (fun w h => h) (by show (outOf D.n D.l v).length - (j + 1) < (outOf D.n D.l v).length - j; omega)
          ·
            refine CW.exit ?_
            refine PW.then_exit ?_
            refine PW.then_exit ?_
            refine PW.block_exit ?_
            refine PW.go ?_
            refine CW.seq ?_
            have hbe : best = bestA D.n D.l f out v := by rw [hbj, List.take_of_length_le (by omega)]; rfl
            subst hbe
            refine CW.region ?_
            refine RW.y (.inl rfl) rfl (Yv.move rfl) ?_
            refine RW.y (.inl rfl) rfl (Yv.move rfl) ?_
            refine RW.o _ (.inl rfl) rfl (Ow.lit (len := 1) (vs := [_]) (cs := [_]) Tryz.underlying51 info3 rfl rfl rfl rfl rfl rfl rfl) ?_
            rintro _ _ ⟨b79, rfl, rfl⟩
            refine RW.o _ (.inl rfl) rfl (Ow.append 2 0 Tryz.underlying51 info3 rfl rfl rfl rfl rfl rfl rfl rfl (by omega) (by omega)) ?_
            rintro v80 _ rfl
            refine RW.y (.inl rfl) rfl (Yv.assign rfl) ?_
            refine RW.nil ?_
            refine PW.go ?_
            refine CW.region ?_
            refine RW.y (.inl rfl) rfl (Yv.move rfl) ?_
            refine RW.y (.inl rfl) rfl (Yv.move rfl) ?_
            refine RW.o _ (.inl rfl) rfl (Ow.call e31 rfl (C.val (fun w hs => arcsHead R.ba D _ _ (hR.below hs.mod.below).ha))) ?_
            rintro _ _ ⟨rfl, rfl⟩
            refine RW.y (.inl rfl) rfl (Yv.assign rfl) ?_
            refine RW.nil ?_
            refine PW.block ?_
            refine PW.mem _ (fun w h => h.erase 0) ?_
            refine PW.mem _ (fun w h => h.erase 0) ?_
            refine PW.mem _ (fun w h => h.row_eq (m' := (acc ++ [bestA D.n D.l f out v]).length) (xs' := i64s (acc ++ [bestA D.n D.l f out v])) 0 rfl (by simp) (by simp [i64s])) ?_
            exact PW.next (k - 1, headOf D.l (bestA D.n D.l f out v), acc ++ [bestA D.n D.l f out v], v80) (⟨by have := hbc.2; show oAt out (headOf D.l (bestA D.n D.l f out v)) = ((k - 1 : Nat) : Int); omega, ⟨by show 0 ≤ headOf D.l _; omega, by show headOf D.l _ < D.n; omega⟩, by show (acc ++ [bestA D.n D.l f out v]) ++ wayF D.n D.l f out (k - 1) (headOf D.l (bestA D.n D.l f out v)) = _; rw [← hacc, List.append_assoc]; congr 1; rw [show k = (k - 1) + 1 by omega]; rfl, by show (acc ++ [_]).length + (k - 1) = K; simp; omega⟩) ⟨rfl, rfl, rfl, rfl, rfl, trivial⟩ (fun w h => h) (by show k - 1 < k; omega)
        ·
          refine CW.exit ?_
          refine PW.then_exit ?_
          refine PW.then_exit ?_
          refine PW.block_exit ?_
          refine PW.go ?_
          refine CW.seq ?_
          refine CW.region ?_
          refine RW.y (.inl rfl) rfl (Yv.move rfl) ?_
          refine RW.y (.inl rfl) rfl (Yv.assign rfl) ?_
          refine RW.nil ?_
          refine PW.go ?_
          refine CW.ret ?_
          refine PW.ret1 Tryz.results33 rfl (fun w1 hs => ?_)
          have hk0 : k = 0 := by omega
          subst hk0
          have hfin : acc = wayOf D.n D.l f out s := by rw [hway, ← hacc]; simp [wayF]
          obtain ⟨F, hF, hkk⟩ := hs.out 0 rfl
          exact ⟨(out, vw), hto, rfl, hs.mod.below, F, by show (row _ _ 1 (wayOf D.n D.l f out s).length (i64s (wayOf D.n D.l f out s))).holds w1 _; rw [← hfin]; exact hF, hkk⟩

set_option maxRecDepth 100000 in
theorem levelRoom (R : RI) (D : ArcsD) (f ys : List Int) (hok : ArcsOk D.n D.l) (A : Option Addr) (c : Nat) (way : List Int) (hall : ∀ i ∈ way, 0 ≤ i ∧ i < 2 * (D.l.length : Int)) (w : World) (hrw : Rd w A 1 way.length (i64s way)) (hR : IsRest w R D (leftL D.l f) ys) : Calls Tryz.prog 34 #[.pointer (some ⟨R.b, 0, none⟩), .slice A way.length c] w fun e w1 => e = .returned (.int .i64 (roomP (way.map (atI (leftL D.l f))))) ∧ Gr w w1 := by
  have hml := hok.hl
  have hlen := hrw.2.1
  refine CW.enter (P := Tryz.prog) (F0 := none0) (L := [(0, _), (1, _)]) 38 [] Tryz.func34 rfl Tryz.ntmps34 (Nat.le_of_ble_eq_true rfl) (St.start w none0) rfl ?_
  refine CW.seq ?_
  refine CW.region ?_
  refine RW.y (.inl rfl) rfl (Yv.assign rfl) ?_
  refine RW.nil ?_
  refine PW.go ?_
  refine CW.seq ?_
  refine CW.region ?_
  refine RW.y (.inl rfl) rfl (Yv.assign rfl) ?_
  refine RW.nil ?_
  refine PW.go ?_
  refine CW.seq ?_
  refine CW.seq ?_
  refine CW.region ?_
  refine RW.y (.inl rfl) rfl (Yv.move rfl) ?_
  refine RW.y (.inl rfl) rfl (Yv.len Tryz.underlying51 rfl) ?_
  refine RW.y (.inl rfl) rfl (Yv.move rfl) ?_
  refine RW.nil ?_
  refine PW.go ?_
  refine CW.block ?_
  refine CW.loop (σ := Nat) (fun k => k ≤ way.length) (fun k => [(0, .pointer (some ⟨R.b, 0, none⟩)), (5, .int .i64 (roomP ((way.take k).map (atI (leftL D.l f))))), (9, .slice A way.length c), (10, .int .i64 way.length), (11, .int .i64 (k : Nat))]) (fun k => []) (fun k => way.length - k) 0 (by simp) ⟨rfl, rfl, rfl, rfl, rfl, trivial⟩ (fun w h => h) ?_
  intro k hk
  refine CW.seq ?_
  refine CW.region ?_
  refine RW.y (.inl rfl) rfl (Yv.lt rfl rfl) ?_
  refine RW.nil ?_
  refine PW.go ?_
  refine CW.seq ?_
  refine CW.condD rfl (fun hc12 => ?_) (fun hc12 => ?_)
  ·
    refine CW.skip ?_
    refine PW.go ?_
    refine CW.seq ?_
    refine CW.block ?_
    refine CW.seq ?_
    have hkl : k < way.length := by omega
    obtain ⟨bw, ow, rfl, _, hcw⟩ := hrw.2.2 (by omega)
    obtain ⟨i0, hi⟩ : ∃ x, way[k]? = some x := ⟨_, List.getElem?_eq_getElem hkl⟩
    have hir := hall i0 (List.mem_of_getElem? hi)
    obtain ⟨i, rfl⟩ : ∃ i : Nat, i0 = i := ⟨i0.toNat, by omega⟩
    refine CW.region ?_
    refine RW.y (.inl rfl) rfl (Yv.move rfl) ?_
    refine RW.y (.inl rfl) rfl (Yv.index1 Tryz.underlying51 Tryz.sizeOf3 rfl rfl (by omega) (by omega)) ?_
    refine RW.y (.inl rfl) rfl (Yv.load1 Tryz.isAgg3 rfl (CF.old (hcw _ _ (i64s_get _ _ _ hi)) (not_none0 _))) ?_
    refine RW.y (.inl rfl) rfl (Yv.assign rfl) ?_
    refine RW.y (.inl rfl) rfl (Yv.assign rfl) ?_
    refine RW.nil ?_
    refine PW.go ?_
    refine CW.seq ?_
    refine CW.seq ?_
    refine CW.region ?_
    refine RW.y (.inl rfl) rfl (Yv.move rfl) ?_
    refine RW.y (.inl rfl) rfl (Yv.lt rfl rfl) ?_
    refine RW.y (.inl rfl) rfl (Yv.move rfl) ?_
    refine RW.isF 18 rfl (by omega) ?_
    refine RW.y (.inr ⟨_, _, 18, rfl, rfl, rfl⟩) rfl (Yv.move rfl) ?_
    refine RW.y (.inr ⟨_, _, 18, rfl, rfl, rfl⟩) rfl (Yv.move rfl) ?_
    refine RW.o _ (.inr ⟨_, _, 18, rfl, rfl, rfl⟩) rfl (Ow.call e15 rfl (C.val (fun w hs => restArcs R D.n _ _ (hR.below hs.mod.below).hb))) ?_
    rintro _ _ ⟨rfl, rfl⟩
    refine RW.o _ (.inr ⟨_, _, 18, rfl, rfl, rfl⟩) rfl (Ow.call e16 rfl (C.val (fun w hs => arcsLen R.ba D _ (hR.below hs.mod.below).ha))) ?_
    rintro _ _ ⟨rfl, rfl⟩
    refine RW.y (.inr ⟨_, _, 18, rfl, rfl, rfl⟩) rfl (Yv.ge rfl rfl) ?_
    refine RW.y (.inl rfl) rfl (Yv.pickF rfl rfl) ?_
    refine RW.nil ?_
    refine PW.go ?_
    refine CW.condD rfl (fun hc24 => ?_) (fun hc24 => ?_)
    ·
      omega
    ·
      refine CW.skip ?_
      refine PW.go ?_
      refine CW.seq ?_
      refine CW.region ?_
      refine RW.y (.inl rfl) rfl (Yv.move rfl) ?_
      refine RW.y (.inl rfl) rfl (Yv.move rfl) ?_
      refine RW.o _ (.inl rfl) rfl (Ow.call e32 rfl (C.val (fun w hs => restLeft R D _ _ (i : Int) _ (hR.below hs.mod.below)))) ?_
      rintro _ _ ⟨rfl, rfl⟩
      refine RW.y (.inl rfl) rfl (Yv.assign rfl) ?_
      refine RW.nil ?_
      refine PW.go ?_
      refine CW.seq ?_
      refine CW.region ?_
      refine RW.y (.inl rfl) rfl (Yv.move rfl) ?_
      refine RW.y (.inl rfl) rfl (Yv.eq rfl rfl) ?_
      refine RW.y (.inl rfl) rfl (Yv.move rfl) ?_
      refine RW.splitD 30 rfl (fun hc30 => ?_) (fun hc30 => ?_)
      ·
        refine RW.no ⟨_, _, 30, _, rfl, rfl, rfl, fun h => by simp [undef] at h⟩ rfl ?_
        refine RW.no ⟨_, _, 30, _, rfl, rfl, rfl, fun h => by simp [undef] at h⟩ rfl ?_
        refine RW.no ⟨_, _, 30, _, rfl, rfl, rfl, fun h => by simp [undef] at h⟩ rfl ?_
        refine RW.y (.inl rfl) rfl (Yv.pickT rfl rfl) ?_
        refine RW.nil ?_
        refine PW.go ?_
        refine CW.condT rfl ?_
        refine CW.region ?_
        refine RW.y (.inl rfl) rfl (Yv.move rfl) ?_
        refine RW.y (.inl rfl) rfl (Yv.assign rfl) ?_
        refine RW.nil ?_
        refine PW.block ?_
        refine PW.go ?_
        refine CW.region ?_
        refine RW.y (.inl rfl) rfl (Yv.add rfl rfl (by omega)) ?_
        refine RW.y (.inl rfl) rfl (Yv.move rfl) ?_
        refine RW.nil ?_
        have hst : roomP ((way.take (k + 1)).map (atI (leftL D.l f))) = atI (leftL D.l f) (i : Int) := by
          rw [take_snocN hi, List.map_append, List.map_cons, List.map_nil, roomP_snoc]
          by_cases h0 : k = 0
          · first | (subst h0; rw [if_pos (by simp)]; done) | (exfalso; omega)
          · rw [if_neg (by intro h; have h2 := congrArg List.length h; rw [List.length_map, List.length_take, List.length_nil] at h2; omega)]
            split <;> first | rfl | (exfalso; omega)
        rw [← hst]
        exact PW.next (k + 1) (by omega) ⟨rfl, rfl, rfl, rfl, rfl, trivial⟩ (fun w h => h) (by omega)
      ·
        refine RW.y (.inr ⟨_, _, 30, rfl, rfl, rfl⟩) rfl (Yv.move rfl) ?_
        refine RW.y (.inr ⟨_, _, 30, rfl, rfl, rfl⟩) rfl (Yv.move rfl) ?_
        refine RW.y (.inr ⟨_, _, 30, rfl, rfl, rfl⟩) rfl (Yv.lt rfl rfl) ?_
        refine RW.y (.inl rfl) rfl (Yv.pickF rfl rfl) ?_
        refine RW.nil ?_
        refine PW.go ?_
        refine CW.condD rfl (fun hc34 => ?_) (fun hc34 => ?_)
        ·
          refine CW.region ?_
          refine RW.y (.inl rfl) rfl (Yv.move rfl) ?_
          refine RW.y (.inl rfl) rfl (Yv.assign rfl) ?_
          refine RW.nil ?_
          refine PW.block ?_
          refine PW.go ?_
          refine CW.region ?_
          refine RW.y (.inl rfl) rfl (Yv.add rfl rfl (by omega)) ?_
          refine RW.y (.inl rfl) rfl (Yv.move rfl) ?_
          refine RW.nil ?_
          have hst : roomP ((way.take (k + 1)).map (atI (leftL D.l f))) = atI (leftL D.l f) (i : Int) := by
            rw [take_snocN hi, List.map_append, List.map_cons, List.map_nil, roomP_snoc]
            by_cases h0 : k = 0
            · first | (subst h0; rw [if_pos (by simp)]; done) | (exfalso; omega)
            · rw [if_neg (by intro h; have h2 := congrArg List.length h; rw [List.length_map, List.length_take, List.length_nil] at h2; omega)]
              split <;> first | rfl | (exfalso; omega)
          rw [← hst]
          exact PW.next (k + 1) (by omega) ⟨rfl, rfl, rfl, rfl, rfl, trivial⟩ (fun w h => h) (by omega)
        ·
          refine CW.skip ?_
          refine PW.block ?_
          refine PW.go ?_
          refine CW.region ?_
          refine RW.y (.inl rfl) rfl (Yv.add rfl rfl (by omega)) ?_
          refine RW.y (.inl rfl) rfl (Yv.move rfl) ?_
          refine RW.nil ?_
          have hst : roomP ((way.take (k + 1)).map (atI (leftL D.l f))) = roomP ((way.take k).map (atI (leftL D.l f))) := by
            rw [take_snocN hi, List.map_append, List.map_cons, List.map_nil, roomP_snoc]
            by_cases h0 : k = 0
            · first | (subst h0; rw [if_pos (by simp)]; done) | (exfalso; omega)
            · rw [if_neg (by intro h; have h2 := congrArg List.length h; rw [List.length_map, List.length_take, List.length_nil] at h2; omega)]
              split <;> first | rfl | (exfalso; omega)
          rw [← hst]
          exact PW.next (k + 1) (by omega) ⟨rfl, rfl, rfl, rfl, rfl, trivial⟩ (fun w h => h) (by omega)
  ·
    refine CW.exit ?_
    refine PW.then_exit ?_
    refine PW.then_exit ?_
    refine PW.block_exit ?_
    refine PW.go ?_
    refine CW.seq ?_
    refine CW.region ?_
    refine RW.y (.inl rfl) rfl (Yv.move rfl) ?_
    refine RW.y (.inl rfl) rfl (Yv.assign rfl) ?_
    refine RW.nil ?_
    refine PW.go ?_
    refine CW.ret ?_
    refine PW.ret1 Tryz.results34 rfl (fun w1 hs => ?_)
    refine ⟨?_, hs.mod.below⟩
    rw [List.take_of_length_le (by omega)]

end Go.Proofs.YtipoblpnkkcpgaaGreat
