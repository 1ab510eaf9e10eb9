/- Walks, written by a program of this session (gen.py) out of a spec. -/
import Derived.Test.YtipoblpnkkcpgaaGreatModel
set_option linter.unusedVariables false
set_option linter.unusedSimpArgs false
namespace Go.Proofs.YtipoblpnkkcpgaaGreat
open Go Go.RowKit Go.Proofs.YtipoblpnkkcpgaaGreat.B

set_option maxRecDepth 100000 in
theorem cloneE (A : Option Addr) (n c : Nat) (xs : List Value) (w : World) (hr : Rd w A 3 n xs) (h1 : ∀ u ∈ xs, u.oneCell' = true) (hA : A = none → n = 0) (hn : n ≤ 1099511627776) : Calls Tryz.prog 103 #[.slice A n c] w fun e w1 => ∃ v, e = .returned v ∧ Gr w w1 ∧ ∃ F, (row v 79 3 n (xs)).holds w1 F ∧ ∀ k, F k → w.heap.size ≤ k ∧ k < w1.heap.size := by
  refine CW.enter (P := Tryz.prog) (F0 := none0) (L := [(0, _)]) 8 [] Tryz.func103 rfl Tryz.ntmps103 (Nat.le_of_ble_eq_true rfl) (St.start w none0) rfl ?_
  refine CW.seq ?_
  refine CW.region ?_
  refine RW.y (.inl rfl) rfl (Yv.assign rfl) ?_
  refine RW.nil ?_
  refine PW.go ?_
  refine CW.seq ?_
  refine CW.seq ?_
  refine CW.region ?_
  refine RW.y (.inl rfl) rfl (Yv.move rfl) ?_
  refine RW.y (.inl rfl) rfl (Yv.sliceNil Tryz.underlying22 rfl rfl) ?_
  refine RW.nil ?_
  refine PW.go ?_
  refine CW.cond rfl (fun hc4 => ?_) (fun hc4 => ?_)
  ·
    obtain rfl : A = none := by simpa using hc4
    obtain rfl := hA rfl
    obtain rfl : xs = [] := List.eq_nil_of_length_eq_zero (by simpa using hr.1)
    refine CW.seq ?_
    refine CW.region ?_
    refine RW.y (.inl rfl) rfl (Yv.assign rfl) ?_
    refine RW.nil ?_
    refine PW.go ?_
    refine CW.ret ?_
    refine PW.then_ret ?_
    refine PW.ret1 Tryz.results103 rfl (fun w1 hs => ?_)
    exact ⟨_, rfl, hs.mod.below, none0, ⟨World.ownsRow_nil _ _ _ _, fun k => ⟨fun h => h.elim, fun h => by simp [Value.ownBlock] at h⟩⟩, fun k hk => hk.elim⟩
  ·
    have hA' : A ≠ none := by intro h; subst h; simp at hc4
    refine CW.skip ?_
    refine PW.go ?_
    refine CW.seq ?_
    refine CW.region ?_
    refine RW.o _ (.inl rfl) rfl (Ow.lit (len := 0) (vs := []) (cs := []) Tryz.underlying22 info79 rfl rfl rfl rfl rfl rfl rfl) ?_
    rintro _ _ ⟨b5, rfl, rfl⟩
    refine RW.mem _ (fun w h => h.rowOf (s := 3) (m := 0) 0 rfl (by simp) (by omega)) ?_
    refine RW.y (.inl rfl) rfl (Yv.move rfl) ?_
    refine RW.o _ (.inl rfl) rfl (Ow.appendRd 0 Tryz.underlying22 info79 rfl rfl rfl rfl rfl hA' (fun w1 hs => hr.below hs.mod.below) h1 (by omega) (by omega)) ?_
    rintro v7 _ rfl
    refine RW.y (.inl rfl) rfl (Yv.assign rfl) ?_
    refine RW.nil ?_
    refine PW.go ?_
    refine CW.ret ?_
    refine PW.ret1 Tryz.results103 rfl (fun w1 hs => ?_)
    have hs' := hs.row_eq (m' := n) (xs' := xs) 0 rfl (by simp) (by simp)
    obtain ⟨F, hF, hk⟩ := hs'.out 0 rfl
    exact ⟨_, rfl, hs.mod.below, F, hF, hk⟩

set_option maxRecDepth 100000 in
theorem cloneI (A : Option Addr) (n c : Nat) (xs : List Value) (w : World) (hr : Rd w A 1 n xs) (h1 : ∀ u ∈ xs, u.oneCell' = true) (hA : A = none → n = 0) (hn : n ≤ 1099511627776) : Calls Tryz.prog 88 #[.slice A n c] w fun e w1 => ∃ v, e = .returned v ∧ Gr w w1 ∧ ∃ F, (row v 3 1 n (xs)).holds w1 F ∧ ∀ k, F k → w.heap.size ≤ k ∧ k < w1.heap.size := by
  refine CW.enter (P := Tryz.prog) (F0 := none0) (L := [(0, _)]) 8 [] Tryz.func88 rfl Tryz.ntmps88 (Nat.le_of_ble_eq_true rfl) (St.start w none0) rfl ?_
  refine CW.seq ?_
  refine CW.region ?_
  refine RW.y (.inl rfl) rfl (Yv.assign rfl) ?_
  refine RW.nil ?_
  refine PW.go ?_
  refine CW.seq ?_
  refine CW.seq ?_
  refine CW.region ?_
  refine RW.y (.inl rfl) rfl (Yv.move rfl) ?_
  refine RW.y (.inl rfl) rfl (Yv.sliceNil Tryz.underlying51 rfl rfl) ?_
  refine RW.nil ?_
  refine PW.go ?_
  refine CW.cond rfl (fun hc4 => ?_) (fun hc4 => ?_)
  ·
    obtain rfl : A = none := by simpa using hc4
    obtain rfl := hA rfl
    obtain rfl : xs = [] := List.eq_nil_of_length_eq_zero (by simpa using hr.1)
    refine CW.seq ?_
    refine CW.region ?_
    refine RW.y (.inl rfl) rfl (Yv.assign rfl) ?_
    refine RW.nil ?_
    refine PW.go ?_
    refine CW.ret ?_
    refine PW.then_ret ?_
    refine PW.ret1 Tryz.results88 rfl (fun w1 hs => ?_)
    exact ⟨_, rfl, hs.mod.below, none0, ⟨World.ownsRow_nil _ _ _ _, fun k => ⟨fun h => h.elim, fun h => by simp [Value.ownBlock] at h⟩⟩, fun k hk => hk.elim⟩
  ·
    have hA' : A ≠ none := by intro h; subst h; simp at hc4
    refine CW.skip ?_
    refine PW.go ?_
    refine CW.seq ?_
    refine CW.region ?_
    refine RW.o _ (.inl rfl) rfl (Ow.lit (len := 0) (vs := []) (cs := []) Tryz.underlying51 info3 rfl rfl rfl rfl rfl rfl rfl) ?_
    rintro _ _ ⟨b5, rfl, rfl⟩
    refine RW.mem _ (fun w h => h.rowOf (s := 1) (m := 0) 0 rfl (by simp) (by omega)) ?_
    refine RW.y (.inl rfl) rfl (Yv.move rfl) ?_
    refine RW.o _ (.inl rfl) rfl (Ow.appendRd 0 Tryz.underlying51 info3 rfl rfl rfl rfl rfl hA' (fun w1 hs => hr.below hs.mod.below) h1 (by omega) (by omega)) ?_
    rintro v7 _ rfl
    refine RW.y (.inl rfl) rfl (Yv.assign rfl) ?_
    refine RW.nil ?_
    refine PW.go ?_
    refine CW.ret ?_
    refine PW.ret1 Tryz.results88 rfl (fun w1 hs => ?_)
    have hs' := hs.row_eq (m' := n) (xs' := xs) 0 rfl (by simp) (by simp)
    obtain ⟨F, hF, hk⟩ := hs'.out 0 rfl
    exact ⟨_, rfl, hs.mod.below, F, hF, hk⟩

set_option maxRecDepth 100000 in
theorem netN (b : Nat) (G : NetD) (w : World) (hN : IsNet w b G) : Calls Tryz.prog 61 #[.pointer (some ⟨b, 0, none⟩)] w fun e w1 => e = .returned (.int .i64 G.n) ∧ Gr w w1 := by
  obtain ⟨⟨An, cn, Ad, cd, Al, cl, vs, h1, h2, h3, h4, h5⟩, hn, hl⟩ := hN
  refine CW.enter (P := Tryz.prog) (F0 := none0) (L := [(0, _)]) 11 [] Tryz.func61 rfl Tryz.ntmps61 (Nat.le_of_ble_eq_true rfl) (St.start w none0) rfl ?_
  refine CW.seq ?_
  refine CW.region ?_
  refine RW.y (.inl rfl) rfl (Yv.assign rfl) ?_
  refine RW.nil ?_
  refine PW.go ?_
  refine CW.seq ?_
  refine CW.seq ?_
  refine CW.region ?_
  refine RW.y (.inl rfl) rfl (Yv.move rfl) ?_
  refine RW.y (.inl rfl) rfl (Yv.ptrNil Tryz.underlying25 rfl rfl) ?_
  refine RW.nil ?_
  refine PW.go ?_
  refine CW.cond rfl (fun hc4 => ?_) (fun hc4 => ?_)
  ·
    cases hc4
  ·
    refine CW.skip ?_
    refine PW.go ?_
    refine CW.seq ?_
    refine CW.region ?_
    refine RW.y (.inl rfl) rfl (Yv.move rfl) ?_
    refine RW.y (.inl rfl) rfl (Yv.nilCheck rfl) ?_
    refine RW.y (.inl rfl) rfl (Yv.fieldAddr Tryz.underlying88 rfl Tryz.sizeOf86 rfl rfl) ?_
    refine RW.y (.inl rfl) rfl (Yv.fieldAddr Tryz.underlying86 rfl Tryz.sizeOf84 rfl rfl) ?_
    refine RW.y (.inl rfl) rfl (Yv.load1 Tryz.isAgg84 rfl (CF.old (cell_of h1 rfl) (not_none0 _))) ?_
    refine RW.y (.inl rfl) rfl (Yv.len Tryz.underlying84 rfl) ?_
    refine RW.y (.inl rfl) rfl (Yv.assign rfl) ?_
    refine RW.nil ?_
    refine PW.go ?_
    refine CW.ret ?_
    refine PW.ret1 Tryz.results61 rfl (fun w1 hs => ?_)
    exact ⟨rfl, hs.mod.below⟩

set_option maxRecDepth 100000 in
theorem netN_nil (w : World) : Calls Tryz.prog 61 #[.pointer none] w fun e w1 => e = .returned (.int .i64 0) ∧ Gr w w1 := by
  refine CW.enter (P := Tryz.prog) (F0 := none0) (L := [(0, _)]) 11 [] Tryz.func61 rfl Tryz.ntmps61 (Nat.le_of_ble_eq_true rfl) (St.start w none0) rfl ?_
  refine CW.seq ?_
  refine CW.region ?_
  refine RW.y (.inl rfl) rfl (Yv.assign rfl) ?_
  refine RW.nil ?_
  refine PW.go ?_
  refine CW.seq ?_
  refine CW.seq ?_
  refine CW.region ?_
  refine RW.y (.inl rfl) rfl (Yv.move rfl) ?_
  refine RW.y (.inl rfl) rfl (Yv.ptrNil Tryz.underlying25 rfl rfl) ?_
  refine RW.nil ?_
  refine PW.go ?_
  refine CW.cond rfl (fun hc4 => ?_) (fun hc4 => ?_)
  ·
    refine CW.seq ?_
    refine CW.region ?_
    refine RW.y (.inl rfl) rfl (Yv.assign rfl) ?_
    refine RW.nil ?_
    refine PW.go ?_
    refine CW.ret ?_
    refine PW.then_ret ?_
    refine PW.ret1 Tryz.results61 rfl (fun w1 hs => ?_)
    exact ⟨rfl, hs.mod.below⟩
  ·
    cases hc4

set_option maxRecDepth 100000 in
theorem netM (b : Nat) (G : NetD) (w : World) (hN : IsNet w b G) : Calls Tryz.prog 64 #[.pointer (some ⟨b, 0, none⟩)] w fun e w1 => e = .returned (.int .i64 G.l.length) ∧ Gr w w1 := by
  obtain ⟨⟨An, cn, Ad, cd, Al, cl, vs, h1, h2, h3, h4, h5⟩, hn, hl⟩ := hN
  refine CW.enter (P := Tryz.prog) (F0 := none0) (L := [(0, _)]) 10 [] Tryz.func64 rfl Tryz.ntmps64 (Nat.le_of_ble_eq_true rfl) (St.start w none0) rfl ?_
  refine CW.seq ?_
  refine CW.region ?_
  refine RW.y (.inl rfl) rfl (Yv.assign rfl) ?_
  refine RW.nil ?_
  refine PW.go ?_
  refine CW.seq ?_
  refine CW.seq ?_
  refine CW.region ?_
  refine RW.y (.inl rfl) rfl (Yv.move rfl) ?_
  refine RW.y (.inl rfl) rfl (Yv.ptrNil Tryz.underlying25 rfl rfl) ?_
  refine RW.nil ?_
  refine PW.go ?_
  refine CW.cond rfl (fun hc4 => ?_) (fun hc4 => ?_)
  ·
    cases hc4
  ·
    refine CW.skip ?_
    refine PW.go ?_
    refine CW.seq ?_
    refine CW.region ?_
    refine RW.y (.inl rfl) rfl (Yv.move rfl) ?_
    refine RW.y (.inl rfl) rfl (Yv.nilCheck rfl) ?_
    refine RW.y (.inl rfl) rfl (Yv.fieldAddr Tryz.underlying88 rfl Tryz.sizeOf22 rfl rfl) ?_
    refine RW.y (.inl rfl) rfl (Yv.load1 Tryz.isAgg22 rfl (CF.old (cell_of h1 rfl) (not_none0 _))) ?_
    refine RW.y (.inl rfl) rfl (Yv.len Tryz.underlying22 rfl) ?_
    refine RW.y (.inl rfl) rfl (Yv.assign rfl) ?_
    refine RW.nil ?_
    refine PW.go ?_
    refine CW.ret ?_
    refine PW.ret1 Tryz.results64 rfl (fun w1 hs => ?_)
    exact ⟨rfl, hs.mod.below⟩

set_option maxRecDepth 100000 in
theorem netM_nil (w : World) : Calls Tryz.prog 64 #[.pointer none] w fun e w1 => e = .returned (.int .i64 0) ∧ Gr w w1 := by
  refine CW.enter (P := Tryz.prog) (F0 := none0) (L := [(0, _)]) 10 [] Tryz.func64 rfl Tryz.ntmps64 (Nat.le_of_ble_eq_true rfl) (St.start w none0) rfl ?_
  refine CW.seq ?_
  refine CW.region ?_
  refine RW.y (.inl rfl) rfl (Yv.assign rfl) ?_
  refine RW.nil ?_
  refine PW.go ?_
  refine CW.seq ?_
  refine CW.seq ?_
  refine CW.region ?_
  refine RW.y (.inl rfl) rfl (Yv.move rfl) ?_
  refine RW.y (.inl rfl) rfl (Yv.ptrNil Tryz.underlying25 rfl rfl) ?_
  refine RW.nil ?_
  refine PW.go ?_
  refine CW.cond rfl (fun hc4 => ?_) (fun hc4 => ?_)
  ·
    refine CW.seq ?_
    refine CW.region ?_
    refine RW.y (.inl rfl) rfl (Yv.assign rfl) ?_
    refine RW.nil ?_
    refine PW.go ?_
    refine CW.ret ?_
    refine PW.then_ret ?_
    refine PW.ret1 Tryz.results64 rfl (fun w1 hs => ?_)
    exact ⟨rfl, hs.mod.below⟩
  ·
    cases hc4

theorem slice_nil_len {w : World} {A : Option Addr} {s m : Nat} {xs : List Value} (h : Rd w A s m xs) : A = none → m = 0 := by
  intro hA; subst hA
  rcases Nat.eq_zero_or_pos m with h0 | h0
  · exact h0
  · obtain ⟨b, o, hb, _⟩ := h.2.2 h0; cases hb

set_option maxRecDepth 100000 in
theorem netEdges (b : Nat) (G : NetD) (w : World) (hN : IsNet w b G) : Calls Tryz.prog 65 #[.pointer (some ⟨b, 0, none⟩)] w fun e w1 => ∃ v, e = .returned v ∧ Gr w w1 ∧ ∃ F, (row v 79 3 G.l.length (cellsE G.l)).holds w1 F ∧ ∀ k, F k → w.heap.size ≤ k ∧ k < w1.heap.size := by
  obtain ⟨⟨An, cn, Ad, cd, Al, cl, vs, h1, h2, h3, h4, h5⟩, hn, hl⟩ := hN
  refine CW.enter (P := Tryz.prog) (F0 := none0) (L := [(0, _)]) 10 [] Tryz.func65 rfl Tryz.ntmps65 (Nat.le_of_ble_eq_true rfl) (St.start w none0) rfl ?_
  refine CW.seq ?_
  refine CW.region ?_
  refine RW.y (.inl rfl) rfl (Yv.assign rfl) ?_
  refine RW.nil ?_
  refine PW.go ?_
  refine CW.seq ?_
  refine CW.seq ?_
  refine CW.region ?_
  refine RW.y (.inl rfl) rfl (Yv.move rfl) ?_
  refine RW.y (.inl rfl) rfl (Yv.ptrNil Tryz.underlying25 rfl rfl) ?_
  refine RW.nil ?_
  refine PW.go ?_
  refine CW.cond rfl (fun hc4 => ?_) (fun hc4 => ?_)
  ·
    cases hc4
  ·
    refine CW.skip ?_
    refine PW.go ?_
    refine CW.seq ?_
    refine CW.region ?_
    refine RW.y (.inl rfl) rfl (Yv.move rfl) ?_
    refine RW.y (.inl rfl) rfl (Yv.nilCheck rfl) ?_
    refine RW.y (.inl rfl) rfl (Yv.fieldAddr Tryz.underlying88 rfl Tryz.sizeOf22 rfl rfl) ?_
    refine RW.y (.inl rfl) rfl (Yv.load1 Tryz.isAgg22 rfl (CF.old (cell_of h1 rfl) (not_none0 _))) ?_
    refine RW.o _ (.inl rfl) rfl (Ow.call e103 rfl (C.new (val := id) (φ := fun _ => True) (Ψ := fun v => row v 79 3 G.l.length (cellsE G.l)) (fun w2 hs => (cloneE Al G.l.length cl (cellsE G.l) w2 (h4.below hs.mod.below) (cellsE_one _) (slice_nil_len h4) (by omega)).mono (fun e w3 ⟨v, hv, hb, F, hF, hk⟩ => ⟨v, trivial, hv, hb, F, hF, hk⟩)))) ?_
    rintro _ _ ⟨v, -, rfl, rfl⟩
    refine RW.y (.inl rfl) rfl (Yv.assign rfl) ?_
    refine RW.nil ?_
    refine PW.go ?_
    refine CW.ret ?_
    refine PW.ret1 Tryz.results65 rfl (fun w1 hs => ?_)
    obtain ⟨F, hF, hk⟩ := hs.out 0 rfl
    exact ⟨_, rfl, hs.mod.below, F, hF, hk⟩

set_option maxRecDepth 100000 in
theorem netEdges_nil (w : World) : Calls Tryz.prog 65 #[.pointer none] w fun e w1 => e = .returned (.slice none 0 0) ∧ Gr w w1 := by
  refine CW.enter (P := Tryz.prog) (F0 := none0) (L := [(0, _)]) 10 [] Tryz.func65 rfl Tryz.ntmps65 (Nat.le_of_ble_eq_true rfl) (St.start w none0) rfl ?_
  refine CW.seq ?_
  refine CW.region ?_
  refine RW.y (.inl rfl) rfl (Yv.assign rfl) ?_
  refine RW.nil ?_
  refine PW.go ?_
  refine CW.seq ?_
  refine CW.seq ?_
  refine CW.region ?_
  refine RW.y (.inl rfl) rfl (Yv.move rfl) ?_
  refine RW.y (.inl rfl) rfl (Yv.ptrNil Tryz.underlying25 rfl rfl) ?_
  refine RW.nil ?_
  refine PW.go ?_
  refine CW.cond rfl (fun hc4 => ?_) (fun hc4 => ?_)
  ·
    refine CW.seq ?_
    refine CW.region ?_
    refine RW.y (.inl rfl) rfl (Yv.assign rfl) ?_
    refine RW.nil ?_
    refine PW.go ?_
    refine CW.ret ?_
    refine PW.then_ret ?_
    refine PW.ret1 Tryz.results65 rfl (fun w1 hs => ?_)
    exact ⟨rfl, hs.mod.below⟩
  ·
    cases hc4

end Go.Proofs.YtipoblpnkkcpgaaGreat
