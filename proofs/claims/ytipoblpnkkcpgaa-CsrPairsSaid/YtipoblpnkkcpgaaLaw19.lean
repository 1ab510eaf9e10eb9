/- Walks, written by a program of this session (gen.py) out of a spec. -/
import Derived.Test.YtipoblpnkkcpgaaCsr2
import Derived.Test.YtipoblpnkkcpgaaRefCsr2
import Derived.Test.YtipoblpnkkcpgaaNet2
import Derived.Test.YtipoblpnkkcpgaaRef2
import Derived.Test.YtipoblpnkkcpgaaRef0
set_option linter.unusedVariables false
set_option linter.unusedSimpArgs false
namespace Go.Proofs.Ytipoblpnkkcpgaa
open Go Go.RowKit Go.Proofs.Ytipoblpnkkcpgaa.B

theorem newOk_of {n : Int} {l : List Edg} (h0 : 0 ≤ n) (hn : n ≤ 4096) (hl : l.length ≤ 1048576) (hc : ∀ e ∈ l, chkE n e = 0) : NewOk n l := ⟨h0, hn, hl, .inl ⟨rfl, rfl, hc⟩⟩
theorem csrNewG (bg : Nat) (n : Int) (l : List Edg) (hok : NewOk n l) (w : World) (hN : IsNet w bg (netOf n l)) : Calls Try.prog 9 #[.pointer (some ⟨bg, 0, none⟩)] w fun en w1 => ∃ x : Nat × List Int, (∀ v, v < n.toNat → (csrD n.toNat (mergeL l) x.2).of v = outOf n.toNat (mergeL l) v) ∧ en = .returned (.pointer (some ⟨x.1, 0, none⟩)) ∧ Gr w w1 ∧ ∃ F, (nowA (fun w' => IsArcs w' x.1 (csrD n.toNat (mergeL l) x.2))).holds w1 F ∧ ∀ k, F k → w.heap.size ≤ k ∧ k < w1.heap.size :=
  csrNew _ n.toNat (mergeL l) hok.arcs w (fun w' hg => netN bg (netOf n l) w' (hN.below hg)) (fun w' hg => netEdges bg (netOf n l) w' (hN.below hg))
theorem arcsOk_nil : ArcsOk 0 [] := ⟨by simp, List.Pairwise.nil, by simp, by omega, by simp⟩
theorem csrNewNil (w : World) : Calls Try.prog 9 #[.pointer none] w fun en w1 => ∃ x : Nat × List Int, (∀ v, v < 0 → (csrD 0 [] x.2).of v = outOf 0 [] v) ∧ en = .returned (.pointer (some ⟨x.1, 0, none⟩)) ∧ Gr w w1 ∧ ∃ F, (nowA (fun w' => IsArcs w' x.1 (csrD 0 [] x.2))).holds w1 F ∧ ∀ k, F k → w.heap.size ≤ k ∧ k < w1.heap.size :=
  csrNew _ 0 [] arcsOk_nil w (fun w' hg => netN_nil w') (fun w' hg => (netEdges_nil w').mono fun e w1 ⟨he, hb⟩ => ⟨_, he, hb, none0, ⟨World.ownsRow_nil w1 0 72 3, fun k => ⟨fun h => h.elim, fun h => by simp [Value.ownBlock] at h⟩⟩, fun k h => h.elim⟩)
/-- What leads from a vertex, wherever it is. -/
theorem arcsOutAll (b n : Nat) (l : List Edg) (out : List Int) (v : Int) (w : World) (hok : ArcsOk n l) (hof : ∀ v, v < n → (csrD n l out).of v = outOf n l v) (hA : IsArcs w b (csrD n l out)) : Calls Try.prog 12 #[.pointer (some ⟨b, 0, none⟩), .int .i64 v] w fun e w1 => ∃ u, e = .returned u ∧ Gr w w1 ∧ ∃ F, (row u 3 1 (outOf n l v).length (i64s (outOf n l v))).holds w1 F ∧ ∀ k, F k → w.heap.size ≤ k ∧ k < w1.heap.size := by
  by_cases h : 0 ≤ v ∧ v < n
  · have h1 := arcsOut b (csrD n l out) v w hA h
    rw [hof v.toNat (by omega), show ((v.toNat : Nat) : Int) = v by omega] at h1
    exact h1
  · rw [outOf_out hok (by omega)]
    exact (arcsOut_out b (csrD n l out) v w hA h).mono fun e w1 ⟨he, hb⟩ => ⟨_, he, hb, none0, ⟨World.ownsRow_nil w1 0 3 1, fun k => ⟨fun h => h.elim, fun h => by simp [Value.ownBlock] at h⟩⟩, fun k h => h.elim⟩
theorem arcsOutIs (b n : Nat) (l : List Edg) (out : List Int) (v : Int) (w : World) (hok : ArcsOk n l) (hof : ∀ v, v < n → (csrD n l out).of v = outOf n l v) (hA : IsArcs w b (csrD n l out)) {xs : List Int} (hx : outOf n l v = xs) : Calls Try.prog 12 #[.pointer (some ⟨b, 0, none⟩), .int .i64 v] w fun e w1 => ∃ u, e = .returned u ∧ Gr w w1 ∧ ∃ F, (row u 3 1 xs.length (i64s xs)).holds w1 F ∧ ∀ k, F k → w.heap.size ≤ k ∧ k < w1.heap.size := by
  subst hx; exact arcsOutAll b n l out v w hok hof hA
def awk19 : List Edg := [⟨0, 1, 5⟩]
theorem awk19_ok : NewOk 2 awk19 := newOk_of (by decide) (by decide) (by decide) (by decide)
theorem awk19_l : mergeL awk19 = [⟨0, 1, 5⟩] := by decide

set_option maxRecDepth 100000 in
theorem awake19 (w : World) : Calls Try.prog 7 #[] w fun e w1 => e = .returned (.bool true) ∧ Gr w w1 := by
  refine CW.enter (P := Try.prog) (F0 := none0) (L := []) 55 [] Try.func7 rfl Try.ntmps7 (Nat.le_of_ble_eq_true rfl) (St.start w none0) rfl ?_
  refine CW.seq ?_
  refine CW.region ?_
  refine RW.y (.inl rfl) rfl (Yv.assign rfl) ?_
  refine RW.nil ?_
  refine PW.go ?_
  refine CW.seq ?_
  refine CW.region ?_
  refine RW.y (.inl rfl) rfl (Yv.build rfl (fun w => by exact bld72_1_2 _ _ w)) ?_
  refine RW.o _ (.inl rfl) rfl (Ow.lit (len := 1) (vs := [_]) (cs := [_, _, _]) Try.underlying22 info72 rfl rfl rfl rfl rfl rfl rfl) ?_
  rintro _ _ ⟨b7, rfl, rfl⟩
  refine RW.o _ (.inl rfl) rfl (Ow.call e8 rfl (C.new (val := fun (b : Nat) => .tuple #[.pointer (some ⟨b, 0, none⟩), .int .i64 0, .int .i64 0]) (φ := fun _ => True) (Ψ := fun b => nowA (fun w' => IsNet w' b (netOf 2 awk19))) (fun w2 hs => (netNew_ok 2 (some ⟨b7, 0, none⟩) 1 awk19 w2 (hs.blk_Rd 0 rfl rfl (by decide)) awk19_ok).mono (fun en w3 ⟨b, ht, he, hb, F, hF, hk⟩ => ⟨b, ht, he, hb, F, hF, hk⟩)))) ?_
  rintro _ _ ⟨bg, -, rfl, rfl⟩
  refine RW.y (.inl rfl) rfl (Yv.move rfl) ?_
  refine RW.y (.inl rfl) rfl (Yv.extract rfl rfl) ?_
  refine RW.y (.inl rfl) rfl (Yv.extract rfl rfl) ?_
  refine RW.y (.inl rfl) rfl (Yv.extract rfl rfl) ?_
  refine RW.y (.inl rfl) rfl (Yv.assign rfl) ?_
  refine RW.y (.inl rfl) rfl (Yv.assign rfl) ?_
  refine RW.y (.inl rfl) rfl (Yv.assign rfl) ?_
  refine RW.nil ?_
  refine PW.go ?_
  refine CW.seq ?_
  refine CW.region ?_
  refine RW.y (.inl rfl) rfl (Yv.move rfl) ?_
  refine RW.o _ (.inl rfl) rfl (Ow.call e9 rfl (C.new (val := fun (x : Nat × List Int) => .pointer (some ⟨x.1, 0, none⟩)) (φ := fun x => ∀ v, v < (2 : Int).toNat → (csrD ((2 : Int).toNat) (mergeL awk19) x.2).of v = outOf ((2 : Int).toNat) (mergeL awk19) v) (Ψ := fun x => nowA (fun w' => IsArcs w' x.1 (csrD ((2 : Int).toNat) (mergeL awk19) x.2))) (fun w2 hs => csrNewG bg 2 awk19 awk19_ok w2 (hs.now 0 rfl)))) ?_
  rintro _ _ ⟨⟨ba, out⟩, hof, rfl, rfl⟩
  refine RW.y (.inl rfl) rfl (Yv.assign rfl) ?_
  refine RW.nil ?_
  refine PW.go ?_
  refine CW.seq ?_
  have hA0 : outOf (2 : Int).toNat (mergeL awk19) 0 = [0] := by decide
  refine CW.region ?_
  refine RW.y (.inl rfl) rfl (Yv.move rfl) ?_
  refine RW.y (.inl rfl) rfl (Yv.eq rfl rfl) ?_
  refine RW.y (.inl rfl) rfl (Yv.move rfl) ?_
  refine RW.isB (c := true) 16 rfl (by first | rfl | exact decide_eq_true (by first | rfl | decide | (simp only [csrD, awk19_l]; decide))) ?_
  refine RW.y (.inr ⟨_, _, 16, rfl, rfl, rfl⟩) rfl (Yv.move rfl) ?_
  refine RW.y (.inr ⟨_, _, 16, rfl, rfl, rfl⟩) rfl (Yv.ptrNotNil Try.underlying29 rfl rfl) ?_
  refine RW.y (.inl rfl) rfl (Yv.pickT rfl rfl) ?_
  refine RW.y (.inl rfl) rfl (Yv.move rfl) ?_
  refine RW.isB (c := true) 20 rfl (by first | rfl | exact decide_eq_true (by first | rfl | decide | (simp only [csrD, awk19_l]; decide))) ?_
  refine RW.y (.inr ⟨_, _, 20, rfl, rfl, rfl⟩) rfl (Yv.move rfl) ?_
  refine RW.o _ (.inr ⟨_, _, 20, rfl, rfl, rfl⟩) rfl (Ow.call e11 rfl (C.val (fun w hs => arcsLen ba (csrD (2 : Int).toNat (mergeL awk19) out) _ (hs.now 0 rfl)))) ?_
  rintro _ _ ⟨rfl, rfl⟩
  refine RW.y (.inr ⟨_, _, 20, rfl, rfl, rfl⟩) rfl (Yv.eq rfl rfl) ?_
  refine RW.y (.inl rfl) rfl (Yv.pickT rfl rfl) ?_
  refine RW.y (.inl rfl) rfl (Yv.move rfl) ?_
  refine RW.isB (c := true) 25 rfl (by first | rfl | exact decide_eq_true (by first | rfl | decide | (simp only [csrD, awk19_l]; decide))) ?_
  refine RW.y (.inr ⟨_, _, 25, rfl, rfl, rfl⟩) rfl (Yv.move rfl) ?_
  refine RW.o _ (.inr ⟨_, _, 25, rfl, rfl, rfl⟩) rfl (Ow.call e10 rfl (C.val (fun w hs => arcsN ba (csrD (2 : Int).toNat (mergeL awk19) out) _ (hs.now 0 rfl)))) ?_
  rintro _ _ ⟨rfl, rfl⟩
  refine RW.y (.inr ⟨_, _, 25, rfl, rfl, rfl⟩) rfl (Yv.eq rfl rfl) ?_
  refine RW.y (.inl rfl) rfl (Yv.pickT rfl rfl) ?_
  refine RW.y (.inl rfl) rfl (Yv.move rfl) ?_
  refine RW.isB (c := true) 30 rfl (by first | rfl | exact decide_eq_true (by first | rfl | decide | (simp only [csrD, awk19_l]; decide))) ?_
  refine RW.y (.inr ⟨_, _, 30, rfl, rfl, rfl⟩) rfl (Yv.move rfl) ?_
  refine RW.o _ (.inr ⟨_, _, 30, rfl, rfl, rfl⟩) rfl (Ow.call e14 rfl (C.val (fun w hs => arcsHead ba (csrD (2 : Int).toNat (mergeL awk19) out) 0 _ (hs.now 0 rfl)))) ?_
  rintro _ _ ⟨rfl, rfl⟩
  refine RW.y (.inr ⟨_, _, 30, rfl, rfl, rfl⟩) rfl (Yv.eq rfl rfl) ?_
  refine RW.y (.inl rfl) rfl (Yv.pickT rfl rfl) ?_
  refine RW.y (.inl rfl) rfl (Yv.move rfl) ?_
  refine RW.isB (c := true) 35 rfl (by first | rfl | exact decide_eq_true (by first | rfl | decide | (simp only [csrD, awk19_l]; decide))) ?_
  refine RW.y (.inr ⟨_, _, 35, rfl, rfl, rfl⟩) rfl (Yv.move rfl) ?_
  refine RW.o _ (.inr ⟨_, _, 35, rfl, rfl, rfl⟩) rfl (Ow.call e13 rfl (C.val (fun w hs => arcsTail ba (csrD (2 : Int).toNat (mergeL awk19) out) 1 (by omega) _ (hs.now 0 rfl)))) ?_
  rintro _ _ ⟨rfl, rfl⟩
  refine RW.y (.inr ⟨_, _, 35, rfl, rfl, rfl⟩) rfl (Yv.eq rfl rfl) ?_
  refine RW.y (.inl rfl) rfl (Yv.pickT rfl rfl) ?_
  refine RW.y (.inl rfl) rfl (Yv.move rfl) ?_
  refine RW.isB (c := true) 40 rfl (by first | rfl | exact decide_eq_true (by first | rfl | decide | (simp only [csrD, awk19_l]; decide))) ?_
  refine RW.y (.inr ⟨_, _, 40, rfl, rfl, rfl⟩) rfl (Yv.move rfl) ?_
  refine RW.o _ (.inr ⟨_, _, 40, rfl, rfl, rfl⟩) rfl (Ow.call e15 rfl (C.val (fun w hs => arcsCap ba (csrD (2 : Int).toNat (mergeL awk19) out) 1 _ (hs.now 0 rfl)))) ?_
  rintro _ _ ⟨rfl, rfl⟩
  refine RW.y (.inr ⟨_, _, 40, rfl, rfl, rfl⟩) rfl (Yv.eq rfl rfl) ?_
  refine RW.y (.inl rfl) rfl (Yv.pickT rfl rfl) ?_
  refine RW.y (.inl rfl) rfl (Yv.move rfl) ?_
  refine RW.isB (c := true) 45 rfl (by first | rfl | exact decide_eq_true (by first | rfl | decide | (simp only [csrD, awk19_l]; decide))) ?_
  refine RW.y (.inr ⟨_, _, 45, rfl, rfl, rfl⟩) rfl (Yv.move rfl) ?_
  refine RW.o _ (.inr ⟨_, _, 45, rfl, rfl, rfl⟩) rfl (Ow.call e12 rfl (C.new (val := id) (φ := fun _ => True) (Ψ := fun v_ => row v_ 3 1 (1) (i64s [0])) (fun w2 hs => (arcsOutIs ba (2 : Int).toNat (mergeL awk19) out 0 w2 awk19_ok.arcs hof (hs.now 0 rfl) (xs := [0]) hA0).mono (fun e w3 ⟨v_, hv_, hb, F, hF, hk_⟩ => ⟨v_, trivial, hv_, hb, F, hF, hk_⟩)))) ?_
  rintro _ _ ⟨v_o, -, rfl, rfl⟩
  refine RW.o _ (.inr ⟨_, _, 45, rfl, rfl, rfl⟩) rfl (Ow.lit (len := 1) (vs := [_]) (cs := [_]) Try.underlying32 info3 rfl rfl rfl rfl rfl rfl rfl) ?_
  rintro _ _ ⟨b48, rfl, rfl⟩
  refine RW.facts _ (fun w h => h.row_slice 1 rfl) ?_
  rintro ⟨Ao, co, rfl⟩
  refine RW.o _ (.inr ⟨_, _, 45, rfl, rfl, rfl⟩) rfl (Ow.call e20 rfl (C.val (fun w hs => ref09Ints _ Ao co [0] (hs.row_Rd 1 rfl (by decide)) (some ⟨b48, 0, none⟩) 1 [0] (hs.blk_Rd 0 rfl rfl (by decide))))) ?_
  rintro _ _ ⟨rfl, rfl⟩
  refine RW.y (.inl rfl) rfl (Yv.pickT rfl rfl) ?_
  refine RW.y (.inl rfl) rfl (Yv.move rfl) ?_
  refine RW.isB (c := true) 51 rfl (by first | rfl | exact decide_eq_true (by first | rfl | decide | (simp only [csrD, awk19_l]; decide))) ?_
  refine RW.o _ (.inr ⟨_, _, 51, rfl, rfl, rfl⟩) rfl (Ow.call e22 rfl (C.val (fun w hs => csrBack 0 (by omega) _))) ?_
  rintro _ _ ⟨rfl, rfl⟩
  refine RW.y (.inr ⟨_, _, 51, rfl, rfl, rfl⟩) rfl (Yv.eq rfl rfl) ?_
  refine RW.y (.inl rfl) rfl (Yv.pickT rfl rfl) ?_
  refine RW.y (.inl rfl) rfl (Yv.assign rfl) ?_
  refine RW.nil ?_
  refine PW.go ?_
  refine CW.ret ?_
  refine PW.ret1 Try.results7 rfl (fun w1 hs => ?_)
  exact ⟨by first | rfl | (rw [decide_eq_true (by decide)]), hs.mod.below⟩

set_option maxRecDepth 100000 in
theorem csrTells_long (n x0 x1 : Int) (A : Option Addr) (c m : Nat) (w : World) (h : 60 < m) : Calls Try.prog 3 #[.int .u8 n, .slice A m c, .agg #[.int .i64 x0, .int .i64 x1]] w fun e w1 => e = .returned (.bool true) ∧ Gr w w1 := by
  refine CW.enter (P := Try.prog) (F0 := none0) (L := [(0, _), (1, _), (2, _)]) 152 [] Try.func3 rfl Try.ntmps3 (Nat.le_of_ble_eq_true rfl) (St.start w none0) rfl ?_
  refine CW.seq ?_
  refine CW.region ?_
  refine RW.o _ (.inl rfl) rfl (Ow.box (cs := [_, _]) rfl rfl) ?_
  rintro _ _ ⟨b5, rfl, rfl⟩
  refine RW.y (.inl rfl) rfl (Yv.assign rfl) ?_
  refine RW.nil ?_
  refine PW.go ?_
  refine CW.seq ?_
  refine CW.seq ?_
  refine CW.region ?_
  refine RW.y (.inl rfl) rfl (Yv.move rfl) ?_
  refine RW.y (.inl rfl) rfl (Yv.len Try.underlying22 rfl) ?_
  refine RW.y (.inl rfl) rfl (Yv.gt rfl rfl) ?_
  refine RW.nil ?_
  refine PW.go ?_
  refine CW.condD rfl (fun hc17 => ?_) (fun hc17 => ?_)
  ·
    refine CW.seq ?_
    refine CW.region ?_
    refine RW.o _ (.inl rfl) rfl (Ow.call e7 rfl (C.val (fun w hs => awake19 _))) ?_
    rintro _ _ ⟨rfl, rfl⟩
    refine RW.y (.inl rfl) rfl (Yv.assign rfl) ?_
    refine RW.nil ?_
    refine PW.go ?_
    refine CW.ret ?_
    refine PW.then_ret ?_
    refine PW.ret1 Try.results3 rfl (fun w1 hs => ?_)
    exact ⟨rfl, hs.mod.below⟩
  ·
    omega

set_option maxRecDepth 100000 in
theorem csrTells_err (n : Int) (hn : 0 ≤ n ∧ n ≤ 255) (A : Option Addr) (c : Nat) (l : List Edg) (x0 x1 : Int) (hx : -9223372036854775808 ≤ x0 ∧ x0 ≤ 9223372036854775807) (w : World) (hr : Rd w A 3 l.length (cellsE l)) (hl60 : l.length ≤ 60) (k : Int) (i : Nat) (hk : k ≠ 0) (he : NewE n l k i) : Calls Try.prog 3 #[.int .u8 n, .slice A l.length c, .agg #[.int .i64 x0, .int .i64 x1]] w fun e w1 => e = .returned (.bool true) ∧ Gr w w1 := by
  refine CW.enter (P := Try.prog) (F0 := none0) (L := [(0, _), (1, _), (2, _)]) 152 [] Try.func3 rfl Try.ntmps3 (Nat.le_of_ble_eq_true rfl) (St.start w none0) rfl ?_
  refine CW.seq ?_
  refine CW.region ?_
  refine RW.o _ (.inl rfl) rfl (Ow.box (cs := [_, _]) rfl rfl) ?_
  rintro _ _ ⟨b5, rfl, rfl⟩
  refine RW.y (.inl rfl) rfl (Yv.assign rfl) ?_
  refine RW.nil ?_
  refine PW.go ?_
  refine CW.seq ?_
  refine CW.seq ?_
  refine CW.region ?_
  refine RW.y (.inl rfl) rfl (Yv.move rfl) ?_
  refine RW.y (.inl rfl) rfl (Yv.len Try.underlying22 rfl) ?_
  refine RW.y (.inl rfl) rfl (Yv.gt rfl rfl) ?_
  refine RW.nil ?_
  refine PW.go ?_
  refine CW.condD rfl (fun hc17 => ?_) (fun hc17 => ?_)
  ·
    omega
  ·
    refine CW.skip ?_
    refine PW.go ?_
    refine CW.seq ?_
    refine CW.region ?_
    refine RW.y (.inl rfl) rfl (Yv.move rfl) ?_
    refine RW.y (.inl rfl) rfl (Yv.conv64 Try.underlying5 Try.underlying3 rfl (by omega)) ?_
    refine RW.y (.inl rfl) rfl (Yv.move rfl) ?_
    refine RW.o _ (.inl rfl) rfl (Ow.call e8 rfl (C.val (fun w hs => netNew_err n A c l _ (hr.below hs.mod.below) k i hk he))) ?_
    rintro _ _ ⟨rfl, rfl⟩
    refine RW.y (.inl rfl) rfl (Yv.move rfl) ?_
    refine RW.y (.inl rfl) rfl (Yv.extract rfl rfl) ?_
    refine RW.y (.inl rfl) rfl (Yv.extract rfl rfl) ?_
    refine RW.y (.inl rfl) rfl (Yv.extract rfl rfl) ?_
    refine RW.y (.inl rfl) rfl (Yv.assign rfl) ?_
    refine RW.y (.inl rfl) rfl (Yv.assign rfl) ?_
    refine RW.y (.inl rfl) rfl (Yv.assign rfl) ?_
    refine RW.nil ?_
    refine PW.go ?_
    refine CW.seq ?_
    refine CW.seq ?_
    refine CW.region ?_
    refine RW.y (.inl rfl) rfl (Yv.move rfl) ?_
    refine RW.y (.inl rfl) rfl (Yv.ne rfl rfl) ?_
    refine RW.nil ?_
    refine PW.go ?_
    refine CW.condD rfl (fun hc28 => ?_) (fun hc28 => ?_)
    ·
      refine CW.seq ?_
      refine CW.region ?_
      refine RW.o _ (.inl rfl) rfl (Ow.call e9 rfl (C.new (val := fun (x : Nat × List Int) => .pointer (some ⟨x.1, 0, none⟩)) (φ := fun x => ∀ v, v < 0 → (csrD (0) [] x.2).of v = outOf (0) [] v) (Ψ := fun x => nowA (fun w' => IsArcs w' x.1 (csrD (0) [] x.2))) (fun w2 hs => csrNewNil w2))) ?_
      rintro _ _ ⟨⟨ba, out⟩, hof, rfl, rfl⟩
      refine RW.y (.inl rfl) rfl (Yv.assign rfl) ?_
      refine RW.nil ?_
      refine PW.go ?_
      refine CW.seq ?_
      refine CW.region ?_
      refine RW.y (.inl rfl) rfl (Yv.move rfl) ?_
      refine RW.o _ (.inl rfl) rfl (Ow.call e10 rfl (C.val (fun w hs => arcsN ba (csrD 0 [] out) _ (hs.now 0 rfl)))) ?_
      rintro _ _ ⟨rfl, rfl⟩
      refine RW.y (.inl rfl) rfl (Yv.eq rfl rfl) ?_
      refine RW.y (.inl rfl) rfl (Yv.move rfl) ?_
      refine RW.isB (c := true) 33 rfl (by first | rfl | exact decide_eq_true (by first | rfl | decide)) ?_
      refine RW.y (.inr ⟨_, _, 33, rfl, rfl, rfl⟩) rfl (Yv.move rfl) ?_
      refine RW.o _ (.inr ⟨_, _, 33, rfl, rfl, rfl⟩) rfl (Ow.call e11 rfl (C.val (fun w hs => arcsLen ba (csrD 0 [] out) _ (hs.now 0 rfl)))) ?_
      rintro _ _ ⟨rfl, rfl⟩
      refine RW.y (.inr ⟨_, _, 33, rfl, rfl, rfl⟩) rfl (Yv.eq rfl rfl) ?_
      refine RW.y (.inl rfl) rfl (Yv.pickT rfl rfl) ?_
      refine RW.y (.inl rfl) rfl (Yv.move rfl) ?_
      refine RW.isB (c := true) 38 rfl (by first | rfl | exact decide_eq_true (by first | rfl | decide)) ?_
      refine RW.y (.inr ⟨_, _, 38, rfl, rfl, rfl⟩) rfl (Yv.move rfl) ?_
      refine RW.y (.inr ⟨_, _, 38, rfl, rfl, rfl⟩) rfl (Yv.indexA Try.underlying23 Try.sizeOf3 rfl rfl (by omega) (by omega)) ?_
      refine RW.y (.inr ⟨_, _, 38, rfl, rfl, rfl⟩) rfl (Yv.load1 Try.isAgg3 rfl (CF.blk 1 rfl rfl)) ?_
      refine RW.o _ (.inr ⟨_, _, 38, rfl, rfl, rfl⟩) rfl (Ow.call e12 rfl (C.new (val := id) (φ := fun _ => True) (Ψ := fun v_ => row v_ 3 1 (0) (i64s [])) (fun w2 hs => (arcsOutIs ba 0 [] out x1 w2 arcsOk_nil hof (hs.now 0 rfl) (xs := []) (outOf_out arcsOk_nil (by omega))).mono (fun e w3 ⟨v_, hv_, hb, F, hF, hk_⟩ => ⟨v_, trivial, hv_, hb, F, hF, hk_⟩)))) ?_
      rintro _ _ ⟨v_o, -, rfl, rfl⟩
      refine RW.y (.inr ⟨_, _, 38, rfl, rfl, rfl⟩) rfl (Yv.lenRow 0 Try.underlying32 rfl rfl) ?_
      refine RW.y (.inr ⟨_, _, 38, rfl, rfl, rfl⟩) rfl (Yv.eq rfl rfl) ?_
      refine RW.y (.inl rfl) rfl (Yv.pickT rfl rfl) ?_
      refine RW.y (.inl rfl) rfl (Yv.move rfl) ?_
      refine RW.isB (c := true) 46 rfl (by first | rfl | exact decide_eq_true (by first | rfl | decide)) ?_
      refine RW.y (.inr ⟨_, _, 46, rfl, rfl, rfl⟩) rfl (Yv.move rfl) ?_
      refine RW.y (.inr ⟨_, _, 46, rfl, rfl, rfl⟩) rfl (Yv.indexA Try.underlying23 Try.sizeOf3 rfl rfl (by omega) (by omega)) ?_
      refine RW.y (.inr ⟨_, _, 46, rfl, rfl, rfl⟩) rfl (Yv.load1 Try.isAgg3 rfl (CF.blk 2 rfl rfl)) ?_
      refine RW.o _ (.inr ⟨_, _, 46, rfl, rfl, rfl⟩) rfl (Ow.call e13 rfl (C.val (fun w hs => arcsTail ba (csrD 0 [] out) x0 hx _ (hs.now 1 rfl)))) ?_
      rintro _ _ ⟨rfl, rfl⟩
      refine RW.y (.inr ⟨_, _, 46, rfl, rfl, rfl⟩) rfl (Yv.eq rfl rfl) ?_
      refine RW.y (.inl rfl) rfl (Yv.pickT rfl rfl) ?_
      refine RW.y (.inl rfl) rfl (Yv.move rfl) ?_
      refine RW.isT 53 rfl (tailOf_out (l := []) (by simp; omega)) ?_
      refine RW.y (.inr ⟨_, _, 53, rfl, rfl, rfl⟩) rfl (Yv.move rfl) ?_
      refine RW.y (.inr ⟨_, _, 53, rfl, rfl, rfl⟩) rfl (Yv.indexA Try.underlying23 Try.sizeOf3 rfl rfl (by omega) (by omega)) ?_
      refine RW.y (.inr ⟨_, _, 53, rfl, rfl, rfl⟩) rfl (Yv.load1 Try.isAgg3 rfl (CF.blk 2 rfl rfl)) ?_
      refine RW.o _ (.inr ⟨_, _, 53, rfl, rfl, rfl⟩) rfl (Ow.call e14 rfl (C.val (fun w hs => arcsHead ba (csrD 0 [] out) x0 _ (hs.now 1 rfl)))) ?_
      rintro _ _ ⟨rfl, rfl⟩
      refine RW.y (.inr ⟨_, _, 53, rfl, rfl, rfl⟩) rfl (Yv.eq rfl rfl) ?_
      refine RW.y (.inl rfl) rfl (Yv.pickT rfl rfl) ?_
      refine RW.y (.inl rfl) rfl (Yv.move rfl) ?_
      refine RW.isT 60 rfl (headOf_out (l := []) (by simp; omega)) ?_
      refine RW.y (.inr ⟨_, _, 60, rfl, rfl, rfl⟩) rfl (Yv.move rfl) ?_
      refine RW.y (.inr ⟨_, _, 60, rfl, rfl, rfl⟩) rfl (Yv.indexA Try.underlying23 Try.sizeOf3 rfl rfl (by omega) (by omega)) ?_
      refine RW.y (.inr ⟨_, _, 60, rfl, rfl, rfl⟩) rfl (Yv.load1 Try.isAgg3 rfl (CF.blk 2 rfl rfl)) ?_
      refine RW.o _ (.inr ⟨_, _, 60, rfl, rfl, rfl⟩) rfl (Ow.call e15 rfl (C.val (fun w hs => arcsCap ba (csrD 0 [] out) x0 _ (hs.now 1 rfl)))) ?_
      rintro _ _ ⟨rfl, rfl⟩
      refine RW.y (.inr ⟨_, _, 60, rfl, rfl, rfl⟩) rfl (Yv.eq rfl rfl) ?_
      refine RW.y (.inl rfl) rfl (Yv.pickT rfl rfl) ?_
      refine RW.y (.inl rfl) rfl (Yv.move rfl) ?_
      refine RW.isT 67 rfl (capOf_out (l := []) (by simp; omega)) ?_
      refine RW.o _ (.inr ⟨_, _, 67, rfl, rfl, rfl⟩) rfl (Ow.call e7 rfl (C.val (fun w hs => awake19 _))) ?_
      rintro _ _ ⟨rfl, rfl⟩
      refine RW.y (.inl rfl) rfl (Yv.pickT rfl rfl) ?_
      refine RW.y (.inl rfl) rfl (Yv.assign rfl) ?_
      refine RW.nil ?_
      refine PW.go ?_
      refine CW.ret ?_
      refine PW.then_ret ?_
      refine PW.ret1 Try.results3 rfl (fun w1 hs => ?_)
      exact ⟨by first | rfl | simp, hs.mod.below⟩
    ·
      exact absurd hk hc28

set_option maxRecDepth 100000 in
theorem csrTells_ok (n : Int) (hn : 0 ≤ n ∧ n ≤ 255) (A : Option Addr) (c : Nat) (l : List Edg) (x0 x1 : Int) (hx : -9223372036854775808 ≤ x0 ∧ x0 ≤ 9223372036854775807) (w : World) (hr : Rd w A 3 l.length (cellsE l)) (hl60 : l.length ≤ 60) (hok : NewOk n l) : Calls Try.prog 3 #[.int .u8 n, .slice A l.length c, .agg #[.int .i64 x0, .int .i64 x1]] w fun e w1 => e = .returned (.bool true) ∧ Gr w w1 := by
  have hml := mergeL_length l
  have hnn := fun e he => (hok.merged e he)
  have hao := hok.arcs
  refine CW.enter (P := Try.prog) (F0 := none0) (L := [(0, _), (1, _), (2, _)]) 152 [] Try.func3 rfl Try.ntmps3 (Nat.le_of_ble_eq_true rfl) (St.start w none0) rfl ?_
  refine CW.seq ?_
  refine CW.region ?_
  refine RW.o _ (.inl rfl) rfl (Ow.box (cs := [_, _]) rfl rfl) ?_
  rintro _ _ ⟨b5, rfl, rfl⟩
  refine RW.y (.inl rfl) rfl (Yv.assign rfl) ?_
  refine RW.nil ?_
  refine PW.go ?_
  refine CW.seq ?_
  refine CW.seq ?_
  refine CW.region ?_
  refine RW.y (.inl rfl) rfl (Yv.move rfl) ?_
  refine RW.y (.inl rfl) rfl (Yv.len Try.underlying22 rfl) ?_
  refine RW.y (.inl rfl) rfl (Yv.gt rfl rfl) ?_
  refine RW.nil ?_
  refine PW.go ?_
  refine CW.condD rfl (fun hc17 => ?_) (fun hc17 => ?_)
  ·
    omega
  ·
    refine CW.skip ?_
    refine PW.go ?_
    refine CW.seq ?_
    refine CW.region ?_
    refine RW.y (.inl rfl) rfl (Yv.move rfl) ?_
    refine RW.y (.inl rfl) rfl (Yv.conv64 Try.underlying5 Try.underlying3 rfl (by omega)) ?_
    refine RW.y (.inl rfl) rfl (Yv.move rfl) ?_
    refine RW.o _ (.inl rfl) rfl (Ow.call e8 rfl (C.new (val := fun (b : Nat) => .tuple #[.pointer (some ⟨b, 0, none⟩), .int .i64 0, .int .i64 0]) (φ := fun _ => True) (Ψ := fun b => nowA (fun w' => IsNet w' b (netOf n l))) (fun w2 hs => (netNew_ok n A c l w2 (hr.below hs.mod.below) hok).mono (fun en w3 ⟨b, ht, he, hb, F, hF, hk⟩ => ⟨b, ht, he, hb, F, hF, hk⟩)))) ?_
    rintro _ _ ⟨bg, -, rfl, rfl⟩
    refine RW.y (.inl rfl) rfl (Yv.move rfl) ?_
    refine RW.y (.inl rfl) rfl (Yv.extract rfl rfl) ?_
    refine RW.y (.inl rfl) rfl (Yv.extract rfl rfl) ?_
    refine RW.y (.inl rfl) rfl (Yv.extract rfl rfl) ?_
    refine RW.y (.inl rfl) rfl (Yv.assign rfl) ?_
    refine RW.y (.inl rfl) rfl (Yv.assign rfl) ?_
    refine RW.y (.inl rfl) rfl (Yv.assign rfl) ?_
    refine RW.nil ?_
    refine PW.go ?_
    refine CW.seq ?_
    refine CW.seq ?_
    refine CW.region ?_
    refine RW.y (.inl rfl) rfl (Yv.move rfl) ?_
    refine RW.y (.inl rfl) rfl (Yv.ne rfl rfl) ?_
    refine RW.nil ?_
    refine PW.go ?_
    refine CW.condD rfl (fun hc28 => ?_) (fun hc28 => ?_)
    ·
      exact absurd rfl hc28
    ·
      refine CW.skip ?_
      refine PW.go ?_
      refine CW.seq ?_
      refine CW.region ?_
      refine RW.y (.inl rfl) rfl (Yv.move rfl) ?_
      refine RW.o _ (.inl rfl) rfl (Ow.call e9 rfl (C.new (val := fun (x : Nat × List Int) => .pointer (some ⟨x.1, 0, none⟩)) (φ := fun x => ∀ v, v < n.toNat → (csrD (n.toNat) (mergeL l) x.2).of v = outOf (n.toNat) (mergeL l) v) (Ψ := fun x => nowA (fun w' => IsArcs w' x.1 (csrD (n.toNat) (mergeL l) x.2))) (fun w2 hs => csrNewG bg n l hok w2 (hs.now 0 rfl)))) ?_
      rintro _ _ ⟨⟨ba, out⟩, hof, rfl, rfl⟩
      refine RW.y (.inl rfl) rfl (Yv.move rfl) ?_
      refine RW.y (.inl rfl) rfl (Yv.conv64 Try.underlying5 Try.underlying3 rfl (by omega)) ?_
      refine RW.y (.inl rfl) rfl (Yv.move rfl) ?_
      refine RW.o _ (.inl rfl) rfl (Ow.call e16 rfl (C.new (val := fun (p : Option Addr × Nat) => .agg #[.int .i64 n, .slice p.1 (mergeL l).length p.2, .int .i64 0, .int .i64 0]) (φ := fun _ => True) (Ψ := fun p => row (.slice p.1 (mergeL l).length p.2) 72 3 (mergeL l).length (cellsE (mergeL l))) (fun w2 hs => (ref16New_ok n A c l w2 (hr.below hs.mod.below) hok).mono (fun en w3 ⟨p, he, hb, F, hF, hk⟩ => ⟨p, trivial, he, hb, F, hF, hk⟩)))) ?_
      rintro _ _ ⟨⟨Am, cm⟩, -, rfl, rfl⟩
      refine RW.y (.inl rfl) rfl (Yv.fieldK (vs := [_, _]) Try.underlying39 rfl Try.isAgg37 Try.sizeOf37 rfl rfl) ?_
      refine RW.o _ (.inl rfl) rfl (Ow.alloc (cs := [_, _]) Try.zeroValue37 rfl) ?_
      rintro _ _ ⟨b12, rfl, rfl⟩
      refine RW.y (.inl rfl) rfl (Yv.assign rfl) ?_
      refine RW.o _ (.inl rfl) rfl (Ow.storeW (vs := [_, _]) 0 Try.sizeOf37 rfl rfl (rfl) rfl (rfl)) ?_
      rintro _ _ ⟨rfl, rfl⟩
      refine RW.nil ?_
      refine PW.go ?_
      refine CW.seq ?_
      refine CW.draw0 mixed ?_
      refine HW.take 0 rfl (by kernel_rfl) (by kernel_rfl) (by kernel_rfl) (fun _ _ _ h => h) (.inl rfl) rfl (fun _ h => h) (Yv.indexA Try.underlying23 Try.sizeOf3 rfl rfl (by omega) (by omega)) ?_
      refine HW.take 1 rfl (by kernel_rfl) (by kernel_rfl) (by kernel_rfl) (fun _ _ _ h => h) (.inl rfl) rfl (fun _ h => h) (Yv.load1 Try.isAgg3 rfl (CF.blk 4 rfl rfl)) ?_
      refine HW.take 2 rfl (by kernel_rfl) (by kernel_rfl) (by kernel_rfl) (fun _ _ _ h => h) (.inl rfl) rfl (fun _ h => h) (Yv.indexA Try.underlying23 Try.sizeOf3 rfl rfl (by omega) (by omega)) ?_
      refine HW.take 3 rfl (by kernel_rfl) (by kernel_rfl) (by kernel_rfl) (fun _ _ _ h => h) (.inl rfl) rfl (fun _ h => h) (Yv.load1 Try.isAgg3 rfl (CF.blk 4 rfl rfl)) ?_
      refine HW.take 4 rfl (by kernel_rfl) (by kernel_rfl) (by kernel_rfl) (fun _ _ _ h => h) (.inl rfl) rfl (fun _ h => h) (Yv.assign rfl) ?_
      refine HW.take 5 rfl (by kernel_rfl) (by kernel_rfl) (by kernel_rfl) (fun _ _ _ h => h) (.inl rfl) rfl (fun _ h => h) (Yv.assign rfl) ?_
      refine HW.done (by kernel_rfl) ?_
      refine PW.go ?_
      refine CW.seq ?_
      refine CW.draw0 mixed ?_
      refine HW.take 0 rfl (by kernel_rfl) (by kernel_rfl) (by kernel_rfl) (fun _ _ _ h => h) (.inl rfl) rfl (fun _ h => h) (Yv.move rfl) ?_
      refine HW.take 1 rfl (by kernel_rfl) (by kernel_rfl) (by kernel_rfl) (fun _ _ _ h => h) (.inl rfl) rfl (fun _ h => h) (Yv.ptrNotNil Try.underlying29 rfl rfl) ?_
      refine HW.take 2 rfl (by kernel_rfl) (by kernel_rfl) (by kernel_rfl) (fun _ _ _ h => h) (.inl rfl) rfl (fun _ h => h) (Yv.move rfl) ?_
      refine HW.isB (c := true) 83 rfl (rfl) ?_
      refine HW.take 3 rfl (by kernel_rfl) (by kernel_rfl) (by kernel_rfl) (fun _ _ _ h => h) (.inr ⟨_, _, 83, rfl, rfl, rfl⟩) rfl (fun _ h => h) (Yv.move rfl) ?_
      refine HW.take 5 rfl (by kernel_rfl) (by kernel_rfl) (by kernel_rfl) (fun _ _ _ h => h) (.inr ⟨_, _, 83, rfl, rfl, rfl⟩) rfl (fun _ h => h) (Yv.move rfl) ?_
      refine HW.take 6 rfl (by kernel_rfl) (by kernel_rfl) (by kernel_rfl) (fun _ _ _ h => h) (.inr ⟨_, _, 83, rfl, rfl, rfl⟩) rfl (fun _ h => h) (Yv.conv64 Try.underlying5 Try.underlying3 rfl (by omega)) ?_
      refine HW.run 4 rfl (by kernel_rfl) _ (.inr ⟨_, _, 83, rfl, rfl, rfl⟩) rfl (Ow.call e10 rfl (C.val (fun w hs => arcsN ba (csrD n.toNat (mergeL l) out) _ (hs.now 2 rfl)))) (by rintro _ _ ⟨rfl, rfl⟩ w h; exact h) ?_
      rintro _ _ ⟨rfl, rfl⟩
      refine HW.take 7 rfl (by kernel_rfl) (by kernel_rfl) (by kernel_rfl) (fun _ _ _ h => h) (.inr ⟨_, _, 83, rfl, rfl, rfl⟩) rfl (fun _ h => h) (Yv.eq rfl rfl) ?_
      refine HW.take 8 rfl (by kernel_rfl) (by kernel_rfl) (by kernel_rfl) (fun _ _ _ h => h) (.inl rfl) rfl (fun _ h => h) (Yv.pickT rfl rfl) ?_
      refine HW.take 9 rfl (by kernel_rfl) (by kernel_rfl) (by kernel_rfl) (fun _ _ _ h => h) (.inl rfl) rfl (fun _ h => h) (Yv.move rfl) ?_
      refine HW.isT 90 rfl (by show ((n.toNat : Nat) : Int) = n; omega) ?_
      refine HW.take 10 rfl (by kernel_rfl) (by kernel_rfl) (by kernel_rfl) (fun _ _ _ h => h) (.inr ⟨_, _, 90, rfl, rfl, rfl⟩) rfl (fun _ h => h) (Yv.move rfl) ?_
      refine HW.take 12 rfl (by kernel_rfl) (by kernel_rfl) (by kernel_rfl) (fun _ _ _ h => h) (.inr ⟨_, _, 90, rfl, rfl, rfl⟩) rfl (fun _ h => h) (Yv.fieldAddr Try.underlying37 rfl Try.sizeOf22 rfl rfl) ?_
      refine HW.take 13 rfl (by kernel_rfl) (by kernel_rfl) (by kernel_rfl) (fun _ _ _ h => h) (.inr ⟨_, _, 90, rfl, rfl, rfl⟩) rfl (fun _ h => h) (Yv.load1 Try.isAgg22 rfl (CF.blk 0 rfl rfl)) ?_
      refine HW.take 14 rfl (by kernel_rfl) (by kernel_rfl) (by kernel_rfl) (fun _ _ _ h => h) (.inr ⟨_, _, 90, rfl, rfl, rfl⟩) rfl (fun _ h => h) (Yv.len Try.underlying22 rfl) ?_
      refine HW.take 15 rfl (by kernel_rfl) (by kernel_rfl) (by kernel_rfl) (fun _ _ _ h => h) (.inr ⟨_, _, 90, rfl, rfl, rfl⟩) rfl (fun _ h => h) (Yv.mul rfl rfl (by omega)) ?_
      refine HW.run 11 rfl (by kernel_rfl) _ (.inr ⟨_, _, 90, rfl, rfl, rfl⟩) rfl (Ow.call e11 rfl (C.val (fun w hs => arcsLen ba (csrD n.toNat (mergeL l) out) _ (hs.now 2 rfl)))) (by rintro _ _ ⟨rfl, rfl⟩ w h; exact h) ?_
      rintro _ _ ⟨rfl, rfl⟩
      refine HW.take 16 rfl (by kernel_rfl) (by kernel_rfl) (by kernel_rfl) (fun _ _ _ h => h) (.inr ⟨_, _, 90, rfl, rfl, rfl⟩) rfl (fun _ h => h) (Yv.eq rfl rfl) ?_
      refine HW.take 17 rfl (by kernel_rfl) (by kernel_rfl) (by kernel_rfl) (fun _ _ _ h => h) (.inl rfl) rfl (fun _ h => h) (Yv.pickT rfl rfl) ?_
      refine HW.take 18 rfl (by kernel_rfl) (by kernel_rfl) (by kernel_rfl) (fun _ _ _ h => h) (.inl rfl) rfl (fun _ h => h) (Yv.move rfl) ?_
      refine HW.isT 99 rfl (by show ((2 * (mergeL l).length : Nat) : Int) = _; omega) ?_
      refine HW.take 19 rfl (by kernel_rfl) (by kernel_rfl) (by kernel_rfl) (fun _ _ _ h => h) (.inr ⟨_, _, 99, rfl, rfl, rfl⟩) rfl (fun _ h => h) (Yv.move rfl) ?_
      refine HW.take 20 rfl (by kernel_rfl) (by kernel_rfl) (by kernel_rfl) (fun _ _ _ h => h) (.inr ⟨_, _, 99, rfl, rfl, rfl⟩) rfl (fun _ h => h) (Yv.move rfl) ?_
      refine HW.take 22 rfl (by kernel_rfl) (by kernel_rfl) (by kernel_rfl) (fun _ _ _ h => h) (.inr ⟨_, _, 99, rfl, rfl, rfl⟩) rfl (fun _ h => h) (Yv.loadK (vs := [_, _]) Try.isAgg37 Try.sizeOf37 rfl (CFs.whole 0 rfl)) ?_
      refine HW.take 23 rfl (by kernel_rfl) (by kernel_rfl) (by kernel_rfl) (fun _ _ _ h => h) (.inr ⟨_, _, 99, rfl, rfl, rfl⟩) rfl (fun _ h => h) (Yv.move rfl) ?_
      refine HW.run 21 rfl (by kernel_rfl) _ (.inr ⟨_, _, 99, rfl, rfl, rfl⟩) rfl (Ow.call e13 rfl (C.val (fun w hs => arcsTail ba (csrD n.toNat (mergeL l) out) x0 hx _ (hs.now 2 rfl)))) (by rintro _ _ ⟨rfl, rfl⟩ w h; exact h) ?_
      rintro _ _ ⟨rfl, rfl⟩
      refine HW.run 24 rfl (by kernel_rfl) _ (.inr ⟨_, _, 99, rfl, rfl, rfl⟩) rfl (Ow.call e17 rfl (C.val (fun w hs => ref19Tail n Am cm (mergeL l) x0 hx _ (hs.row_Rd 1 rfl (by omega))))) (by rintro _ _ ⟨rfl, rfl⟩ w h; exact h) ?_
      rintro _ _ ⟨rfl, rfl⟩
      refine HW.take 25 rfl (by kernel_rfl) (by kernel_rfl) (by kernel_rfl) (fun _ _ _ h => h) (.inr ⟨_, _, 99, rfl, rfl, rfl⟩) rfl (fun _ h => h) (Yv.eq rfl rfl) ?_
      refine HW.take 26 rfl (by kernel_rfl) (by kernel_rfl) (by kernel_rfl) (fun _ _ _ h => h) (.inl rfl) rfl (fun _ h => h) (Yv.pickT rfl rfl) ?_
      refine HW.take 27 rfl (by kernel_rfl) (by kernel_rfl) (by kernel_rfl) (fun _ _ _ h => h) (.inl rfl) rfl (fun _ h => h) (Yv.move rfl) ?_
      refine HW.isT 108 rfl (rfl) ?_
      refine HW.take 28 rfl (by kernel_rfl) (by kernel_rfl) (by kernel_rfl) (fun _ _ _ h => h) (.inr ⟨_, _, 108, rfl, rfl, rfl⟩) rfl (fun _ h => h) (Yv.move rfl) ?_
      refine HW.take 29 rfl (by kernel_rfl) (by kernel_rfl) (by kernel_rfl) (fun _ _ _ h => h) (.inr ⟨_, _, 108, rfl, rfl, rfl⟩) rfl (fun _ h => h) (Yv.move rfl) ?_
      refine HW.take 31 rfl (by kernel_rfl) (by kernel_rfl) (by kernel_rfl) (fun _ _ _ h => h) (.inr ⟨_, _, 108, rfl, rfl, rfl⟩) rfl (fun _ h => h) (Yv.loadK (vs := [_, _]) Try.isAgg37 Try.sizeOf37 rfl (CFs.whole 0 rfl)) ?_
      refine HW.take 32 rfl (by kernel_rfl) (by kernel_rfl) (by kernel_rfl) (fun _ _ _ h => h) (.inr ⟨_, _, 108, rfl, rfl, rfl⟩) rfl (fun _ h => h) (Yv.move rfl) ?_
      refine HW.run 30 rfl (by kernel_rfl) _ (.inr ⟨_, _, 108, rfl, rfl, rfl⟩) rfl (Ow.call e14 rfl (C.val (fun w hs => arcsHead ba (csrD n.toNat (mergeL l) out) x0 _ (hs.now 2 rfl)))) (by rintro _ _ ⟨rfl, rfl⟩ w h; exact h) ?_
      rintro _ _ ⟨rfl, rfl⟩
      refine HW.run 33 rfl (by kernel_rfl) _ (.inr ⟨_, _, 108, rfl, rfl, rfl⟩) rfl (Ow.call e18 rfl (C.val (fun w hs => ref19Head n Am cm (mergeL l) x0 hx _ (hs.row_Rd 1 rfl (by omega))))) (by rintro _ _ ⟨rfl, rfl⟩ w h; exact h) ?_
      rintro _ _ ⟨rfl, rfl⟩
      refine HW.take 34 rfl (by kernel_rfl) (by kernel_rfl) (by kernel_rfl) (fun _ _ _ h => h) (.inr ⟨_, _, 108, rfl, rfl, rfl⟩) rfl (fun _ h => h) (Yv.eq rfl rfl) ?_
      refine HW.take 35 rfl (by kernel_rfl) (by kernel_rfl) (by kernel_rfl) (fun _ _ _ h => h) (.inl rfl) rfl (fun _ h => h) (Yv.pickT rfl rfl) ?_
      refine HW.take 36 rfl (by kernel_rfl) (by kernel_rfl) (by kernel_rfl) (fun _ _ _ h => h) (.inl rfl) rfl (fun _ h => h) (Yv.move rfl) ?_
      refine HW.isT 117 rfl (rfl) ?_
      refine HW.take 37 rfl (by kernel_rfl) (by kernel_rfl) (by kernel_rfl) (fun _ _ _ h => h) (.inr ⟨_, _, 117, rfl, rfl, rfl⟩) rfl (fun _ h => h) (Yv.move rfl) ?_
      refine HW.take 38 rfl (by kernel_rfl) (by kernel_rfl) (by kernel_rfl) (fun _ _ _ h => h) (.inr ⟨_, _, 117, rfl, rfl, rfl⟩) rfl (fun _ h => h) (Yv.move rfl) ?_
      refine HW.take 40 rfl (by kernel_rfl) (by kernel_rfl) (by kernel_rfl) (fun _ _ _ h => h) (.inr ⟨_, _, 117, rfl, rfl, rfl⟩) rfl (fun _ h => h) (Yv.loadK (vs := [_, _]) Try.isAgg37 Try.sizeOf37 rfl (CFs.whole 0 rfl)) ?_
      refine HW.take 41 rfl (by kernel_rfl) (by kernel_rfl) (by kernel_rfl) (fun _ _ _ h => h) (.inr ⟨_, _, 117, rfl, rfl, rfl⟩) rfl (fun _ h => h) (Yv.move rfl) ?_
      refine HW.run 39 rfl (by kernel_rfl) _ (.inr ⟨_, _, 117, rfl, rfl, rfl⟩) rfl (Ow.call e15 rfl (C.val (fun w hs => arcsCap ba (csrD n.toNat (mergeL l) out) x0 _ (hs.now 2 rfl)))) (by rintro _ _ ⟨rfl, rfl⟩ w h; exact h) ?_
      rintro _ _ ⟨rfl, rfl⟩
      refine HW.run 42 rfl (by kernel_rfl) _ (.inr ⟨_, _, 117, rfl, rfl, rfl⟩) rfl (Ow.call e19 rfl (C.val (fun w hs => ref19Cap n Am cm (mergeL l) x0 hx _ (hs.row_Rd 1 rfl (by omega)) (fun e he => by have := hnn e he; omega)))) (by rintro _ _ ⟨rfl, rfl⟩ w h; exact h) ?_
      rintro _ _ ⟨rfl, rfl⟩
      refine HW.take 43 rfl (by kernel_rfl) (by kernel_rfl) (by kernel_rfl) (fun _ _ _ h => h) (.inr ⟨_, _, 117, rfl, rfl, rfl⟩) rfl (fun _ h => h) (Yv.eq rfl rfl) ?_
      refine HW.take 44 rfl (by kernel_rfl) (by kernel_rfl) (by kernel_rfl) (fun _ _ _ h => h) (.inl rfl) rfl (fun _ h => h) (Yv.pickT rfl rfl) ?_
      refine HW.take 45 rfl (by kernel_rfl) (by kernel_rfl) (by kernel_rfl) (fun _ _ _ h => h) (.inl rfl) rfl (fun _ h => h) (Yv.move rfl) ?_
      refine HW.isT 126 rfl (rfl) ?_
      refine HW.take 46 rfl (by kernel_rfl) (by kernel_rfl) (by kernel_rfl) (fun _ _ _ h => h) (.inr ⟨_, _, 126, rfl, rfl, rfl⟩) rfl (fun _ h => h) (Yv.move rfl) ?_
      refine HW.take 47 rfl (by kernel_rfl) (by kernel_rfl) (by kernel_rfl) (fun _ _ _ h => h) (.inr ⟨_, _, 126, rfl, rfl, rfl⟩) rfl (fun _ h => h) (Yv.move rfl) ?_
      refine HW.take 49 rfl (by kernel_rfl) (by kernel_rfl) (by kernel_rfl) (fun _ _ _ h => h) (.inr ⟨_, _, 126, rfl, rfl, rfl⟩) rfl (fun _ h => h) (Yv.loadK (vs := [_, _]) Try.isAgg37 Try.sizeOf37 rfl (CFs.whole 0 rfl)) ?_
      refine HW.take 50 rfl (by kernel_rfl) (by kernel_rfl) (by kernel_rfl) (fun _ _ _ h => h) (.inr ⟨_, _, 126, rfl, rfl, rfl⟩) rfl (fun _ h => h) (Yv.move rfl) ?_
      refine HW.run 48 rfl (by kernel_rfl) _ (.inr ⟨_, _, 126, rfl, rfl, rfl⟩) rfl (Ow.call e12 rfl (C.new (val := id) (φ := fun _ => True) (Ψ := fun v_ => row v_ 3 1 ((outOf n.toNat (mergeL l) x1).length) (i64s (outOf n.toNat (mergeL l) x1))) (fun w2 hs => (arcsOutAll ba n.toNat (mergeL l) out x1 w2 hao hof (hs.now 2 rfl)).mono (fun e w3 ⟨v_, hv_, hb, F, hF, hk_⟩ => ⟨v_, trivial, hv_, hb, F, hF, hk_⟩)))) (by rintro _ _ ⟨v_o, -, rfl, rfl⟩ w h; exact (h).erase 0) ?_
      rintro _ _ ⟨v_o, -, rfl, rfl⟩
      refine HW.run 51 rfl (by kernel_rfl) _ (.inr ⟨_, _, 126, rfl, rfl, rfl⟩) rfl (Ow.call e21 rfl (C.new (val := id) (φ := fun _ => True) (Ψ := fun v_ => row v_ 3 1 ((outOf n.toNat (mergeL l) x1).length) (i64s (outOf n.toNat (mergeL l) x1))) (fun w2 hs => (ref19Out n Am cm (mergeL l) x1 w2 (hs.row_Rd 2 rfl (by omega)) (by omega) (by omega) (by omega)).mono (fun e w3 ⟨v_, hv_, hb, F, hF, hk_⟩ => ⟨v_, trivial, hv_, hb, F, hF, hk_⟩)))) (by rintro _ _ ⟨v_p, -, rfl, rfl⟩ w h; exact ((h).erase 0).erase 0) ?_
      rintro _ _ ⟨v_p, -, rfl, rfl⟩
      refine HW.facts _ (fun w h => h.row_slice 1 rfl) ?_
      rintro ⟨Ao, co, rfl⟩
      refine HW.facts _ (fun w h => h.row_slice 0 rfl) ?_
      rintro ⟨Ap, cp, rfl⟩
      have hob := outOf_length (mergeL l) x1 n.toNat
      have hmm : n.toNat * (2 * (mergeL l).length) ≤ 255 * (2 * 60) := Nat.mul_le_mul (by omega) (by omega)
      refine HW.run 52 rfl (by kernel_rfl) _ (.inr ⟨_, _, 126, rfl, rfl, rfl⟩) rfl (Ow.call e20 rfl (C.val (fun w hs => ref09Ints _ Ao co _ (hs.row_Rd 1 rfl (by omega)) Ap cp _ (hs.row_Rd 0 rfl (by omega))))) (by rintro _ _ ⟨rfl, rfl⟩ w h; exact ((h).erase 0).erase 0) ?_
      rintro _ _ ⟨rfl, rfl⟩
      refine HW.take 53 rfl (by kernel_rfl) (by kernel_rfl) (by kernel_rfl) (fun _ _ _ h => h) (.inl rfl) rfl (fun _ h => ((h).erase 0).erase 0) (Yv.pickT rfl rfl) ?_
      refine HW.take 54 rfl (by kernel_rfl) (by kernel_rfl) (by kernel_rfl) (fun _ _ _ h => h) (.inl rfl) rfl (fun _ h => ((h).erase 0).erase 0) (Yv.move rfl) ?_
      refine HW.isT 135 rfl (rfl) ?_
      refine HW.take 55 rfl (by kernel_rfl) (by kernel_rfl) (by kernel_rfl) (fun _ _ _ h => h) (.inr ⟨_, _, 135, rfl, rfl, rfl⟩) rfl (fun _ h => ((h).erase 0).erase 0) (Yv.move rfl) ?_
      refine HW.take 57 rfl (by kernel_rfl) (by kernel_rfl) (by kernel_rfl) (fun _ _ _ h => h) (.inr ⟨_, _, 135, rfl, rfl, rfl⟩) rfl (fun _ h => ((h).erase 0).erase 0) (Yv.move rfl) ?_
      refine HW.run 56 rfl (by kernel_rfl) _ (.inr ⟨_, _, 135, rfl, rfl, rfl⟩) rfl (Ow.call e22 rfl (C.val (fun w hs => csrBack x0 hx _))) (by rintro _ _ ⟨rfl, rfl⟩ w h; exact ((h).erase 0).erase 0) ?_
      rintro _ _ ⟨rfl, rfl⟩
      refine HW.run 58 rfl (by kernel_rfl) _ (.inr ⟨_, _, 135, rfl, rfl, rfl⟩) rfl (Ow.call e23 rfl (C.val (fun w hs => ref19Back x0 hx _))) (by rintro _ _ ⟨rfl, rfl⟩ w h; exact ((h).erase 0).erase 0) ?_
      rintro _ _ ⟨rfl, rfl⟩
      refine HW.take 59 rfl (by kernel_rfl) (by kernel_rfl) (by kernel_rfl) (fun _ _ _ h => h) (.inr ⟨_, _, 135, rfl, rfl, rfl⟩) rfl (fun _ h => ((h).erase 0).erase 0) (Yv.eq rfl rfl) ?_
      refine HW.take 60 rfl (by kernel_rfl) (by kernel_rfl) (by kernel_rfl) (fun _ _ _ h => h) (.inl rfl) rfl (fun _ h => ((h).erase 0).erase 0) (Yv.pickT rfl rfl) ?_
      refine HW.take 61 rfl (by kernel_rfl) (by kernel_rfl) (by kernel_rfl) (fun _ _ _ h => h) (.inl rfl) rfl (fun _ h => ((h).erase 0).erase 0) (Yv.move rfl) ?_
      refine HW.isT 142 rfl (rfl) ?_
      refine HW.take 62 rfl (by kernel_rfl) (by kernel_rfl) (by kernel_rfl) (fun _ _ _ h => h) (.inr ⟨_, _, 142, rfl, rfl, rfl⟩) rfl (fun _ h => ((h).erase 0).erase 0) (Yv.move rfl) ?_
      refine HW.take 64 rfl (by kernel_rfl) (by kernel_rfl) (by kernel_rfl) (fun _ _ _ h => h) (.inr ⟨_, _, 142, rfl, rfl, rfl⟩) rfl (fun _ h => ((h).erase 0).erase 0) (Yv.move rfl) ?_
      refine HW.run 63 rfl (by kernel_rfl) _ (.inr ⟨_, _, 142, rfl, rfl, rfl⟩) rfl (Ow.call e24 rfl (C.val (fun w hs => csrEdge x0 hx _))) (by rintro _ _ ⟨rfl, rfl⟩ w h; exact ((h).erase 0).erase 0) ?_
      rintro _ _ ⟨rfl, rfl⟩
      refine HW.run 65 rfl (by kernel_rfl) _ (.inr ⟨_, _, 142, rfl, rfl, rfl⟩) rfl (Ow.call e25 rfl (C.val (fun w hs => ref19Edge x0 hx _))) (by rintro _ _ ⟨rfl, rfl⟩ w h; exact ((h).erase 0).erase 0) ?_
      rintro _ _ ⟨rfl, rfl⟩
      refine HW.take 66 rfl (by kernel_rfl) (by kernel_rfl) (by kernel_rfl) (fun _ _ _ h => h) (.inr ⟨_, _, 142, rfl, rfl, rfl⟩) rfl (fun _ h => ((h).erase 0).erase 0) (Yv.eq rfl rfl) ?_
      refine HW.take 67 rfl (by kernel_rfl) (by kernel_rfl) (by kernel_rfl) (fun _ _ _ h => h) (.inl rfl) rfl (fun _ h => ((h).erase 0).erase 0) (Yv.pickT rfl rfl) ?_
      refine HW.take 68 rfl (by kernel_rfl) (by kernel_rfl) (by kernel_rfl) (fun _ _ _ h => h) (.inl rfl) rfl (fun _ h => ((h).erase 0).erase 0) (Yv.move rfl) ?_
      refine HW.isT 149 rfl (rfl) ?_
      refine HW.run 69 rfl (by kernel_rfl) _ (.inr ⟨_, _, 149, rfl, rfl, rfl⟩) rfl (Ow.call e7 rfl (C.val (fun w hs => awake19 _))) (by rintro _ _ ⟨rfl, rfl⟩ w h; exact ((h).erase 0).erase 0) ?_
      rintro _ _ ⟨rfl, rfl⟩
      refine HW.take 70 rfl (by kernel_rfl) (by kernel_rfl) (by kernel_rfl) (fun _ _ _ h => h) (.inl rfl) rfl (fun _ h => ((h).erase 0).erase 0) (Yv.pickT rfl rfl) ?_
      refine HW.take 71 rfl (by kernel_rfl) (by kernel_rfl) (by kernel_rfl) (fun _ _ _ h => h) (.inl rfl) rfl (fun _ h => ((h).erase 0).erase 0) (Yv.assign rfl) ?_
      refine HW.done (by kernel_rfl) ?_
      refine PW.go ?_
      refine CW.ret ?_
      refine PW.ret1 Try.results3 rfl (fun w1 hs => ?_)
      exact ⟨by first | rfl | simp, hs.mod.below⟩

theorem csrTellsLaw (n : Int) (hn : 0 ≤ n ∧ n ≤ 255) (A : Option Addr) (c : Nat) (l : List Edg) (x0 x1 : Int) (hx : -9223372036854775808 ≤ x0 ∧ x0 ≤ 9223372036854775807) (w : World) (hr : l.length ≤ 4611686018427387904 → Rd w A 3 l.length (cellsE l)) :
    Calls Try.prog 3 #[.int .u8 n, .slice A l.length c, .agg #[.int .i64 x0, .int .i64 x1]] w fun e w1 => e = .returned (.bool true) ∧ Gr w w1 := by
  by_cases hl : 60 < l.length
  · exact csrTells_long n x0 x1 A c l.length w hl
  · have r := hr (by omega)
    obtain ⟨k, i, h⟩ := newE_total n l
    by_cases z : k = 0
    · subst z; exact csrTells_ok n hn A c l x0 x1 hx w r (by omega) (newE_ok h).1
    · exact csrTells_err n hn A c l x0 x1 hx w r (by omega) k i z h

end Go.Proofs.Ytipoblpnkkcpgaa
