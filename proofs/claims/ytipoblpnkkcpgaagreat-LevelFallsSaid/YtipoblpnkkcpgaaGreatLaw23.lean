/- Walks, written by a program of this session (gen.py) out of a spec. -/
import Derived.Test.YtipoblpnkkcpgaaGreatRes0
import Derived.Test.YtipoblpnkkcpgaaGreatNet2
import Derived.Test.YtipoblpnkkcpgaaGreatRef2
set_option linter.unusedVariables false
set_option linter.unusedSimpArgs false
namespace Go.Proofs.YtipoblpnkkcpgaaGreat
open Go Go.RowKit Go.Proofs.YtipoblpnkkcpgaaGreat.B

theorem newOk_of {n : Int} {l : List Edg} (h0 : 0 ≤ n) (hn : n ≤ 4096) (hl : l.length ≤ 1048576) (hc : ∀ e ∈ l, chkE n e = 0) : NewOk n l := ⟨h0, hn, hl, .inl ⟨rfl, rfl, hc⟩⟩
theorem arcsOk_nil : ArcsOk 0 [] := ⟨by simp, List.Pairwise.nil, by simp, by omega, by simp⟩
theorem residNewG (bg : Nat) (n : Int) (l : List Edg) (hok : NewOk n l) (w : World) (hN : IsNet w bg (netOf n l)) : Calls Tryz.prog 8 #[.pointer (some ⟨bg, 0, none⟩)] w fun en w1 => ∃ x : RI × List Int, (∀ v, v < n.toNat → (csrD n.toNat (mergeL l) x.2).of v = outOf n.toNat (mergeL l) v) ∧ en = .returned (.pointer (some ⟨x.1.b, 0, none⟩)) ∧ Gr w w1 ∧ ∃ F, (Ass.star (nowA (fun w' => IsArcs w' x.1.ba (csrD n.toNat (mergeL l) x.2))) (restA x.1 n.toNat (2 * (mergeL l).length) (leftL (mergeL l) (List.replicate (mergeL l).length 0)) (overL n.toNat (mergeL l) (List.replicate (mergeL l).length 0)))).holds w1 F ∧ ∀ k, F k → w.heap.size ≤ k ∧ k < w1.heap.size :=
  residNew _ n.toNat (mergeL l) hok.arcs w (fun w' hg => netN bg (netOf n l) w' (hN.below hg)) (fun w' hg => netEdges bg (netOf n l) w' (hN.below hg))
theorem residNewNil (w : World) : Calls Tryz.prog 8 #[.pointer none] w fun en w1 => ∃ x : RI × List Int, (∀ v, v < 0 → (csrD 0 [] x.2).of v = outOf 0 [] v) ∧ en = .returned (.pointer (some ⟨x.1.b, 0, none⟩)) ∧ Gr w w1 ∧ ∃ F, (Ass.star (nowA (fun w' => IsArcs w' x.1.ba (csrD 0 [] x.2))) (restA x.1 0 (2 * ([] : List Edg).length) (leftL [] (List.replicate ([] : List Edg).length 0)) (overL 0 [] (List.replicate ([] : List Edg).length 0)))).holds w1 F ∧ ∀ k, F k → w.heap.size ≤ k ∧ k < w1.heap.size :=
  residNew _ 0 [] arcsOk_nil w (fun w' hg => netN_nil w') (fun w' hg => (netEdges_nil w').mono fun e w1 ⟨he, hb⟩ => ⟨_, he, hb, none0, ⟨World.ownsRow_nil w1 0 79 3, fun k => ⟨fun h => h.elim, fun h => by simp [Value.ownBlock] at h⟩⟩, fun k h => h.elim⟩)
def awk23 : List Edg := [⟨0, 1, 7⟩]
theorem awk23_ok : NewOk 2 awk23 := newOk_of (by decide) (by decide) (by decide) (by decide)
theorem NewOk.mtot {n : Int} {l : List Edg} (h : NewOk n l) : totalW (mergeL l) ≤ 2251799813685248 := (merged_total h).2
theorem flow0 {n : Int} {l : List Edg} (h : NewOk n l) : FlowOk (mergeL l) (List.replicate (mergeL l).length 0) := FlowOk.zero 0 (fun e he => (h.arcs.wts e he).1)

set_option maxRecDepth 100000 in
theorem awake23 (w : World) : Calls Tryz.prog 6 #[] w fun e w1 => e = .returned (.bool true) ∧ Gr w w1 := by
  have hF0 := flow0 awk23_ok
  have hF1 := pushR_ok (i := 0) (x := 5) hF0
  have hF2 := pushR_ok (i := 0) (x := 3) hF1
  have hd : pushR (mergeL awk23) (pushR (mergeL awk23) (List.replicate (mergeL awk23).length 0) 0 5) 0 3 = [5] := by decide
  refine CW.enter (P := Tryz.prog) (F0 := none0) (L := []) 49 [] Tryz.func6 rfl Tryz.ntmps6 (Nat.le_of_ble_eq_true rfl) (St.start w none0) rfl ?_
  refine CW.seq ?_
  refine CW.region ?_
  refine RW.y (.inl rfl) rfl (Yv.assign rfl) ?_
  refine RW.nil ?_
  refine PW.go ?_
  refine CW.seq ?_
  refine CW.region ?_
  refine RW.y (.inl rfl) rfl (Yv.build rfl (fun w => by exact bld79_1_2 _ _ w)) ?_
  refine RW.o _ (.inl rfl) rfl (Ow.lit (len := 1) (vs := [_]) (cs := [_, _, _]) Tryz.underlying22 info79 rfl rfl rfl rfl rfl rfl rfl) ?_
  rintro _ _ ⟨b7, rfl, rfl⟩
  refine RW.o _ (.inl rfl) rfl (Ow.call e7 rfl (C.new (val := fun (b : Nat) => .tuple #[.pointer (some ⟨b, 0, none⟩), .int .i64 0, .int .i64 0]) (φ := fun _ => True) (Ψ := fun b => nowA (fun w' => IsNet w' b (netOf 2 awk23))) (fun w2 hs => (netNew_ok 2 (some ⟨b7, 0, none⟩) 1 awk23 w2 (hs.blk_Rd 0 rfl rfl (by decide)) awk23_ok).mono (fun en w3 ⟨b, ht, he, hb, F, hF, hk⟩ => ⟨b, ht, he, hb, F, hF, hk⟩)))) ?_
  rintro _ _ ⟨bg, -, rfl, rfl⟩
  refine RW.y (.inl rfl) rfl (Yv.move rfl) ?_
  refine RW.y (.inl rfl) rfl (Yv.extract rfl rfl) ?_
  refine RW.y (.inl rfl) rfl (Yv.extract rfl rfl) ?_
  refine RW.y (.inl rfl) rfl (Yv.extract rfl rfl) ?_
  refine RW.y (.inl rfl) rfl (Yv.assign rfl) ?_
  refine RW.y (.inl rfl) rfl (Yv.assign rfl) ?_
  refine RW.y (.inl rfl) rfl (Yv.assign rfl) ?_
  refine RW.nil ?_
  refine PW.go ?_
  refine CW.seq ?_
  refine CW.region ?_
  refine RW.y (.inl rfl) rfl (Yv.move rfl) ?_
  refine RW.o _ (.inl rfl) rfl (Ow.call e8 rfl (C.new (val := fun (x : RI × List Int) => .pointer (some ⟨x.1.b, 0, none⟩)) (φ := fun x => ∀ v, v < (2 : Int).toNat → (csrD ((2 : Int).toNat) (mergeL awk23) x.2).of v = outOf ((2 : Int).toNat) (mergeL awk23) v) (Ψ := fun x => Ass.star (nowA (fun w' => IsArcs w' x.1.ba (csrD ((2 : Int).toNat) (mergeL awk23) x.2))) (restA x.1 ((2 : Int).toNat) (2 * (mergeL awk23).length) (leftL (mergeL awk23) (List.replicate (mergeL awk23).length 0)) (overL ((2 : Int).toNat) (mergeL awk23) (List.replicate (mergeL awk23).length 0)))) (fun w2 hs => residNewG bg 2 awk23 awk23_ok w2 (hs.now 0 rfl)))) ?_
  rintro _ _ ⟨⟨R, out⟩, hof, rfl, rfl⟩
  refine RW.y (.inl rfl) rfl (Yv.assign rfl) ?_
  refine RW.nil ?_
  refine PW.go ?_
  refine CW.seq ?_
  refine CW.mem _ (fun w h => h.front 0 rfl) ?_
  refine CW.mem _ (fun w h => h.split) ?_
  refine CW.mem _ (fun w h => h.front 1 rfl) ?_
  refine CW.region ?_
  refine RW.y (.inl rfl) rfl (Yv.move rfl) ?_
  refine RW.y (.inl rfl) rfl (Yv.eq rfl rfl) ?_
  refine RW.y (.inl rfl) rfl (Yv.move rfl) ?_
  refine RW.isB (c := true) 16 rfl (by first | rfl | exact decide_eq_true (by decide) | decide) ?_
  refine RW.y (.inr ⟨_, _, 16, rfl, rfl, rfl⟩) rfl (Yv.move rfl) ?_
  refine RW.y (.inr ⟨_, _, 16, rfl, rfl, rfl⟩) rfl (Yv.ptrNotNil Tryz.underlying29 rfl rfl) ?_
  refine RW.y (.inl rfl) rfl (Yv.pickT rfl rfl) ?_
  refine RW.y (.inl rfl) rfl (Yv.move rfl) ?_
  refine RW.isB (c := true) 20 rfl (by first | rfl | exact decide_eq_true (by decide) | decide) ?_
  refine RW.y (.inr ⟨_, _, 20, rfl, rfl, rfl⟩) rfl (Yv.move rfl) ?_
  refine RW.o _ (.inr ⟨_, _, 20, rfl, rfl, rfl⟩) rfl (Ow.call e14 rfl (C.mut0 (val := fun _ : List Int => .bool (decide (okPush (mergeL awk23) (List.replicate (mergeL awk23).length 0) 0 5))) (Ψ := fun f_ => restA R ((2 : Int).toNat) (2 * (mergeL awk23).length) (leftL (mergeL awk23) f_) (overL ((2 : Int).toNat) (mergeL awk23) f_)) (φ := fun f_ => f_ = pushR (mergeL awk23) (List.replicate (mergeL awk23).length 0) 0 5) (fun w2 F2 h2 h3 h4 => restPush R (csrD (2 : Int).toNat (mergeL awk23) out) (List.replicate (mergeL awk23).length 0) awk23_ok.arcs awk23_ok.mtot hF0 0 5 w2 F2 h2 h3 (fun W hM => now_of (h4 W hM 0 _ rfl))))) ?_
  rintro _ _ ⟨f', hf', rfl, rfl⟩
  subst hf'
  refine RW.y (.inl rfl) rfl (Yv.pickT rfl rfl) ?_
  refine RW.y (.inl rfl) rfl (Yv.move rfl) ?_
  refine RW.isB (c := true) 24 rfl (by first | rfl | exact decide_eq_true (by decide) | decide) ?_
  refine RW.y (.inr ⟨_, _, 24, rfl, rfl, rfl⟩) rfl (Yv.move rfl) ?_
  refine RW.o _ (.inr ⟨_, _, 24, rfl, rfl, rfl⟩) rfl (Ow.call e14 rfl (C.mut0 (val := fun _ : List Int => .bool (decide (okPush (mergeL awk23) (pushR (mergeL awk23) (List.replicate (mergeL awk23).length 0) 0 5) 0 3))) (Ψ := fun f_ => restA R ((2 : Int).toNat) (2 * (mergeL awk23).length) (leftL (mergeL awk23) f_) (overL ((2 : Int).toNat) (mergeL awk23) f_)) (φ := fun f_ => f_ = pushR (mergeL awk23) (pushR (mergeL awk23) (List.replicate (mergeL awk23).length 0) 0 5) 0 3) (fun w2 F2 h2 h3 h4 => restPush R (csrD (2 : Int).toNat (mergeL awk23) out) (pushR (mergeL awk23) (List.replicate (mergeL awk23).length 0) 0 5) awk23_ok.arcs awk23_ok.mtot hF1 0 3 w2 F2 h2 h3 (fun W hM => now_of (h4 W hM 0 _ rfl))))) ?_
  rintro _ _ ⟨f', hf', rfl, rfl⟩
  subst hf'
  refine RW.y (.inr ⟨_, _, 24, rfl, rfl, rfl⟩) rfl (Yv.not rfl) ?_
  refine RW.y (.inl rfl) rfl (Yv.pickT rfl rfl) ?_
  refine RW.y (.inl rfl) rfl (Yv.move rfl) ?_
  refine RW.isB (c := true) 29 rfl (by first | rfl | exact decide_eq_true (by decide) | decide) ?_
  refine RW.y (.inr ⟨_, _, 29, rfl, rfl, rfl⟩) rfl (Yv.move rfl) ?_
  refine RW.o _ (.inr ⟨_, _, 29, rfl, rfl, rfl⟩) rfl (Ow.call e32 rfl (C.val (fun w hs => restLeftT R (csrD (2 : Int).toNat (mergeL awk23) out) _ _ 0 _ (IsRest.of (hs.hold 0 _ rfl) (hs.now 1 rfl)) (a := 2) (by show atI (leftL (mergeL awk23) (pushR (mergeL awk23) (pushR (mergeL awk23) (List.replicate (mergeL awk23).length 0) 0 5) 0 3)) 0 = 2; rw [hd]; decide)))) ?_
  rintro _ _ ⟨rfl, rfl⟩
  refine RW.y (.inr ⟨_, _, 29, rfl, rfl, rfl⟩) rfl (Yv.eq rfl rfl) ?_
  refine RW.y (.inl rfl) rfl (Yv.pickT rfl rfl) ?_
  refine RW.y (.inl rfl) rfl (Yv.move rfl) ?_
  refine RW.isB (c := true) 34 rfl (by first | rfl | exact decide_eq_true (by decide) | decide) ?_
  refine RW.y (.inr ⟨_, _, 34, rfl, rfl, rfl⟩) rfl (Yv.move rfl) ?_
  refine RW.o _ (.inr ⟨_, _, 34, rfl, rfl, rfl⟩) rfl (Ow.call e32 rfl (C.val (fun w hs => restLeftT R (csrD (2 : Int).toNat (mergeL awk23) out) _ _ 1 _ (IsRest.of (hs.hold 0 _ rfl) (hs.now 1 rfl)) (a := 12) (by show atI (leftL (mergeL awk23) (pushR (mergeL awk23) (pushR (mergeL awk23) (List.replicate (mergeL awk23).length 0) 0 5) 0 3)) 1 = 12; rw [hd]; decide)))) ?_
  rintro _ _ ⟨rfl, rfl⟩
  refine RW.y (.inr ⟨_, _, 34, rfl, rfl, rfl⟩) rfl (Yv.eq rfl rfl) ?_
  refine RW.y (.inl rfl) rfl (Yv.pickT rfl rfl) ?_
  refine RW.y (.inl rfl) rfl (Yv.move rfl) ?_
  refine RW.isB (c := true) 39 rfl (by first | rfl | exact decide_eq_true (by decide) | decide) ?_
  refine RW.y (.inr ⟨_, _, 39, rfl, rfl, rfl⟩) rfl (Yv.move rfl) ?_
  refine RW.o _ (.inr ⟨_, _, 39, rfl, rfl, rfl⟩) rfl (Ow.call e35 rfl (C.val (fun w hs => restFlow R (csrD (2 : Int).toNat (mergeL awk23) out) _ _ awk23_ok.arcs hF2 0 _ (IsRest.of (hs.hold 0 _ rfl) (hs.now 1 rfl))))) ?_
  rintro _ _ ⟨rfl, rfl⟩
  refine RW.y (.inr ⟨_, _, 39, rfl, rfl, rfl⟩) rfl (Yv.eq rfl rfl) ?_
  refine RW.y (.inl rfl) rfl (Yv.pickT rfl rfl) ?_
  refine RW.y (.inl rfl) rfl (Yv.move rfl) ?_
  refine RW.isT 44 rfl (by rw [hd]; decide) ?_
  refine RW.y (.inr ⟨_, _, 44, rfl, rfl, rfl⟩) rfl (Yv.move rfl) ?_
  refine RW.o _ (.inr ⟨_, _, 44, rfl, rfl, rfl⟩) rfl (Ow.call e36 rfl (C.val (fun w hs => restExcessT R (csrD (2 : Int).toNat (mergeL awk23) out) _ _ 1 _ (IsRest.of (hs.hold 0 _ rfl) (hs.now 1 rfl)) (a := 5) (by show atI (overL 2 (mergeL awk23) (pushR (mergeL awk23) (pushR (mergeL awk23) (List.replicate (mergeL awk23).length 0) 0 5) 0 3)) 1 = 5; rw [hd]; decide)))) ?_
  rintro _ _ ⟨rfl, rfl⟩
  refine RW.y (.inr ⟨_, _, 44, rfl, rfl, rfl⟩) rfl (Yv.eq rfl rfl) ?_
  refine RW.y (.inl rfl) rfl (Yv.pickT rfl rfl) ?_
  refine RW.y (.inl rfl) rfl (Yv.assign rfl) ?_
  refine RW.nil ?_
  refine PW.go ?_
  refine CW.ret ?_
  refine PW.ret1 Tryz.results6 rfl (fun w1 hs => ?_)
  exact ⟨by first | rfl | (rw [decide_eq_true (by decide)]), hs.mod.below⟩

end Go.Proofs.YtipoblpnkkcpgaaGreat
