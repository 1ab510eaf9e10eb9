/- Walks, written by a program of this session (gen.py) out of a spec. -/
import Derived.Test.YtipoblpnkkcpgaaGreatLaw23
import Derived.Test.YtipoblpnkkcpgaaGreatRef23
import Derived.Test.YtipoblpnkkcpgaaGreatRes1
set_option linter.unusedVariables false
set_option linter.unusedSimpArgs false
namespace Go.Proofs.YtipoblpnkkcpgaaGreat
open Go Go.RowKit Go.Proofs.YtipoblpnkkcpgaaGreat.B

theorem exc_none : ∀ (l : List Edg) (f : List Int) (v : Int), (∀ e ∈ l, e.u ≠ v ∧ e.v ≠ v) → exc l f v = 0
  | [], f, v, _ => by simp [exc]
  | e :: l, [], v, _ => by simp [exc]
  | e :: l, y :: f, v, h => by
    have ih := exc_none l f v (fun x hx => h x (by simp [hx]))
    have h0 := h e (by simp)
    rw [exc, if_neg h0.2, if_neg h0.1, ih]; rfl
theorem over_at {n : Nat} {l : List Edg} (hok : ArcsOk n l) (f : List Int) (z : Int) : atI (overL n l f) z = exc l f z := by
  by_cases h : 0 ≤ z ∧ z < n
  · obtain ⟨k, rfl⟩ : ∃ k : Nat, z = k := ⟨z.toNat, by omega⟩
    rw [atI_nat, getD_of (overL_get (by omega))]
  · rw [atI_out (by rw [overL_length]; omega), exc_none]
    intro e he
    have := hok.rng e he
    omega
theorem rd_new {w : World} {l : List Edg} {f : List Int} {i x : Int} {q : Option Addr × Nat} {B : Option Addr} {d : Nat} (h1 : okPush l f i x → Rd w q.1 1 (pushR l f i x).length (i64s (pushR l f i x))) (h2 : Rd w B 1 f.length (i64s f)) (hq : ¬ okPush l f i x → q = (B, d)) : Rd w q.1 1 (pushR l f i x).length (i64s (pushR l f i x)) := by
  by_cases h : okPush l f i x
  · exact h1 h
  · rw [hq h]; unfold pushR; rw [if_neg h]; exact h2

set_option maxRecDepth 100000 in
theorem ref04Same (w : World) (A1 : Option Addr) (c1 : Nat) (l1 : List Int) (hr1 : Rd w A1 1 l1.length (i64s l1)) (A2 : Option Addr) (c2 : Nat) (l2 : List Int) (hr2 : Rd w A2 1 l2.length (i64s l2)) : Calls Tryz.prog 23 #[.slice A1 l1.length c1, .slice A2 l2.length c2] w fun e w1 => e = .returned (.bool (decide (l1 = l2))) ∧ Gr w w1 := by
  have hlen1 := hr1.2.1
  have hlen2 := hr2.2.1
  refine CW.enter (P := Tryz.prog) (F0 := none0) (L := [(0, _), (1, _)]) 26 [] Tryz.func23 rfl Tryz.ntmps23 (Nat.le_of_ble_eq_true rfl) (St.start w none0) rfl ?_
  refine CW.seq ?_
  refine CW.region ?_
  refine RW.y (.inl rfl) rfl (Yv.assign rfl) ?_
  refine RW.nil ?_
  refine PW.go ?_
  refine CW.seq ?_
  refine CW.seq ?_
  refine CW.region ?_
  refine RW.y (.inl rfl) rfl (Yv.move rfl) ?_
  refine RW.y (.inl rfl) rfl (Yv.len Tryz.underlying33 rfl) ?_
  refine RW.y (.inl rfl) rfl (Yv.move rfl) ?_
  refine RW.y (.inl rfl) rfl (Yv.len Tryz.underlying33 rfl) ?_
  refine RW.y (.inl rfl) rfl (Yv.ne rfl rfl) ?_
  refine RW.nil ?_
  refine PW.go ?_
  refine CW.condD rfl (fun hc10 => ?_) (fun hc10 => ?_)
  ·
    refine CW.seq ?_
    refine CW.region ?_
    refine RW.y (.inl rfl) rfl (Yv.assign rfl) ?_
    refine RW.nil ?_
    refine PW.go ?_
    refine CW.ret ?_
    refine PW.then_ret ?_
    refine PW.ret1 Tryz.results23 rfl (fun w1 hs => ?_)
    refine ⟨?_, hs.mod.below⟩
    rw [decide_eq_false (fun h => by subst h; omega)]
  ·
    refine CW.skip ?_
    refine PW.go ?_
    refine CW.seq ?_
    refine CW.seq ?_
    refine CW.region ?_
    refine RW.y (.inl rfl) rfl (Yv.assign rfl) ?_
    refine RW.nil ?_
    refine PW.go ?_
    refine CW.block ?_
    refine CW.loop (σ := Nat) (fun k => k ≤ l1.length ∧ ∀ j, j < k → l1[j]? = l2[j]?) (fun k => [(0, .slice A1 l1.length c1), (1, .slice A2 l2.length c2), (5, .int .i64 (k : Nat))]) (fun k => []) (fun k => l1.length - k) 0 (⟨by omega, fun j hj => by omega⟩) ⟨rfl, rfl, rfl, trivial⟩ (fun w h => h) ?_
    intro k hk
    obtain ⟨hk, hok⟩ := hk
    refine CW.seq ?_
    refine CW.seq ?_
    refine CW.region ?_
    refine RW.y (.inl rfl) rfl (Yv.move rfl) ?_
    refine RW.y (.inl rfl) rfl (Yv.move rfl) ?_
    refine RW.y (.inl rfl) rfl (Yv.len Tryz.underlying33 rfl) ?_
    refine RW.y (.inl rfl) rfl (Yv.lt rfl rfl) ?_
    refine RW.nil ?_
    refine PW.go ?_
    refine CW.condD rfl (fun hc14 => ?_) (fun hc14 => ?_)
    ·
      refine CW.skip ?_
      refine PW.go ?_
      refine CW.seq ?_
      refine CW.block ?_
      refine CW.seq ?_
      obtain ⟨b1, o1, rfl, hb1, hcc1⟩ := hr1.2.2 (by omega)
      obtain ⟨b2, o2, rfl, hb2, hcc2⟩ := hr2.2.2 (by omega)
      obtain ⟨x1, hx1⟩ : ∃ x, l1[k]? = some x := ⟨_, List.getElem?_eq_getElem (by omega)⟩
      obtain ⟨x2, hx2⟩ : ∃ x, l2[k]? = some x := ⟨_, List.getElem?_eq_getElem (by omega)⟩
      refine CW.draw0 mixed ?_
      refine HW.take 0 rfl (by kernel_rfl) (by kernel_rfl) (by kernel_rfl) (fun _ _ _ h => h) (.inl rfl) rfl (fun _ h => h) (Yv.move rfl) ?_
      refine HW.take 1 rfl (by kernel_rfl) (by kernel_rfl) (by kernel_rfl) (fun _ _ _ h => h) (.inl rfl) rfl (fun _ h => h) (Yv.move rfl) ?_
      refine HW.take 2 rfl (by kernel_rfl) (by kernel_rfl) (by kernel_rfl) (fun _ _ _ h => h) (.inl rfl) rfl (fun _ h => h) (Yv.index1 Tryz.underlying33 Tryz.sizeOf2 rfl rfl (by omega) (by omega)) ?_
      refine HW.take 3 rfl (by kernel_rfl) (by kernel_rfl) (by kernel_rfl) (fun _ _ _ h => h) (.inl rfl) rfl (fun _ h => h) (Yv.load1 Tryz.isAgg2 rfl (CF.old (hcc1 _ _ (i64s_get _ _ _ hx1)) (not_none0 _))) ?_
      refine HW.take 4 rfl (by kernel_rfl) (by kernel_rfl) (by kernel_rfl) (fun _ _ _ h => h) (.inl rfl) rfl (fun _ h => h) (Yv.move rfl) ?_
      refine HW.take 5 rfl (by kernel_rfl) (by kernel_rfl) (by kernel_rfl) (fun _ _ _ h => h) (.inl rfl) rfl (fun _ h => h) (Yv.move rfl) ?_
      refine HW.take 6 rfl (by kernel_rfl) (by kernel_rfl) (by kernel_rfl) (fun _ _ _ h => h) (.inl rfl) rfl (fun _ h => h) (Yv.index1 Tryz.underlying33 Tryz.sizeOf2 rfl rfl (by omega) (by omega)) ?_
      refine HW.take 7 rfl (by kernel_rfl) (by kernel_rfl) (by kernel_rfl) (fun _ _ _ h => h) (.inl rfl) rfl (fun _ h => h) (Yv.load1 Tryz.isAgg2 rfl (CF.old (hcc2 _ _ (i64s_get _ _ _ hx2)) (not_none0 _))) ?_
      refine HW.take 8 rfl (by kernel_rfl) (by kernel_rfl) (by kernel_rfl) (fun _ _ _ h => h) (.inl rfl) rfl (fun _ h => h) (Yv.ne rfl rfl) ?_
      refine HW.done (by kernel_rfl) ?_
      refine PW.go ?_
      refine CW.condD rfl (fun hc25 => ?_) (fun hc25 => ?_)
      ·
        refine CW.seq ?_
        refine CW.region ?_
        refine RW.y (.inl rfl) rfl (Yv.assign rfl) ?_
        refine RW.nil ?_
        refine PW.go ?_
        refine CW.ret ?_
        refine PW.block_ret ?_
        refine PW.then_ret ?_
        refine PW.then_ret ?_
        refine PW.block_ret ?_
        refine PW.then_ret ?_
        refine PW.ret1 Tryz.results23 rfl (fun w1 hs => ?_)
        refine ⟨?_, hs.mod.below⟩
        rw [decide_eq_false (fun h => by subst h; rw [hx1] at hx2; cases hx2; simp at hc25)]
      ·
        refine CW.skip ?_
        refine PW.block ?_
        refine PW.go ?_
        refine CW.region ?_
        refine RW.y (.inl rfl) rfl (Yv.move rfl) ?_
        refine RW.y (.inl rfl) rfl (Yv.add rfl rfl (by omega)) ?_
        refine RW.y (.inl rfl) rfl (Yv.assign rfl) ?_
        refine RW.nil ?_
        exact PW.next (k + 1) (⟨by omega, fun j hj => by
              rcases Nat.lt_or_ge j k with h | h
              · exact hok j h
              · obtain rfl : j = k := by omega
                rw [hx1, hx2]; simpa using hc25⟩) ⟨rfl, rfl, rfl, trivial⟩ (fun w h => h) (by omega)
    ·
      refine CW.exit ?_
      refine PW.then_exit ?_
      refine PW.then_exit ?_
      refine PW.block_exit ?_
      refine PW.go ?_
      refine CW.seq ?_
      refine CW.region ?_
      refine RW.y (.inl rfl) rfl (Yv.assign rfl) ?_
      refine RW.nil ?_
      refine PW.go ?_
      refine CW.ret ?_
      refine PW.ret1 Tryz.results23 rfl (fun w1 hs => ?_)
      refine ⟨?_, hs.mod.below⟩
      rw [decide_eq_true]
      apply List.ext_getElem?
      intro j
      rcases Nat.lt_or_ge j k with h | h
      · exact hok j h
      · rw [List.getElem?_eq_none (by omega), List.getElem?_eq_none (by omega)]

set_option maxRecDepth 100000 in
theorem same23 (R : RI) (D : ArcsD) (f : List Int) (hok : ArcsOk D.n D.l) (hF : FlowOk D.l f) (hT : totalW D.l ≤ 2251799813685248) (hof : ∀ v, v < D.n → D.of v = outOf D.n D.l v) (A : Option Addr) (c : Nat) (B : Option Addr) (d : Nat) (v : Int) (w : World) (hR : IsRest w R D (leftL D.l f) (overL D.n D.l f)) (hr : Rd w A 3 D.l.length (cellsE D.l)) (hrF : Rd w B 1 f.length (i64s f)) : Calls Tryz.prog 11 #[.pointer (some ⟨R.b, 0, none⟩), .agg #[.int .i64 D.n, .slice A D.l.length c, .slice B f.length d], .int .i64 v] w fun e w1 => e = .returned (.bool true) ∧ Gr w w1 := by
  have hml := hok.hl
  have hnn := hok.hn
  have hfl := hF.len
  refine CW.enter (P := Tryz.prog) (F0 := none0) (L := [(0, _), (1, _), (2, _)]) 52 [] Tryz.func11 rfl Tryz.ntmps11 (Nat.le_of_ble_eq_true rfl) (St.start w none0) rfl ?_
  refine CW.seq ?_
  refine CW.region ?_
  refine RW.o _ (.inl rfl) rfl (Ow.box (cs := [_, _, _]) rfl rfl) ?_
  rintro _ _ ⟨b4, rfl, rfl⟩
  refine RW.y (.inl rfl) rfl (Yv.assign rfl) ?_
  refine RW.nil ?_
  refine PW.go ?_
  refine CW.seq ?_
  refine CW.seq ?_
  refine CW.region ?_
  refine RW.y (.inl rfl) rfl (Yv.assign rfl) ?_
  refine RW.nil ?_
  refine PW.go ?_
  refine CW.block ?_
  refine CW.loop (σ := Int) (fun z => -1 ≤ z ∧ z ≤ 2 * (D.l.length : Int) + 1) (fun z => [(0, .pointer (some ⟨R.b, 0, none⟩)), (2, .int .i64 v), (4, .pointer (some ⟨b4, 0, none⟩)), (7, .int .i64 z)]) (fun z => [blk b4 [.int .i64 D.n, .slice A D.l.length c, .slice B f.length d] 35]) (fun z => (2 * (D.l.length : Int) + 1 - z).toNat) (-1) (by omega) ⟨rfl, rfl, rfl, rfl, trivial⟩ (fun w h => h) ?_
  intro z hz
  refine CW.seq ?_
  refine CW.seq ?_
  refine CW.region ?_
  refine RW.y (.inl rfl) rfl (Yv.move rfl) ?_
  refine RW.y (.inl rfl) rfl (Yv.fieldAddr Tryz.underlying35 rfl Tryz.sizeOf33 rfl rfl) ?_
  refine RW.y (.inl rfl) rfl (Yv.load1 Tryz.isAgg33 rfl (CF.blk 0 rfl rfl)) ?_
  refine RW.y (.inl rfl) rfl (Yv.len Tryz.underlying33 rfl) ?_
  refine RW.y (.inl rfl) rfl (Yv.mul rfl rfl (by omega)) ?_
  refine RW.y (.inl rfl) rfl (Yv.le rfl rfl) ?_
  refine RW.nil ?_
  refine PW.go ?_
  refine CW.condD rfl (fun hc14 => ?_) (fun hc14 => ?_)
  ·
    refine CW.skip ?_
    refine PW.go ?_
    refine CW.seq ?_
    refine CW.block ?_
    refine CW.seq ?_
    refine CW.draw0 mixed ?_
    refine HW.take 0 rfl (by kernel_rfl) (by kernel_rfl) (by kernel_rfl) (fun _ _ _ h => h) (.inl rfl) rfl (fun _ h => h) (Yv.move rfl) ?_
    refine HW.take 1 rfl (by kernel_rfl) (by kernel_rfl) (by kernel_rfl) (fun _ _ _ h => h) (.inl rfl) rfl (fun _ h => h) (Yv.move rfl) ?_
    refine HW.take 3 rfl (by kernel_rfl) (by kernel_rfl) (by kernel_rfl) (fun _ _ _ h => h) (.inl rfl) rfl (fun _ h => h) (Yv.loadK (vs := [_, _, _]) Tryz.isAgg35 Tryz.sizeOf35 rfl (CFs.whole 0 rfl)) ?_
    refine HW.take 4 rfl (by kernel_rfl) (by kernel_rfl) (by kernel_rfl) (fun _ _ _ h => h) (.inl rfl) rfl (fun _ h => h) (Yv.move rfl) ?_
    refine HW.run 2 rfl (by kernel_rfl) _ (.inl rfl) rfl (Ow.call e32 rfl (C.val (fun w hs => restLeft R D _ _ z _ (hR.below hs.mod.below)))) (by rintro _ _ ⟨rfl, rfl⟩ w h; exact h) ?_
    rintro _ _ ⟨rfl, rfl⟩
    refine HW.run 5 rfl (by kernel_rfl) _ (.inl rfl) rfl (Ow.call e46 rfl (C.val (fun w hs => ref23Left D.n A c D.l B d f _ (hr.below hs.mod.below) (hrF.below hs.mod.below) hok hF z (by omega)))) (by rintro _ _ ⟨rfl, rfl⟩ w h; exact h) ?_
    rintro _ _ ⟨rfl, rfl⟩
    refine HW.take 6 rfl (by kernel_rfl) (by kernel_rfl) (by kernel_rfl) (fun _ _ _ h => h) (.inl rfl) rfl (fun _ h => h) (Yv.ne rfl rfl) ?_
    refine HW.done (by kernel_rfl) ?_
    refine PW.go ?_
    refine CW.condD rfl (fun hc23 => ?_) (fun hc23 => ?_)
    ·
      exact absurd rfl hc23
    ·
      refine CW.skip ?_
      refine PW.block ?_
      refine PW.go ?_
      refine CW.region ?_
      refine RW.y (.inl rfl) rfl (Yv.move rfl) ?_
      refine RW.y (.inl rfl) rfl (Yv.add rfl rfl (by omega)) ?_
      refine RW.y (.inl rfl) rfl (Yv.assign rfl) ?_
      refine RW.nil ?_
      exact PW.next (z + 1) (by omega) ⟨rfl, rfl, rfl, rfl, trivial⟩ (fun w h => h) (by omega)
  ·
    refine CW.exit ?_
    refine PW.then_exit ?_
    refine PW.then_exit ?_
    refine PW.block_exit ?_
    refine PW.go ?_
    refine CW.seq ?_
    refine CW.seq ?_
    refine CW.region ?_
    refine RW.y (.inl rfl) rfl (Yv.assign rfl) ?_
    refine RW.nil ?_
    refine PW.go ?_
    refine CW.block ?_
    refine CW.loop (σ := Int) (fun z => -1 ≤ z ∧ z ≤ (D.n : Int) + 1) (fun z => [(0, .pointer (some ⟨R.b, 0, none⟩)), (2, .int .i64 v), (4, .pointer (some ⟨b4, 0, none⟩)), (8, .int .i64 z)]) (fun z => [blk b4 [.int .i64 D.n, .slice A D.l.length c, .slice B f.length d] 35]) (fun z => ((D.n : Int) + 1 - z).toNat) (-1) (by omega) ⟨rfl, rfl, rfl, rfl, trivial⟩ (fun w h => h) ?_
    intro z hz
    refine CW.seq ?_
    refine CW.seq ?_
    refine CW.region ?_
    refine RW.y (.inl rfl) rfl (Yv.move rfl) ?_
    refine RW.y (.inl rfl) rfl (Yv.fieldAddr Tryz.underlying35 rfl Tryz.sizeOf32 rfl rfl) ?_
    refine RW.y (.inl rfl) rfl (Yv.fieldAddr Tryz.underlying32 rfl Tryz.sizeOf3 rfl rfl) ?_
    refine RW.y (.inl rfl) rfl (Yv.load1 Tryz.isAgg3 rfl (CF.blk 0 rfl rfl)) ?_
    refine RW.y (.inl rfl) rfl (Yv.le rfl rfl) ?_
    refine RW.nil ?_
    refine PW.go ?_
    refine CW.condD rfl (fun hc28 => ?_) (fun hc28 => ?_)
    ·
      refine CW.skip ?_
      refine PW.go ?_
      refine CW.seq ?_
      refine CW.block ?_
      refine CW.seq ?_
      refine CW.draw0 mixed ?_
      refine HW.take 0 rfl (by kernel_rfl) (by kernel_rfl) (by kernel_rfl) (fun _ _ _ h => h) (.inl rfl) rfl (fun _ h => h) (Yv.move rfl) ?_
      refine HW.take 1 rfl (by kernel_rfl) (by kernel_rfl) (by kernel_rfl) (fun _ _ _ h => h) (.inl rfl) rfl (fun _ h => h) (Yv.move rfl) ?_
      refine HW.take 3 rfl (by kernel_rfl) (by kernel_rfl) (by kernel_rfl) (fun _ _ _ h => h) (.inl rfl) rfl (fun _ h => h) (Yv.loadK (vs := [_, _, _]) Tryz.isAgg35 Tryz.sizeOf35 rfl (CFs.whole 0 rfl)) ?_
      refine HW.take 4 rfl (by kernel_rfl) (by kernel_rfl) (by kernel_rfl) (fun _ _ _ h => h) (.inl rfl) rfl (fun _ h => h) (Yv.move rfl) ?_
      refine HW.run 2 rfl (by kernel_rfl) _ (.inl rfl) rfl (Ow.call e36 rfl (C.val (fun w hs => restExcess R D _ _ z _ (hR.below hs.mod.below)))) (by rintro _ _ ⟨rfl, rfl⟩ w h; exact h) ?_
      rintro _ _ ⟨rfl, rfl⟩
      refine HW.run 5 rfl (by kernel_rfl) _ (.inl rfl) rfl (Ow.call e47 rfl (C.val (fun w hs => ref23Excess D.n A c D.l B d f _ (hr.below hs.mod.below) (hrF.below hs.mod.below) hok hF hT z))) (by rintro _ _ ⟨rfl, rfl⟩ w h; exact h) ?_
      rintro _ _ ⟨rfl, rfl⟩
      refine HW.take 6 rfl (by kernel_rfl) (by kernel_rfl) (by kernel_rfl) (fun _ _ _ h => h) (.inl rfl) rfl (fun _ h => h) (Yv.ne rfl rfl) ?_
      refine HW.done (by kernel_rfl) ?_
      refine PW.go ?_
      refine CW.condD rfl (fun hc37 => ?_) (fun hc37 => ?_)
      ·
        exact absurd (over_at hok f z) hc37
      ·
        refine CW.skip ?_
        refine PW.block ?_
        refine PW.go ?_
        refine CW.region ?_
        refine RW.y (.inl rfl) rfl (Yv.move rfl) ?_
        refine RW.y (.inl rfl) rfl (Yv.add rfl rfl (by omega)) ?_
        refine RW.y (.inl rfl) rfl (Yv.assign rfl) ?_
        refine RW.nil ?_
        exact PW.next (z + 1) (by omega) ⟨rfl, rfl, rfl, rfl, trivial⟩ (fun w h => h) (by omega)
    ·
      refine CW.exit ?_
      refine PW.then_exit ?_
      refine PW.then_exit ?_
      refine PW.block_exit ?_
      refine PW.go ?_
      refine CW.seq ?_
      refine CW.draw0 mixed ?_
      refine HW.take 0 rfl (by kernel_rfl) (by kernel_rfl) (by kernel_rfl) (fun _ _ _ h => h) (.inl rfl) rfl (fun _ h => h) (Yv.move rfl) ?_
      refine HW.take 2 rfl (by kernel_rfl) (by kernel_rfl) (by kernel_rfl) (fun _ _ _ h => h) (.inl rfl) rfl (fun _ h => h) (Yv.fieldAddr Tryz.underlying35 rfl Tryz.sizeOf33 rfl rfl) ?_
      refine HW.take 3 rfl (by kernel_rfl) (by kernel_rfl) (by kernel_rfl) (fun _ _ _ h => h) (.inl rfl) rfl (fun _ h => h) (Yv.load1 Tryz.isAgg33 rfl (CF.blk 0 rfl rfl)) ?_
      refine HW.run 1 rfl (by kernel_rfl) _ (.inl rfl) rfl (Ow.call e48 rfl (C.new (val := id) (φ := fun _ => True) (Ψ := fun v_ => row v_ 2 1 (D.l.length) (i64s f)) (fun w2 hs => (restFlows R D f _ hok hF w2 (hR.below hs.mod.below)).mono (fun e w3 ⟨v_, hv_, hb, F, hF, hk_⟩ => ⟨v_, trivial, hv_, hb, F, hF, hk_⟩)))) (by rintro _ _ ⟨v_fl, -, rfl, rfl⟩ w h; exact (h).erase 0) ?_
      rintro _ _ ⟨v_fl, -, rfl, rfl⟩
      refine HW.mem _ (fun w h => h.row_eq (m' := f.length) (xs' := i64s f) 0 rfl (by omega) (rfl)) ?_
      refine HW.facts _ (fun w h => h.row_slice 0 rfl) ?_
      rintro ⟨Af, cf, rfl⟩
      refine HW.run 4 rfl (by kernel_rfl) _ (.inl rfl) rfl (Ow.call e23 rfl (C.val (fun w hs => ref04Same _ Af cf f (hs.row_Rd 0 rfl (by omega)) B d f (hrF.below hs.mod.below)))) (by rintro _ _ ⟨rfl, rfl⟩ w h; exact (h).erase 0) ?_
      rintro _ _ ⟨rfl, rfl⟩
      refine HW.take 5 rfl (by kernel_rfl) (by kernel_rfl) (by kernel_rfl) (fun _ _ _ h => h) (.inl rfl) rfl (fun _ h => (h).erase 0) (Yv.move rfl) ?_
      refine HW.isT 43 rfl (rfl) ?_
      refine HW.take 6 rfl (by kernel_rfl) (by kernel_rfl) (by kernel_rfl) (fun _ _ _ h => h) (.inr ⟨_, _, 43, rfl, rfl, rfl⟩) rfl (fun _ h => (h).erase 0) (Yv.move rfl) ?_
      refine HW.take 7 rfl (by kernel_rfl) (by kernel_rfl) (by kernel_rfl) (fun _ _ _ h => h) (.inr ⟨_, _, 43, rfl, rfl, rfl⟩) rfl (fun _ h => (h).erase 0) (Yv.move rfl) ?_
      refine HW.take 9 rfl (by kernel_rfl) (by kernel_rfl) (by kernel_rfl) (fun _ _ _ h => h) (.inr ⟨_, _, 43, rfl, rfl, rfl⟩) rfl (fun _ h => (h).erase 0) (Yv.loadK (vs := [_, _, _]) Tryz.isAgg35 Tryz.sizeOf35 rfl (CFs.whole 0 rfl)) ?_
      refine HW.take 10 rfl (by kernel_rfl) (by kernel_rfl) (by kernel_rfl) (fun _ _ _ h => h) (.inr ⟨_, _, 43, rfl, rfl, rfl⟩) rfl (fun _ h => (h).erase 0) (Yv.move rfl) ?_
      refine HW.run 8 rfl (by kernel_rfl) _ (.inr ⟨_, _, 43, rfl, rfl, rfl⟩) rfl (Ow.call e50 rfl (C.new (val := id) (φ := fun _ => True) (Ψ := fun v_ => row v_ 3 1 ((rchL D.n D.l f v).length) (i64s (rchL D.n D.l f v))) (fun w2 hs => (restReach R D f _ hok hF hof v w2 (hR.below hs.mod.below)).mono (fun e w3 ⟨v_, hv_, hb, F, hF, hk_⟩ => ⟨v_, trivial, hv_, hb, F, hF, hk_⟩)))) (by rintro _ _ ⟨v_rp, -, rfl, rfl⟩ w h; exact ((h).erase 0).erase 0) ?_
      rintro _ _ ⟨v_rp, -, rfl, rfl⟩
      refine HW.run 11 rfl (by kernel_rfl) _ (.inr ⟨_, _, 43, rfl, rfl, rfl⟩) rfl (Ow.call e51 rfl (C.new (val := id) (φ := fun _ => True) (Ψ := fun v_ => row v_ 3 1 ((rchL D.n D.l f v).length) (i64s (rchL D.n D.l f v))) (fun w2 hs => (ref23Reach D.n A c D.l B d f w2 (hr.below hs.mod.below) (hrF.below hs.mod.below) hok hF v).mono (fun e w3 ⟨v_, hv_, hb, F, hF, hk_⟩ => ⟨v_, trivial, hv_, hb, F, hF, hk_⟩)))) (by rintro _ _ ⟨v_rr, -, rfl, rfl⟩ w h; exact (((h).erase 0).erase 0).erase 0) ?_
      rintro _ _ ⟨v_rr, -, rfl, rfl⟩
      refine HW.facts _ (fun w h => h.row_slice 1 rfl) ?_
      rintro ⟨Ap, cp, rfl⟩
      refine HW.facts _ (fun w h => h.row_slice 0 rfl) ?_
      rintro ⟨Ar, cr, rfl⟩
      have hrl := rchL_length D.n D.l f v
      refine HW.run 12 rfl (by kernel_rfl) _ (.inr ⟨_, _, 43, rfl, rfl, rfl⟩) rfl (Ow.call e49 rfl (C.val (fun w hs => ref09Ints _ Ap cp _ (hs.row_Rd 1 rfl (by omega)) Ar cr _ (hs.row_Rd 0 rfl (by omega))))) (by rintro _ _ ⟨rfl, rfl⟩ w h; exact (((h).erase 0).erase 0).erase 0) ?_
      rintro _ _ ⟨rfl, rfl⟩
      refine HW.take 13 rfl (by kernel_rfl) (by kernel_rfl) (by kernel_rfl) (fun _ _ _ h => h) (.inl rfl) rfl (fun _ h => (((h).erase 0).erase 0).erase 0) (Yv.pickT rfl rfl) ?_
      refine HW.take 14 rfl (by kernel_rfl) (by kernel_rfl) (by kernel_rfl) (fun _ _ _ h => h) (.inl rfl) rfl (fun _ h => (((h).erase 0).erase 0).erase 0) (Yv.assign rfl) ?_
      refine HW.done (by kernel_rfl) ?_
      refine PW.go ?_
      refine CW.ret ?_
      refine PW.ret1 Tryz.results11 rfl (fun w1 hs => ?_)
      exact ⟨by simp, hs.mod.below⟩

set_option maxRecDepth 100000 in
theorem residPlays_long (n : Int) (A B : Option Addr) (c d m mo : Nat) (w : World) (h : 40 < m ∨ 40 < mo ∨ 40 < n) : Calls Tryz.prog 3 #[.int .u8 n, .slice A m c, .slice B mo d] w fun e w1 => e = .returned (.bool true) ∧ Gr w w1 := by
  refine CW.enter (P := Tryz.prog) (F0 := none0) (L := [(0, _), (1, _), (2, _)]) 124 [] Tryz.func3 rfl Tryz.ntmps3 (Nat.le_of_ble_eq_true rfl) (St.start w none0) rfl ?_
  refine CW.seq ?_
  refine CW.region ?_
  refine RW.y (.inl rfl) rfl (Yv.assign rfl) ?_
  refine RW.nil ?_
  refine PW.go ?_
  refine CW.seq ?_
  refine CW.seq ?_
  refine CW.region ?_
  refine RW.y (.inl rfl) rfl (Yv.move rfl) ?_
  refine RW.y (.inl rfl) rfl (Yv.len Tryz.underlying22 rfl) ?_
  refine RW.y (.inl rfl) rfl (Yv.gt rfl rfl) ?_
  refine RW.y (.inl rfl) rfl (Yv.move rfl) ?_
  refine RW.splitD 20 rfl (fun hc20 => ?_) (fun hc20 => ?_)
  ·
    refine RW.no ⟨_, _, 20, _, rfl, rfl, rfl, fun h => by simp [undef] at h⟩ rfl ?_
    refine RW.no ⟨_, _, 20, _, rfl, rfl, rfl, fun h => by simp [undef] at h⟩ rfl ?_
    refine RW.no ⟨_, _, 20, _, rfl, rfl, rfl, fun h => by simp [undef] at h⟩ rfl ?_
    refine RW.y (.inl rfl) rfl (Yv.pickT rfl rfl) ?_
    refine RW.y (.inl rfl) rfl (Yv.move rfl) ?_
    refine RW.no ⟨_, _, 25, _, rfl, rfl, rfl, fun h => by simp [undef] at h⟩ rfl ?_
    refine RW.no ⟨_, _, 25, _, rfl, rfl, rfl, fun h => by simp [undef] at h⟩ rfl ?_
    refine RW.y (.inl rfl) rfl (Yv.pickT rfl rfl) ?_
    refine RW.nil ?_
    refine PW.go ?_
    refine CW.condT rfl ?_
    refine CW.seq ?_
    refine CW.region ?_
    refine RW.o _ (.inl rfl) rfl (Ow.call e6 rfl (C.val (fun w hs => awake23 _))) ?_
    rintro _ _ ⟨rfl, rfl⟩
    refine RW.y (.inl rfl) rfl (Yv.assign rfl) ?_
    refine RW.nil ?_
    refine PW.go ?_
    refine CW.ret ?_
    refine PW.then_ret ?_
    refine PW.ret1 Tryz.results3 rfl (fun w1 hs => ?_)
    exact ⟨rfl, hs.mod.below⟩
  ·
    refine RW.y (.inr ⟨_, _, 20, rfl, rfl, rfl⟩) rfl (Yv.move rfl) ?_
    refine RW.y (.inr ⟨_, _, 20, rfl, rfl, rfl⟩) rfl (Yv.len Tryz.underlying23 rfl) ?_
    refine RW.y (.inr ⟨_, _, 20, rfl, rfl, rfl⟩) rfl (Yv.gt rfl rfl) ?_
    refine RW.y (.inl rfl) rfl (Yv.pickF rfl rfl) ?_
    refine RW.y (.inl rfl) rfl (Yv.move rfl) ?_
    refine RW.splitD 25 rfl (fun hc25 => ?_) (fun hc25 => ?_)
    ·
      refine RW.no ⟨_, _, 25, _, rfl, rfl, rfl, fun h => by simp [undef] at h⟩ rfl ?_
      refine RW.no ⟨_, _, 25, _, rfl, rfl, rfl, fun h => by simp [undef] at h⟩ rfl ?_
      refine RW.y (.inl rfl) rfl (Yv.pickT rfl rfl) ?_
      refine RW.nil ?_
      refine PW.go ?_
      refine CW.condT rfl ?_
      refine CW.seq ?_
      refine CW.region ?_
      refine RW.o _ (.inl rfl) rfl (Ow.call e6 rfl (C.val (fun w hs => awake23 _))) ?_
      rintro _ _ ⟨rfl, rfl⟩
      refine RW.y (.inl rfl) rfl (Yv.assign rfl) ?_
      refine RW.nil ?_
      refine PW.go ?_
      refine CW.ret ?_
      refine PW.then_ret ?_
      refine PW.ret1 Tryz.results3 rfl (fun w1 hs => ?_)
      exact ⟨rfl, hs.mod.below⟩
    ·
      refine RW.y (.inr ⟨_, _, 25, rfl, rfl, rfl⟩) rfl (Yv.move rfl) ?_
      refine RW.y (.inr ⟨_, _, 25, rfl, rfl, rfl⟩) rfl (Yv.gt rfl rfl) ?_
      refine RW.y (.inl rfl) rfl (Yv.pickF rfl rfl) ?_
      refine RW.nil ?_
      refine PW.go ?_
      refine CW.condD rfl (fun hc28 => ?_) (fun hc28 => ?_)
      ·
        refine CW.seq ?_
        refine CW.region ?_
        refine RW.o _ (.inl rfl) rfl (Ow.call e6 rfl (C.val (fun w hs => awake23 _))) ?_
        rintro _ _ ⟨rfl, rfl⟩
        refine RW.y (.inl rfl) rfl (Yv.assign rfl) ?_
        refine RW.nil ?_
        refine PW.go ?_
        refine CW.ret ?_
        refine PW.then_ret ?_
        refine PW.ret1 Tryz.results3 rfl (fun w1 hs => ?_)
        exact ⟨rfl, hs.mod.below⟩
      ·
        omega

set_option maxRecDepth 100000 in
theorem residPlays_err (n : Int) (hn : 0 ≤ n ∧ n ≤ 255) (A : Option Addr) (c : Nat) (l : List Edg) (B : Option Addr) (d : Nat) (ops : List (Int × Int)) (w : World) (hr : Rd w A 3 l.length (cellsE l)) (hrO : Rd w B 2 ops.length (cellsA ops)) (hb : ∀ o ∈ ops, (-9223372036854775808 ≤ o.1 ∧ o.1 ≤ 9223372036854775807) ∧ -9223372036854775808 ≤ o.2 ∧ o.2 ≤ 9223372036854775807) (hl40 : l.length ≤ 40) (ho40 : ops.length ≤ 40) (hn40 : n ≤ 40) (k : Int) (i : Nat) (hk : k ≠ 0) (he : NewE n l k i) : Calls Tryz.prog 3 #[.int .u8 n, .slice A l.length c, .slice B ops.length d] w fun e w1 => e = .returned (.bool true) ∧ Gr w w1 := by
  refine CW.enter (P := Tryz.prog) (F0 := none0) (L := [(0, _), (1, _), (2, _)]) 124 [] Tryz.func3 rfl Tryz.ntmps3 (Nat.le_of_ble_eq_true rfl) (St.start w none0) rfl ?_
  refine CW.seq ?_
  refine CW.region ?_
  refine RW.y (.inl rfl) rfl (Yv.assign rfl) ?_
  refine RW.nil ?_
  refine PW.go ?_
  refine CW.seq ?_
  refine CW.seq ?_
  refine CW.region ?_
  refine RW.y (.inl rfl) rfl (Yv.move rfl) ?_
  refine RW.y (.inl rfl) rfl (Yv.len Tryz.underlying22 rfl) ?_
  refine RW.y (.inl rfl) rfl (Yv.gt rfl rfl) ?_
  refine RW.y (.inl rfl) rfl (Yv.move rfl) ?_
  refine RW.isF 20 rfl (by omega) ?_
  refine RW.y (.inr ⟨_, _, 20, rfl, rfl, rfl⟩) rfl (Yv.move rfl) ?_
  refine RW.y (.inr ⟨_, _, 20, rfl, rfl, rfl⟩) rfl (Yv.len Tryz.underlying23 rfl) ?_
  refine RW.y (.inr ⟨_, _, 20, rfl, rfl, rfl⟩) rfl (Yv.gt rfl rfl) ?_
  refine RW.y (.inl rfl) rfl (Yv.pickF rfl rfl) ?_
  refine RW.y (.inl rfl) rfl (Yv.move rfl) ?_
  refine RW.isF 25 rfl (by omega) ?_
  refine RW.y (.inr ⟨_, _, 25, rfl, rfl, rfl⟩) rfl (Yv.move rfl) ?_
  refine RW.y (.inr ⟨_, _, 25, rfl, rfl, rfl⟩) rfl (Yv.gt rfl rfl) ?_
  refine RW.y (.inl rfl) rfl (Yv.pickF rfl rfl) ?_
  refine RW.nil ?_
  refine PW.go ?_
  refine CW.condD rfl (fun hc28 => ?_) (fun hc28 => ?_)
  ·
    omega
  ·
    refine CW.skip ?_
    refine PW.go ?_
    refine CW.seq ?_
    refine CW.region ?_
    refine RW.y (.inl rfl) rfl (Yv.move rfl) ?_
    refine RW.y (.inl rfl) rfl (Yv.conv64 Tryz.underlying5 Tryz.underlying3 rfl (by omega)) ?_
    refine RW.y (.inl rfl) rfl (Yv.move rfl) ?_
    refine RW.o _ (.inl rfl) rfl (Ow.call e7 rfl (C.val (fun w hs => netNew_err n A c l _ (hr.below hs.mod.below) k i hk he))) ?_
    rintro _ _ ⟨rfl, rfl⟩
    refine RW.y (.inl rfl) rfl (Yv.move rfl) ?_
    refine RW.y (.inl rfl) rfl (Yv.extract rfl rfl) ?_
    refine RW.y (.inl rfl) rfl (Yv.extract rfl rfl) ?_
    refine RW.y (.inl rfl) rfl (Yv.extract rfl rfl) ?_
    refine RW.y (.inl rfl) rfl (Yv.assign rfl) ?_
    refine RW.y (.inl rfl) rfl (Yv.assign rfl) ?_
    refine RW.y (.inl rfl) rfl (Yv.assign rfl) ?_
    refine RW.nil ?_
    refine PW.go ?_
    refine CW.seq ?_
    refine CW.seq ?_
    refine CW.region ?_
    refine RW.y (.inl rfl) rfl (Yv.move rfl) ?_
    refine RW.y (.inl rfl) rfl (Yv.ne rfl rfl) ?_
    refine RW.nil ?_
    refine PW.go ?_
    refine CW.condD rfl (fun hc39 => ?_) (fun hc39 => ?_)
    ·
      refine CW.seq ?_
      refine CW.region ?_
      refine RW.o _ (.inl rfl) rfl (Ow.call e6 rfl (C.val (fun w hs => awake23 _))) ?_
      rintro _ _ ⟨rfl, rfl⟩
      refine RW.y (.inl rfl) rfl (Yv.assign rfl) ?_
      refine RW.nil ?_
      refine PW.go ?_
      refine CW.ret ?_
      refine PW.then_ret ?_
      refine PW.ret1 Tryz.results3 rfl (fun w1 hs => ?_)
      exact ⟨rfl, hs.mod.below⟩
    ·
      exact absurd hk hc39

set_option maxHeartbeats 1000000 in
set_option maxRecDepth 100000 in
theorem residPlays_ok (n : Int) (hn : 0 ≤ n ∧ n ≤ 255) (A : Option Addr) (c : Nat) (l : List Edg) (B : Option Addr) (d : Nat) (ops : List (Int × Int)) (w : World) (hr : Rd w A 3 l.length (cellsE l)) (hrO : Rd w B 2 ops.length (cellsA ops)) (hb : ∀ o ∈ ops, (-9223372036854775808 ≤ o.1 ∧ o.1 ≤ 9223372036854775807) ∧ -9223372036854775808 ≤ o.2 ∧ o.2 ≤ 9223372036854775807) (hl40 : l.length ≤ 40) (ho40 : ops.length ≤ 40) (hn40 : n ≤ 40) (hok : NewOk n l) : Calls Tryz.prog 3 #[.int .u8 n, .slice A l.length c, .slice B ops.length d] w fun e w1 => e = .returned (.bool true) ∧ Gr w w1 := by
  obtain ⟨N, rfl⟩ : ∃ N : Nat, n = N := ⟨n.toNat, by omega⟩
  have hml := mergeL_length l
  have hao : ArcsOk N (mergeL l) := hok.arcs
  have hT := hok.mtot
  have hF0 := flow0 hok
  refine CW.enter (P := Tryz.prog) (F0 := none0) (L := [(0, _), (1, _), (2, _)]) 124 [] Tryz.func3 rfl Tryz.ntmps3 (Nat.le_of_ble_eq_true rfl) (St.start w none0) rfl ?_
  refine CW.seq ?_
  refine CW.region ?_
  refine RW.y (.inl rfl) rfl (Yv.assign rfl) ?_
  refine RW.nil ?_
  refine PW.go ?_
  refine CW.seq ?_
  refine CW.seq ?_
  refine CW.region ?_
  refine RW.y (.inl rfl) rfl (Yv.move rfl) ?_
  refine RW.y (.inl rfl) rfl (Yv.len Tryz.underlying22 rfl) ?_
  refine RW.y (.inl rfl) rfl (Yv.gt rfl rfl) ?_
  refine RW.y (.inl rfl) rfl (Yv.move rfl) ?_
  refine RW.isF 20 rfl (by omega) ?_
  refine RW.y (.inr ⟨_, _, 20, rfl, rfl, rfl⟩) rfl (Yv.move rfl) ?_
  refine RW.y (.inr ⟨_, _, 20, rfl, rfl, rfl⟩) rfl (Yv.len Tryz.underlying23 rfl) ?_
  refine RW.y (.inr ⟨_, _, 20, rfl, rfl, rfl⟩) rfl (Yv.gt rfl rfl) ?_
  refine RW.y (.inl rfl) rfl (Yv.pickF rfl rfl) ?_
  refine RW.y (.inl rfl) rfl (Yv.move rfl) ?_
  refine RW.isF 25 rfl (by omega) ?_
  refine RW.y (.inr ⟨_, _, 25, rfl, rfl, rfl⟩) rfl (Yv.move rfl) ?_
  refine RW.y (.inr ⟨_, _, 25, rfl, rfl, rfl⟩) rfl (Yv.gt rfl rfl) ?_
  refine RW.y (.inl rfl) rfl (Yv.pickF rfl rfl) ?_
  refine RW.nil ?_
  refine PW.go ?_
  refine CW.condD rfl (fun hc28 => ?_) (fun hc28 => ?_)
  ·
    omega
  ·
    refine CW.skip ?_
    refine PW.go ?_
    refine CW.seq ?_
    refine CW.region ?_
    refine RW.y (.inl rfl) rfl (Yv.move rfl) ?_
    refine RW.y (.inl rfl) rfl (Yv.conv64 Tryz.underlying5 Tryz.underlying3 rfl (by omega)) ?_
    refine RW.y (.inl rfl) rfl (Yv.move rfl) ?_
    refine RW.o _ (.inl rfl) rfl (Ow.call e7 rfl (C.new (val := fun (b : Nat) => .tuple #[.pointer (some ⟨b, 0, none⟩), .int .i64 0, .int .i64 0]) (φ := fun _ => True) (Ψ := fun b => nowA (fun w' => IsNet w' b (netOf (N : Int) l))) (fun w2 hs => (netNew_ok (N : Int) A c l w2 (hr.below hs.mod.below) hok).mono (fun en w3 ⟨b, ht, he, hb, F, hF, hk⟩ => ⟨b, ht, he, hb, F, hF, hk⟩)))) ?_
    rintro _ _ ⟨bg, -, rfl, rfl⟩
    refine RW.y (.inl rfl) rfl (Yv.move rfl) ?_
    refine RW.y (.inl rfl) rfl (Yv.extract rfl rfl) ?_
    refine RW.y (.inl rfl) rfl (Yv.extract rfl rfl) ?_
    refine RW.y (.inl rfl) rfl (Yv.extract rfl rfl) ?_
    refine RW.y (.inl rfl) rfl (Yv.assign rfl) ?_
    refine RW.y (.inl rfl) rfl (Yv.assign rfl) ?_
    refine RW.y (.inl rfl) rfl (Yv.assign rfl) ?_
    refine RW.nil ?_
    refine PW.go ?_
    refine CW.seq ?_
    refine CW.seq ?_
    refine CW.region ?_
    refine RW.y (.inl rfl) rfl (Yv.move rfl) ?_
    refine RW.y (.inl rfl) rfl (Yv.ne rfl rfl) ?_
    refine RW.nil ?_
    refine PW.go ?_
    refine CW.condD rfl (fun hc39 => ?_) (fun hc39 => ?_)
    ·
      exact absurd rfl hc39
    ·
      refine CW.skip ?_
      refine PW.go ?_
      refine CW.seq ?_
      refine CW.region ?_
      refine RW.y (.inl rfl) rfl (Yv.move rfl) ?_
      refine RW.o _ (.inl rfl) rfl (Ow.call e8 rfl (C.new (val := fun (x : RI × List Int) => .pointer (some ⟨x.1.b, 0, none⟩)) (φ := fun x => ∀ v, v < N → (csrD (N) (mergeL l) x.2).of v = outOf (N) (mergeL l) v) (Ψ := fun x => Ass.star (nowA (fun w' => IsArcs w' x.1.ba (csrD (N) (mergeL l) x.2))) (restA x.1 (N) (2 * (mergeL l).length) (leftL (mergeL l) (List.replicate (mergeL l).length 0)) (overL (N) (mergeL l) (List.replicate (mergeL l).length 0)))) (fun w2 hs => residNewG bg (N : Int) l hok w2 (hs.now 0 rfl)))) ?_
      rintro _ _ ⟨⟨R, out⟩, hof, rfl, rfl⟩
      refine RW.y (.inl rfl) rfl (Yv.move rfl) ?_
      refine RW.y (.inl rfl) rfl (Yv.conv64 Tryz.underlying5 Tryz.underlying3 rfl (by omega)) ?_
      refine RW.y (.inl rfl) rfl (Yv.move rfl) ?_
      refine RW.o _ (.inl rfl) rfl (Ow.call e10 rfl (C.new (val := fun (p : Option Addr × Nat) => .agg #[.int .i64 (N : Int), .slice p.1 (mergeL l).length p.2, .int .i64 0, .int .i64 0]) (φ := fun _ => True) (Ψ := fun p => row (.slice p.1 (mergeL l).length p.2) 79 3 (mergeL l).length (cellsE (mergeL l))) (fun w2 hs => (ref16New_ok (N : Int) A c l w2 (hr.below hs.mod.below) hok).mono (fun en w3 ⟨p, he, hb, F, hF, hk⟩ => ⟨p, trivial, he, hb, F, hF, hk⟩)))) ?_
      rintro _ _ ⟨⟨Am, cm⟩, -, rfl, rfl⟩
      refine RW.y (.inl rfl) rfl (Yv.fieldK (vs := [_, _]) Tryz.underlying38 rfl Tryz.isAgg32 Tryz.sizeOf32 rfl rfl) ?_
      refine RW.o _ (.inl rfl) rfl (Ow.call e9 rfl (C.new (val := fun (x : Option Addr × Nat) => .agg #[.int .i64 (N : Nat), .slice Am (mergeL l).length cm, .slice x.1 (List.replicate (mergeL l).length 0).length x.2]) (φ := fun _ => True) (Ψ := fun x => nowA (fun w' => Rd w' x.1 1 (List.replicate (mergeL l).length 0).length (i64s (List.replicate (mergeL l).length 0)))) (fun w2 hs => ref23New N Am cm (mergeL l) (by omega) w2))) ?_
      rintro _ _ ⟨q0, -, rfl, rfl⟩
      refine RW.o _ (.inl rfl) rfl (Ow.alloc (cs := [_, _, _]) Tryz.zeroValue35 rfl) ?_
      rintro _ _ ⟨b11, rfl, rfl⟩
      refine RW.y (.inl rfl) rfl (Yv.assign rfl) ?_
      refine RW.o _ (.inl rfl) rfl (Ow.storeW (vs := [_, _, _]) 0 Tryz.sizeOf35 rfl rfl (rfl) rfl (rfl)) ?_
      rintro _ _ ⟨rfl, rfl⟩
      refine RW.nil ?_
      refine PW.go ?_
      refine CW.seq ?_
      refine CW.seq ?_
      refine CW.mem _ (fun w h => h.front 3 rfl) ?_
      refine CW.mem _ (fun w h => h.split) ?_
      refine CW.mem _ (fun w h => h.front 1 rfl) ?_
      refine CW.mem _ (fun w h => h.front 4 rfl) ?_
      refine CW.mem _ (fun w h => h.front 3 rfl) ?_
      refine CW.mem _ (fun w h => h.front 4 rfl) ?_
      refine CW.mem _ (fun w h => h.front 4 rfl) ?_
      refine CW.mem _ (fun w h => h.front 4 rfl) ?_
      refine CW.region ?_
      refine RW.y (.inl rfl) rfl (Yv.move rfl) ?_
      refine RW.y (.inl rfl) rfl (Yv.ptrNil Tryz.underlying29 rfl rfl) ?_
      refine RW.y (.inl rfl) rfl (Yv.move rfl) ?_
      refine RW.isB (c := false) 51 rfl (rfl) ?_
      refine RW.y (.inr ⟨_, _, 51, rfl, rfl, rfl⟩) rfl (Yv.move rfl) ?_
      refine RW.y (.inr ⟨_, _, 51, rfl, rfl, rfl⟩) rfl (Yv.loadK (vs := [_, _, _]) Tryz.isAgg35 Tryz.sizeOf35 rfl (CFs.whole 3 rfl)) ?_
      refine RW.o _ (.inr ⟨_, _, 51, rfl, rfl, rfl⟩) rfl (Ow.call e11 rfl (C.val (fun w hs => same23 R (csrD N (mergeL l) out) (List.replicate (mergeL l).length 0) hao hF0 hT hof Am cm q0.1 q0.2 0 _ (IsRest.of (hs.hold 0 _ rfl) (hs.now 1 rfl)) (hs.row_Rd 4 rfl (show (mergeL l).length ≤ 4611686018427387904 by omega)) (hs.now 2 rfl)))) ?_
      rintro _ _ ⟨rfl, rfl⟩
      refine RW.y (.inr ⟨_, _, 51, rfl, rfl, rfl⟩) rfl (Yv.not rfl) ?_
      refine RW.y (.inl rfl) rfl (Yv.pickF rfl rfl) ?_
      refine RW.nil ?_
      refine PW.go ?_
      refine CW.cond rfl (fun hc56 => ?_) (fun hc56 => ?_)
      ·
        simp at hc56
      ·
        refine CW.skip ?_
        refine PW.go ?_
        refine CW.seq ?_
        refine CW.seq ?_
        refine CW.region ?_
        refine RW.y (.inl rfl) rfl (Yv.assign rfl) ?_
        refine RW.nil ?_
        refine PW.go ?_
        refine CW.block ?_
        refine CW.loop (σ := Nat × List Int × (Option Addr × Nat)) (fun s => s.1 ≤ ops.length ∧ FlowOk (mergeL l) s.2.1) (fun s => [(0, .int .u8 (N : Nat)), (2, .slice B ops.length d), (10, .pointer (some ⟨R.b, 0, none⟩)), (11, .pointer (some ⟨b11, 0, none⟩)), (12, .int .i64 (s.1 : Nat))]) (fun s => [restA R N (2 * (mergeL l).length) (leftL (mergeL l) s.2.1) (overL N (mergeL l) s.2.1), nowA (fun w' => IsArcs w' R.ba (csrD N (mergeL l) out)), nowA (fun w' => Rd w' s.2.2.1 1 s.2.1.length (i64s s.2.1)), blk b11 [.int .i64 (N : Nat), .slice Am (mergeL l).length cm, .slice s.2.2.1 s.2.1.length s.2.2.2] 35, row (.slice Am (mergeL l).length cm) 79 3 (mergeL l).length (cellsE (mergeL l))]) (fun s => ops.length - s.1) (0, (List.replicate (mergeL l).length 0), q0) (⟨by simp, hF0⟩) ⟨rfl, rfl, rfl, rfl, rfl, trivial⟩ (fun w h => (h).erase 5) ?_
        rintro ⟨k, f, q0⟩ ⟨hk, hF⟩
        (try dsimp only at *)
        refine CW.seq ?_
        refine CW.seq ?_
        refine CW.region ?_
        refine RW.y (.inl rfl) rfl (Yv.move rfl) ?_
        refine RW.y (.inl rfl) rfl (Yv.move rfl) ?_
        refine RW.y (.inl rfl) rfl (Yv.len Tryz.underlying23 rfl) ?_
        refine RW.y (.inl rfl) rfl (Yv.lt rfl rfl) ?_
        refine RW.nil ?_
        refine PW.go ?_
        refine CW.condD rfl (fun hc60 => ?_) (fun hc60 => ?_)
        ·
          have hko : k < ops.length := by omega
          obtain ⟨bO, oO, rfl, hbO, hcO⟩ := hrO.2.2 (by omega)
          obtain ⟨o, ho⟩ : ∃ x, ops[k]? = some x := ⟨_, List.getElem?_eq_getElem hko⟩
          have hca := cellsA_get ops k o ho
          obtain ⟨hb1, hb2⟩ := hb o (List.mem_of_getElem? ho)
          refine CW.skip ?_
          refine PW.go ?_
          refine CW.seq ?_
          refine CW.block ?_
          refine CW.cut (σ := RI × Nat) (fun s => s.1.ba = R.ba) (fun s => [(0, .int .u8 (N : Nat)), (2, .slice (some ⟨bO, oO, none⟩) ops.length d), (10, .pointer (some ⟨R.b, 0, none⟩)), (11, .pointer (some ⟨b11, 0, none⟩)), (12, .int .i64 (k : Nat)), (13, .pointer (some ⟨s.1.b, 0, none⟩)), (14, .pointer (some ⟨s.2, 0, none⟩))]) (fun s => [restA R N (2 * (mergeL l).length) (leftL (mergeL l) f) (overL N (mergeL l) f), nowA (fun w' => IsArcs w' R.ba (csrD N (mergeL l) out)), nowA (fun w' => Rd w' q0.1 1 f.length (i64s f)), blk b11 [.int .i64 (N : Nat), .slice Am (mergeL l).length cm, .slice q0.1 f.length q0.2] 35, row (.slice Am (mergeL l).length cm) 79 3 (mergeL l).length (cellsE (mergeL l)), restA s.1 N (2 * (mergeL l).length) (leftL (mergeL l) f) (overL N (mergeL l) f), blk s.2 [.int .i64 (N : Nat), .slice Am (mergeL l).length cm, .slice q0.1 f.length q0.2] 35]) ?_ ?_
          ·
            refine CW.draw0 mixed ?_
            refine HW.take 0 rfl (by kernel_rfl) (by kernel_rfl) (by kernel_rfl) (fun _ _ _ h => h) (.inl rfl) rfl (fun _ h => h) (Yv.move rfl) ?_
            refine HW.take 2 rfl (by kernel_rfl) (by kernel_rfl) (by kernel_rfl) (fun _ _ _ h => h) (.inl rfl) rfl (fun _ h => h) (Yv.loadK (vs := [_, _, _]) Tryz.isAgg35 Tryz.sizeOf35 rfl (CFs.whole 3 rfl)) ?_
            refine HW.run2 1 3 (by kernel_rfl) (fun a w hf hs => HW.opp 1 rfl _ (.inl rfl) rfl (Ow.call e12 rfl (C.new (val := fun (Q : RI) => .pointer (some ⟨Q.b, 0, none⟩)) (φ := fun Q => Q.ba = R.ba) (Ψ := fun Q => restA Q N (2 * (mergeL l).length) (leftL (mergeL l) f) (overL N (mergeL l) f)) (fun w2 hs => restTwin R (csrD N (mergeL l) out) _ _ w2 (IsRest.of (hs.hold 0 _ rfl) (hs.now 1 rfl))))) (by rintro _ _ ⟨Q, hQ, rfl, rfl⟩ w h; exact (h).erase 0) ?_ hf hs) (fun a w hf hs => HW.opp 3 rfl _ (.inl rfl) rfl (Ow.alloc (cs := [_, _, _]) Tryz.zeroValue35 rfl) (by rintro _ _ ⟨b14, rfl, rfl⟩ w h; exact (h).erase 0) ?_ hf hs)
            ·
              clear hf hs
              rintro _ _ ⟨Q, hQ, rfl, rfl⟩
              refine HW.run 3 rfl (by kernel_rfl) _ (.inl rfl) rfl (Ow.alloc (cs := [_, _, _]) Tryz.zeroValue35 rfl) (by rintro _ _ ⟨b14, rfl, rfl⟩ w h; exact ((h).erase 0).erase 0) ?_
              rintro _ _ ⟨b14, rfl, rfl⟩
              refine HW.take 4 rfl (by kernel_rfl) (by kernel_rfl) (by kernel_rfl) (fun _ _ _ h => h) (.inl rfl) rfl (fun _ h => ((h).erase 0).erase 0) (Yv.assign rfl) ?_
              refine HW.run 5 rfl (by kernel_rfl) _ (.inl rfl) rfl (Ow.storeW (vs := [_, _, _]) 0 Tryz.sizeOf35 rfl rfl (rfl) rfl (rfl)) (by rintro _ _ ⟨rfl, rfl⟩ w h; exact ((h).erase 0).erase 0) ?_
              rintro _ _ ⟨rfl, rfl⟩
              refine HW.done (by kernel_rfl) ?_
              refine PW.mem _ (fun w h => h.front 0 rfl) ?_
              refine PW.mem _ (fun w h => h.front 1 rfl) ?_
              refine PW.mem _ (fun w h => h.front 6 rfl) ?_
              refine PW.mem _ (fun w h => h.front 6 rfl) ?_
              refine PW.mem _ (fun w h => h.front 6 rfl) ?_
              refine PW.mem _ (fun w h => h.front 6 rfl) ?_
              refine PW.mem _ (fun w h => h.front 6 rfl) ?_
              exact PW.mid (Q, b14) (hQ) ⟨rfl, rfl, rfl, rfl, rfl, rfl, rfl, trivial⟩ (fun w h => h)
            ·
              clear hf hs
              rintro _ _ ⟨b14, rfl, rfl⟩
              refine HW.run 1 rfl (by kernel_rfl) _ (.inl rfl) rfl (Ow.call e12 rfl (C.new (val := fun (Q : RI) => .pointer (some ⟨Q.b, 0, none⟩)) (φ := fun Q => Q.ba = R.ba) (Ψ := fun Q => restA Q N (2 * (mergeL l).length) (leftL (mergeL l) f) (overL N (mergeL l) f)) (fun w2 hs => restTwin R (csrD N (mergeL l) out) _ _ w2 (IsRest.of (hs.hold 1 _ rfl) (hs.now 2 rfl))))) (by rintro _ _ ⟨Q, hQ, rfl, rfl⟩ w h; exact ((h).erase 0).erase 0) ?_
              rintro _ _ ⟨Q, hQ, rfl, rfl⟩
              refine HW.take 4 rfl (by kernel_rfl) (by kernel_rfl) (by kernel_rfl) (fun _ _ _ h => h) (.inl rfl) rfl (fun _ h => ((h).erase 0).erase 0) (Yv.assign rfl) ?_
              refine HW.run 5 rfl (by kernel_rfl) _ (.inl rfl) rfl (Ow.storeW (vs := [_, _, _]) 1 Tryz.sizeOf35 rfl rfl (rfl) rfl (rfl)) (by rintro _ _ ⟨rfl, rfl⟩ w h; exact ((h).erase 0).erase 0) ?_
              rintro _ _ ⟨rfl, rfl⟩
              refine HW.done (by kernel_rfl) ?_
              refine PW.mem _ (fun w h => h.front 1 rfl) ?_
              refine PW.mem _ (fun w h => h.front 1 rfl) ?_
              refine PW.mem _ (fun w h => h.front 6 rfl) ?_
              refine PW.mem _ (fun w h => h.front 6 rfl) ?_
              refine PW.mem _ (fun w h => h.front 6 rfl) ?_
              refine PW.mem _ (fun w h => h.front 6 rfl) ?_
              refine PW.mem _ (fun w h => h.front 6 rfl) ?_
              exact PW.mid (Q, b14) (hQ) ⟨rfl, rfl, rfl, rfl, rfl, rfl, rfl, trivial⟩ (fun w h => h)
          · intro ⟨Q, b14⟩ hQ
            (try dsimp only at hQ ⊢)
            refine CW.cut (σ := (Option Addr × Nat) × Nat) (fun s => ¬ okPush (mergeL l) f o.1 o.2 → s.1 = (q0.1, q0.2)) (fun s => [(0, .int .u8 (N : Nat)), (2, .slice (some ⟨bO, oO, none⟩) ops.length d), (10, .pointer (some ⟨R.b, 0, none⟩)), (11, .pointer (some ⟨b11, 0, none⟩)), (12, .int .i64 (k : Nat)), (13, .pointer (some ⟨Q.b, 0, none⟩)), (14, .pointer (some ⟨b14, 0, none⟩)), (15, .pointer (some ⟨s.2, 0, none⟩)), (16, .bool (decide (okPush (mergeL l) f o.1 o.2)))]) (fun s => [restA R N (2 * (mergeL l).length) (leftL (mergeL l) f) (overL N (mergeL l) f), nowA (fun w' => IsArcs w' R.ba (csrD N (mergeL l) out)), nowA (fun w' => Rd w' q0.1 1 f.length (i64s f)), blk b11 [.int .i64 (N : Nat), .slice Am (mergeL l).length cm, .slice q0.1 f.length q0.2] 35, row (.slice Am (mergeL l).length cm) 79 3 (mergeL l).length (cellsE (mergeL l)), restA Q N (2 * (mergeL l).length) (leftL (mergeL l) f) (overL N (mergeL l) f), blk b14 [.int .i64 (N : Nat), .slice Am (mergeL l).length cm, .slice q0.1 f.length q0.2] 35, nowA (fun w' => okPush (mergeL l) f o.1 o.2 → Rd w' s.1.1 1 (pushR (mergeL l) f o.1 o.2).length (i64s (pushR (mergeL l) f o.1 o.2))), blk s.2 [.int .i64 (N : Nat), .slice Am (mergeL l).length cm, .slice s.1.1 (pushR (mergeL l) f o.1 o.2).length s.1.2] 35]) ?_ ?_
            ·
              refine CW.draw0 mixed ?_
              refine HW.take 0 rfl (by kernel_rfl) (by kernel_rfl) (by kernel_rfl) (fun _ _ _ h => h) (.inl rfl) rfl (fun _ h => h) (Yv.loadK (vs := [_, _, _]) Tryz.isAgg35 Tryz.sizeOf35 rfl (CFs.whole 3 rfl)) ?_
              refine HW.take 1 rfl (by kernel_rfl) (by kernel_rfl) (by kernel_rfl) (fun _ _ _ h => h) (.inl rfl) rfl (fun _ h => h) (Yv.move rfl) ?_
              refine HW.take 2 rfl (by kernel_rfl) (by kernel_rfl) (by kernel_rfl) (fun _ _ _ h => h) (.inl rfl) rfl (fun _ h => h) (Yv.move rfl) ?_
              refine HW.take 3 rfl (by kernel_rfl) (by kernel_rfl) (by kernel_rfl) (fun _ _ _ h => h) (.inl rfl) rfl (fun _ h => h) (Yv.indexK Tryz.underlying23 Tryz.sizeOf45 rfl rfl (by omega) (by omega)) ?_
              refine HW.take 4 rfl (by kernel_rfl) (by kernel_rfl) (by kernel_rfl) (fun _ _ _ h => h) (.inl rfl) rfl (fun _ h => h) (Yv.fieldAddr Tryz.underlying45 rfl Tryz.sizeOf3 rfl rfl) ?_
              refine HW.take 5 rfl (by kernel_rfl) (by kernel_rfl) (by kernel_rfl) (fun _ _ _ h => h) (.inl rfl) rfl (fun _ h => h) (Yv.load1 Tryz.isAgg3 rfl (CF.old (hcO _ _ hca.1) (not_none0 _))) ?_
              refine HW.take 6 rfl (by kernel_rfl) (by kernel_rfl) (by kernel_rfl) (fun _ _ _ h => h) (.inl rfl) rfl (fun _ h => h) (Yv.move rfl) ?_
              refine HW.take 7 rfl (by kernel_rfl) (by kernel_rfl) (by kernel_rfl) (fun _ _ _ h => h) (.inl rfl) rfl (fun _ h => h) (Yv.move rfl) ?_
              refine HW.take 8 rfl (by kernel_rfl) (by kernel_rfl) (by kernel_rfl) (fun _ _ _ h => h) (.inl rfl) rfl (fun _ h => h) (Yv.indexK Tryz.underlying23 Tryz.sizeOf45 rfl rfl (by omega) (by omega)) ?_
              refine HW.take 9 rfl (by kernel_rfl) (by kernel_rfl) (by kernel_rfl) (fun _ _ _ h => h) (.inl rfl) rfl (fun _ h => h) (Yv.fieldAddr Tryz.underlying45 rfl Tryz.sizeOf2 rfl rfl) ?_
              refine HW.take 10 rfl (by kernel_rfl) (by kernel_rfl) (by kernel_rfl) (fun _ _ _ h => h) (.inl rfl) rfl (fun _ h => h) (Yv.load1 Tryz.isAgg2 rfl (CF.old (hcO _ _ hca.2) (not_none0 _))) ?_
              refine HW.run2 11 15 (by kernel_rfl) (fun a w hf hs => HW.opp 11 rfl _ (.inl rfl) rfl (Ow.call e13 rfl (C.new (val := fun (q : Option Addr × Nat) => .tuple #[.agg #[.int .i64 (N : Nat), .slice Am (mergeL l).length cm, .slice q.1 (pushR (mergeL l) f o.1 o.2).length q.2], .bool (decide (okPush (mergeL l) f o.1 o.2))]) (φ := fun q => ¬ okPush (mergeL l) f o.1 o.2 → q = (q0.1, q0.2)) (Ψ := fun q => nowA (fun w' => okPush (mergeL l) f o.1 o.2 → Rd w' q.1 1 (pushR (mergeL l) f o.1 o.2).length (i64s (pushR (mergeL l) f o.1 o.2)))) (fun w2 hs => ref23Push N Am cm (mergeL l) q0.1 q0.2 f w2 (hs.row_Rd 4 rfl (by omega)) (hs.now 2 rfl) hao hF o.1 o.2 hb1 hb2))) (by rintro _ _ ⟨q, hq, rfl, rfl⟩ w h; exact (h).erase 0) ?_ hf hs) (fun a w hf hs => HW.opp 15 rfl _ (.inl rfl) rfl (Ow.alloc (cs := [_, _, _]) Tryz.zeroValue35 rfl) (by rintro _ _ ⟨b15, rfl, rfl⟩ w h; exact (h).erase 0) ?_ hf hs)
              ·
                clear hf hs
                rintro _ _ ⟨q, hq, rfl, rfl⟩
                refine HW.take 12 rfl (by kernel_rfl) (by kernel_rfl) (by kernel_rfl) (fun _ _ _ h => h) (.inl rfl) rfl (fun _ h => (h).erase 0) (Yv.move rfl) ?_
                refine HW.take 13 rfl (by kernel_rfl) (by kernel_rfl) (by kernel_rfl) (fun _ _ _ h => h) (.inl rfl) rfl (fun _ h => (h).erase 0) (Yv.extract rfl rfl) ?_
                refine HW.take 14 rfl (by kernel_rfl) (by kernel_rfl) (by kernel_rfl) (fun _ _ _ h => h) (.inl rfl) rfl (fun _ h => (h).erase 0) (Yv.extract rfl rfl) ?_
                refine HW.run 15 rfl (by kernel_rfl) _ (.inl rfl) rfl (Ow.alloc (cs := [_, _, _]) Tryz.zeroValue35 rfl) (by rintro _ _ ⟨b15, rfl, rfl⟩ w h; exact ((h).erase 0).erase 0) ?_
                rintro _ _ ⟨b15, rfl, rfl⟩
                refine HW.run 16 rfl (by kernel_rfl) _ (.inl rfl) rfl (Ow.storeW (vs := [_, _, _]) 0 Tryz.sizeOf35 rfl rfl (rfl) rfl (rfl)) (by rintro _ _ ⟨rfl, rfl⟩ w h; exact ((h).erase 0).erase 0) ?_
                rintro _ _ ⟨rfl, rfl⟩
                refine HW.take 17 rfl (by kernel_rfl) (by kernel_rfl) (by kernel_rfl) (fun _ _ _ h => h) (.inl rfl) rfl (fun _ h => ((h).erase 0).erase 0) (Yv.assign rfl) ?_
                refine HW.done (by kernel_rfl) ?_
                refine PW.mem _ (fun w h => h.front 0 rfl) ?_
                refine PW.mem _ (fun w h => h.front 1 rfl) ?_
                refine PW.mem _ (fun w h => h.front 8 rfl) ?_
                refine PW.mem _ (fun w h => h.front 8 rfl) ?_
                refine PW.mem _ (fun w h => h.front 8 rfl) ?_
                refine PW.mem _ (fun w h => h.front 8 rfl) ?_
                refine PW.mem _ (fun w h => h.front 8 rfl) ?_
                refine PW.mem _ (fun w h => h.front 8 rfl) ?_
                refine PW.mem _ (fun w h => h.front 8 rfl) ?_
                exact PW.mid (q, b15) (hq) ⟨rfl, rfl, rfl, rfl, rfl, rfl, rfl, rfl, rfl, trivial⟩ (fun w h => h)
              ·
                clear hf hs
                rintro _ _ ⟨b15, rfl, rfl⟩
                refine HW.run 11 rfl (by kernel_rfl) _ (.inl rfl) rfl (Ow.call e13 rfl (C.new (val := fun (q : Option Addr × Nat) => .tuple #[.agg #[.int .i64 (N : Nat), .slice Am (mergeL l).length cm, .slice q.1 (pushR (mergeL l) f o.1 o.2).length q.2], .bool (decide (okPush (mergeL l) f o.1 o.2))]) (φ := fun q => ¬ okPush (mergeL l) f o.1 o.2 → q = (q0.1, q0.2)) (Ψ := fun q => nowA (fun w' => okPush (mergeL l) f o.1 o.2 → Rd w' q.1 1 (pushR (mergeL l) f o.1 o.2).length (i64s (pushR (mergeL l) f o.1 o.2)))) (fun w2 hs => ref23Push N Am cm (mergeL l) q0.1 q0.2 f w2 (hs.row_Rd 5 rfl (by omega)) (hs.now 3 rfl) hao hF o.1 o.2 hb1 hb2))) (by rintro _ _ ⟨q, hq, rfl, rfl⟩ w h; exact ((h).erase 0).erase 0) ?_
                rintro _ _ ⟨q, hq, rfl, rfl⟩
                refine HW.take 12 rfl (by kernel_rfl) (by kernel_rfl) (by kernel_rfl) (fun _ _ _ h => h) (.inl rfl) rfl (fun _ h => ((h).erase 0).erase 0) (Yv.move rfl) ?_
                refine HW.take 13 rfl (by kernel_rfl) (by kernel_rfl) (by kernel_rfl) (fun _ _ _ h => h) (.inl rfl) rfl (fun _ h => ((h).erase 0).erase 0) (Yv.extract rfl rfl) ?_
                refine HW.take 14 rfl (by kernel_rfl) (by kernel_rfl) (by kernel_rfl) (fun _ _ _ h => h) (.inl rfl) rfl (fun _ h => ((h).erase 0).erase 0) (Yv.extract rfl rfl) ?_
                refine HW.run 16 rfl (by kernel_rfl) _ (.inl rfl) rfl (Ow.storeW (vs := [_, _, _]) 1 Tryz.sizeOf35 rfl rfl (rfl) rfl (rfl)) (by rintro _ _ ⟨rfl, rfl⟩ w h; exact ((h).erase 0).erase 0) ?_
                rintro _ _ ⟨rfl, rfl⟩
                refine HW.take 17 rfl (by kernel_rfl) (by kernel_rfl) (by kernel_rfl) (fun _ _ _ h => h) (.inl rfl) rfl (fun _ h => ((h).erase 0).erase 0) (Yv.assign rfl) ?_
                refine HW.done (by kernel_rfl) ?_
                refine PW.mem _ (fun w h => h.front 1 rfl) ?_
                refine PW.mem _ (fun w h => h.front 1 rfl) ?_
                refine PW.mem _ (fun w h => h.front 8 rfl) ?_
                refine PW.mem _ (fun w h => h.front 8 rfl) ?_
                refine PW.mem _ (fun w h => h.front 8 rfl) ?_
                refine PW.mem _ (fun w h => h.front 8 rfl) ?_
                refine PW.mem _ (fun w h => h.front 8 rfl) ?_
                refine PW.mem _ (fun w h => h.front 8 rfl) ?_
                refine PW.mem _ (fun w h => h.front 8 rfl) ?_
                exact PW.mid (q, b15) (hq) ⟨rfl, rfl, rfl, rfl, rfl, rfl, rfl, rfl, rfl, trivial⟩ (fun w h => h)
            · intro ⟨q, b15⟩ hq
              (try dsimp only at hq ⊢)
              refine CW.seq ?_
              refine CW.region ?_
              refine RW.y (.inl rfl) rfl (Yv.loadK (vs := [_, _, _]) Tryz.isAgg35 Tryz.sizeOf35 rfl (CFs.whole 8 rfl)) ?_
              refine RW.o _ (.inl rfl) rfl (Ow.storeW (vs := [_, _, _]) 3 Tryz.sizeOf35 rfl rfl (rfl) rfl (rfl)) ?_
              rintro _ _ ⟨rfl, rfl⟩
              refine RW.nil ?_
              refine PW.go ?_
              refine CW.seq ?_
              refine CW.drawE mixed (fun _ h => (h).erase 0) ?_
              refine HW.take 0 rfl (by kernel_rfl) (by kernel_rfl) (by kernel_rfl) (fun _ _ _ h => h) (.inl rfl) rfl (fun _ h => (h).erase 0) (Yv.move rfl) ?_
              refine HW.take 1 rfl (by kernel_rfl) (by kernel_rfl) (by kernel_rfl) (fun _ _ _ h => h) (.inl rfl) rfl (fun _ h => (h).erase 0) (Yv.move rfl) ?_
              refine HW.take 2 rfl (by kernel_rfl) (by kernel_rfl) (by kernel_rfl) (fun _ _ _ h => h) (.inl rfl) rfl (fun _ h => (h).erase 0) (Yv.move rfl) ?_
              refine HW.take 3 rfl (by kernel_rfl) (by kernel_rfl) (by kernel_rfl) (fun _ _ _ h => h) (.inl rfl) rfl (fun _ h => (h).erase 0) (Yv.indexK Tryz.underlying23 Tryz.sizeOf45 rfl rfl (by omega) (by omega)) ?_
              refine HW.take 4 rfl (by kernel_rfl) (by kernel_rfl) (by kernel_rfl) (fun _ _ _ h => h) (.inl rfl) rfl (fun _ h => (h).erase 0) (Yv.fieldAddr Tryz.underlying45 rfl Tryz.sizeOf3 rfl rfl) ?_
              refine HW.take 5 rfl (by kernel_rfl) (by kernel_rfl) (by kernel_rfl) (fun _ _ _ h => h) (.inl rfl) rfl (fun _ h => (h).erase 0) (Yv.load1 Tryz.isAgg3 rfl (CF.old (hcO _ _ hca.1) (not_none0 _))) ?_
              refine HW.take 6 rfl (by kernel_rfl) (by kernel_rfl) (by kernel_rfl) (fun _ _ _ h => h) (.inl rfl) rfl (fun _ h => (h).erase 0) (Yv.move rfl) ?_
              refine HW.take 7 rfl (by kernel_rfl) (by kernel_rfl) (by kernel_rfl) (fun _ _ _ h => h) (.inl rfl) rfl (fun _ h => (h).erase 0) (Yv.move rfl) ?_
              refine HW.take 8 rfl (by kernel_rfl) (by kernel_rfl) (by kernel_rfl) (fun _ _ _ h => h) (.inl rfl) rfl (fun _ h => (h).erase 0) (Yv.indexK Tryz.underlying23 Tryz.sizeOf45 rfl rfl (by omega) (by omega)) ?_
              refine HW.take 9 rfl (by kernel_rfl) (by kernel_rfl) (by kernel_rfl) (fun _ _ _ h => h) (.inl rfl) rfl (fun _ h => (h).erase 0) (Yv.fieldAddr Tryz.underlying45 rfl Tryz.sizeOf2 rfl rfl) ?_
              refine HW.take 10 rfl (by kernel_rfl) (by kernel_rfl) (by kernel_rfl) (fun _ _ _ h => h) (.inl rfl) rfl (fun _ h => (h).erase 0) (Yv.load1 Tryz.isAgg2 rfl (CF.old (hcO _ _ hca.2) (not_none0 _))) ?_
              refine HW.take 12 rfl (by kernel_rfl) (by kernel_rfl) (by kernel_rfl) (fun _ _ _ h => h) (.inl rfl) rfl (fun _ h => (h).erase 0) (Yv.move rfl) ?_
              refine HW.run 11 rfl (by kernel_rfl) _ (.inl rfl) rfl (Ow.call e14 rfl (C.mut0 (val := fun _ : List Int => .bool (decide (okPush (mergeL l) f o.1 o.2))) (Ψ := fun f_ => restA R (N) (2 * (mergeL l).length) (leftL (mergeL l) f_) (overL (N) (mergeL l) f_)) (φ := fun f_ => f_ = pushR (mergeL l) f o.1 o.2) (fun w2 F2 h2 h3 h4 => restPush R (csrD N (mergeL l) out) f hao hT hF o.1 o.2 w2 F2 h2 h3 (fun W hM => now_of (h4 W hM 0 _ rfl))))) (by rintro _ _ ⟨f', hf', rfl, rfl⟩ w h; exact (h).erase 0) ?_
              rintro _ _ ⟨f', hf', rfl, rfl⟩
              refine HW.take 13 rfl (by kernel_rfl) (by kernel_rfl) (by kernel_rfl) (fun _ _ _ h => h) (.inl rfl) rfl (fun _ h => (h).erase 0) (Yv.boolNe Tryz.underlying4 rfl rfl) ?_
              refine HW.take 14 rfl (by kernel_rfl) (by kernel_rfl) (by kernel_rfl) (fun _ _ _ h => h) (.inl rfl) rfl (fun _ h => (h).erase 0) (Yv.move rfl) ?_
              refine HW.isB (c := false) 96 rfl (by simp) ?_
              refine HW.take 15 rfl (by kernel_rfl) (by kernel_rfl) (by kernel_rfl) (fun _ _ _ h => h) (.inr ⟨_, _, 96, rfl, rfl, rfl⟩) rfl (fun _ h => (h).erase 0) (Yv.move rfl) ?_
              refine HW.take 16 rfl (by kernel_rfl) (by kernel_rfl) (by kernel_rfl) (fun _ _ _ h => h) (.inr ⟨_, _, 96, rfl, rfl, rfl⟩) rfl (fun _ h => (h).erase 0) (Yv.loadK (vs := [_, _, _]) Tryz.isAgg35 Tryz.sizeOf35 rfl (CFs.whole 2 rfl)) ?_
              refine HW.take 17 rfl (by kernel_rfl) (by kernel_rfl) (by kernel_rfl) (fun _ _ _ h => h) (.inr ⟨_, _, 96, rfl, rfl, rfl⟩) rfl (fun _ h => (h).erase 0) (Yv.move rfl) ?_
              refine HW.take 18 rfl (by kernel_rfl) (by kernel_rfl) (by kernel_rfl) (fun _ _ _ h => h) (.inr ⟨_, _, 96, rfl, rfl, rfl⟩) rfl (fun _ h => (h).erase 0) (Yv.move rfl) ?_
              refine HW.take 19 rfl (by kernel_rfl) (by kernel_rfl) (by kernel_rfl) (fun _ _ _ h => h) (.inr ⟨_, _, 96, rfl, rfl, rfl⟩) rfl (fun _ h => (h).erase 0) (Yv.conv64 Tryz.underlying5 Tryz.underlying3 rfl (by omega)) ?_
              refine HW.take 20 rfl (by kernel_rfl) (by kernel_rfl) (by kernel_rfl) (fun _ _ _ h => h) (.inr ⟨_, _, 96, rfl, rfl, rfl⟩) rfl (fun _ h => (h).erase 0) (Yv.max rfl rfl) ?_
              refine HW.take 21 rfl (by kernel_rfl) (by kernel_rfl) (by kernel_rfl) (fun _ _ _ h => h) (.inr ⟨_, _, 96, rfl, rfl, rfl⟩) rfl (fun _ h => (h).erase 0) (Yv.rem rfl rfl (by omega) (by rw [Int.max_def]; split <;> omega)) ?_
              refine HW.run 22 rfl (by kernel_rfl) _ (.inr ⟨_, _, 96, rfl, rfl, rfl⟩) rfl (Ow.call e11 rfl (C.val (fun w hs => same23 R (csrD N (mergeL l) out) (pushR (mergeL l) f o.1 o.2) hao (pushR_ok hF) hT hof Am cm q.1 q.2 _ _ (IsRest.of (hf' ▸ hs.hold 0 _ rfl) (hs.now 1 rfl)) (hs.row_Rd 4 rfl (show (mergeL l).length ≤ 4611686018427387904 by omega)) (rd_new (hs.now 7 rfl) (hs.now 2 rfl) hq)))) (by rintro _ _ ⟨rfl, rfl⟩ w h; exact (h).erase 0) ?_
              rintro _ _ ⟨rfl, rfl⟩
              refine HW.take 23 rfl (by kernel_rfl) (by kernel_rfl) (by kernel_rfl) (fun _ _ _ h => h) (.inr ⟨_, _, 96, rfl, rfl, rfl⟩) rfl (fun _ h => (h).erase 0) (Yv.not rfl) ?_
              refine HW.take 24 rfl (by kernel_rfl) (by kernel_rfl) (by kernel_rfl) (fun _ _ _ h => h) (.inl rfl) rfl (fun _ h => (h).erase 0) (Yv.pickF rfl rfl) ?_
              refine HW.take 25 rfl (by kernel_rfl) (by kernel_rfl) (by kernel_rfl) (fun _ _ _ h => h) (.inl rfl) rfl (fun _ h => (h).erase 0) (Yv.move rfl) ?_
              refine HW.isB (c := false) 107 rfl (rfl) ?_
              refine HW.take 26 rfl (by kernel_rfl) (by kernel_rfl) (by kernel_rfl) (fun _ _ _ h => h) (.inr ⟨_, _, 107, rfl, rfl, rfl⟩) rfl (fun _ h => (h).erase 0) (Yv.move rfl) ?_
              refine HW.take 27 rfl (by kernel_rfl) (by kernel_rfl) (by kernel_rfl) (fun _ _ _ h => h) (.inr ⟨_, _, 107, rfl, rfl, rfl⟩) rfl (fun _ h => (h).erase 0) (Yv.loadK (vs := [_, _, _]) Tryz.isAgg35 Tryz.sizeOf35 rfl (CFs.whole 5 rfl)) ?_
              refine HW.run 28 rfl (by kernel_rfl) _ (.inr ⟨_, _, 107, rfl, rfl, rfl⟩) rfl (Ow.call e11 rfl (C.val (fun w hs => same23 Q (csrD N (mergeL l) out) f hao hF hT hof Am cm q0.1 q0.2 0 _ (IsRest.of (hs.hold 5 _ rfl) (hQ ▸ hs.now 1 rfl)) (hs.row_Rd 4 rfl (show (mergeL l).length ≤ 4611686018427387904 by omega)) (hs.now 2 rfl)))) (by rintro _ _ ⟨rfl, rfl⟩ w h; exact (h).erase 0) ?_
              rintro _ _ ⟨rfl, rfl⟩
              refine HW.take 29 rfl (by kernel_rfl) (by kernel_rfl) (by kernel_rfl) (fun _ _ _ h => h) (.inr ⟨_, _, 107, rfl, rfl, rfl⟩) rfl (fun _ h => (h).erase 0) (Yv.not rfl) ?_
              refine HW.take 30 rfl (by kernel_rfl) (by kernel_rfl) (by kernel_rfl) (fun _ _ _ h => h) (.inl rfl) rfl (fun _ h => (h).erase 0) (Yv.pickF rfl rfl) ?_
              refine HW.done (by kernel_rfl) ?_
              refine PW.go ?_
              refine CW.cond rfl (fun hc112 => ?_) (fun hc112 => ?_)
              ·
                simp at hc112
              ·
                refine CW.skip ?_
                refine PW.block ?_
                refine PW.go ?_
                refine CW.region ?_
                refine RW.y (.inl rfl) rfl (Yv.move rfl) ?_
                refine RW.y (.inl rfl) rfl (Yv.add rfl rfl (by omega)) ?_
                refine RW.y (.inl rfl) rfl (Yv.assign rfl) ?_
                refine RW.nil ?_
                subst hf'
                refine PW.mem _ (fun w h => h.front 2 rfl) ?_
                refine PW.mem _ (fun w h => h.front 7 rfl) ?_
                refine PW.mem _ (fun w h => h.nowJoin) ?_
                refine PW.mem _ (fun w h => h.nowWeak 0 rfl (fun w h => rd_new h.1 h.2 hq)) ?_
                refine PW.mem _ (fun w h => h.front 2 rfl) ?_
                refine PW.mem _ (fun w h => h.front 2 rfl) ?_
                exact PW.next (k + 1, (pushR (mergeL l) f o.1 o.2), q) (⟨by show k + 1 ≤ ops.length; omega, pushR_ok hF⟩) ⟨rfl, rfl, rfl, rfl, rfl, trivial⟩ (fun w h => (((h).erase 5).erase 5).erase 5) (by show ops.length - (k + 1) < ops.length - k; omega)
        ·
          refine CW.exit ?_
          refine PW.then_exit ?_
          refine PW.then_exit ?_
          refine PW.block_exit ?_
          refine PW.go ?_
          refine CW.seq ?_
          refine CW.draw0 mixed ?_
          refine HW.take 0 rfl (by kernel_rfl) (by kernel_rfl) (by kernel_rfl) (fun _ _ _ h => h) (.inl rfl) rfl (fun _ h => h) (Yv.move rfl) ?_
          refine HW.take 3 rfl (by kernel_rfl) (by kernel_rfl) (by kernel_rfl) (fun _ _ _ h => h) (.inl rfl) rfl (fun _ h => h) (Yv.fieldAddr Tryz.underlying35 rfl Tryz.sizeOf33 rfl rfl) ?_
          refine HW.take 4 rfl (by kernel_rfl) (by kernel_rfl) (by kernel_rfl) (fun _ _ _ h => h) (.inl rfl) rfl (fun _ h => h) (Yv.load1 Tryz.isAgg33 rfl (CF.blk 3 rfl rfl)) ?_
          refine HW.take 5 rfl (by kernel_rfl) (by kernel_rfl) (by kernel_rfl) (fun _ _ _ h => h) (.inl rfl) rfl (fun _ h => h) (Yv.len Tryz.underlying33 rfl) ?_
          refine HW.take 6 rfl (by kernel_rfl) (by kernel_rfl) (by kernel_rfl) (fun _ _ _ h => h) (.inl rfl) rfl (fun _ h => h) (Yv.mul rfl rfl (by have := hF.len; omega)) ?_
          refine HW.run 1 rfl (by kernel_rfl) _ (.inl rfl) rfl (Ow.call e15 rfl (C.val (fun w hs => restArcs R N (2 * (mergeL l).length) _ (IsRest.of (D := (csrD N (mergeL l) out)) (hs.hold 0 _ rfl) (hs.now 1 rfl)).hb))) (by rintro _ _ ⟨rfl, rfl⟩ w h; exact h) ?_
          rintro _ _ ⟨rfl, rfl⟩
          refine HW.run 2 rfl (by kernel_rfl) _ (.inl rfl) rfl (Ow.call e16 rfl (C.val (fun w hs => arcsLen R.ba (csrD N (mergeL l) out) _ (hs.now 1 rfl)))) (by rintro _ _ ⟨rfl, rfl⟩ w h; exact h) ?_
          rintro _ _ ⟨rfl, rfl⟩
          refine HW.take 7 rfl (by kernel_rfl) (by kernel_rfl) (by kernel_rfl) (fun _ _ _ h => h) (.inl rfl) rfl (fun _ h => h) (Yv.eq rfl rfl) ?_
          refine HW.take 8 rfl (by kernel_rfl) (by kernel_rfl) (by kernel_rfl) (fun _ _ _ h => h) (.inl rfl) rfl (fun _ h => h) (Yv.move rfl) ?_
          refine HW.isT 121 rfl (by have := hF.len; show ((2 * (mergeL l).length : Nat) : Int) = _; omega) ?_
          refine HW.run 9 rfl (by kernel_rfl) _ (.inr ⟨_, _, 121, rfl, rfl, rfl⟩) rfl (Ow.call e6 rfl (C.val (fun w hs => awake23 _))) (by rintro _ _ ⟨rfl, rfl⟩ w h; exact h) ?_
          rintro _ _ ⟨rfl, rfl⟩
          refine HW.take 10 rfl (by kernel_rfl) (by kernel_rfl) (by kernel_rfl) (fun _ _ _ h => h) (.inl rfl) rfl (fun _ h => h) (Yv.pickT rfl rfl) ?_
          refine HW.take 11 rfl (by kernel_rfl) (by kernel_rfl) (by kernel_rfl) (fun _ _ _ h => h) (.inl rfl) rfl (fun _ h => h) (Yv.assign rfl) ?_
          refine HW.done (by kernel_rfl) ?_
          refine PW.go ?_
          refine CW.ret ?_
          refine PW.ret1 Tryz.results3 rfl (fun w1 hs => ?_)
          exact ⟨by first | rfl | simp, hs.mod.below⟩

theorem residPlaysLaw (n : Int) (hn : 0 ≤ n ∧ n ≤ 255) (A : Option Addr) (c : Nat) (l : List Edg) (B : Option Addr) (d : Nat) (ops : List (Int × Int)) (w : World) (hr : l.length ≤ 4611686018427387904 → Rd w A 3 l.length (cellsE l)) (hrO : ops.length ≤ 4611686018427387904 → Rd w B 2 ops.length (cellsA ops)) (hb : ∀ o ∈ ops, (-9223372036854775808 ≤ o.1 ∧ o.1 ≤ 9223372036854775807) ∧ -9223372036854775808 ≤ o.2 ∧ o.2 ≤ 9223372036854775807) :
    Calls Tryz.prog 3 #[.int .u8 n, .slice A l.length c, .slice B ops.length d] w fun e w1 => e = .returned (.bool true) ∧ Gr w w1 := by
  by_cases hl : 40 < l.length ∨ 40 < ops.length ∨ 40 < n
  · exact residPlays_long n A B c d l.length ops.length w hl
  · have r := hr (by omega)
    have ro := hrO (by omega)
    obtain ⟨k, i, h⟩ := newE_total n l
    by_cases z : k = 0
    · subst z; exact residPlays_ok n hn A c l B d ops w r ro hb (by omega) (by omega) (by omega) (newE_ok h).1
    · exact residPlays_err n hn A c l B d ops w r ro hb (by omega) (by omega) (by omega) k i z h

end Go.Proofs.YtipoblpnkkcpgaaGreat
