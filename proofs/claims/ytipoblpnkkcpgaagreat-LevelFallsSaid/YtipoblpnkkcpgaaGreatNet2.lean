/- Walks, written by a program of this session (gen.py) out of a spec. -/
import Derived.Test.YtipoblpnkkcpgaaGreatNet1
import Derived.Test.YtipoblpnkkcpgaaGreatMerge0
import Derived.Test.YtipoblpnkkcpgaaGreatEdge0
set_option linter.unusedVariables false
set_option linter.unusedSimpArgs false
namespace Go.Proofs.YtipoblpnkkcpgaaGreat
open Go Go.RowKit Go.Proofs.YtipoblpnkkcpgaaGreat.B

theorem edgeChecks' (n : Int) (A : Option Addr) (c : Nat) (l : List Edg) (w : World) (hr : Rd w A 3 l.length (cellsE l)) (k : Int) (i : Nat) (h : Chks n l k i) : Calls Tryz.prog 37 #[.int .i64 n, .slice A l.length c] w fun e w1 => e = .returned (.tuple #[.int .i64 k, .int .i64 i]) ∧ Gr w w1 :=
  (edgeChecks n A c l w hr).mono fun e w1 ⟨p, hp, he, hb⟩ => by
    obtain ⟨h1, h2⟩ := chks_unique hp h
    subst h1; subst h2; exact ⟨he, hb⟩

set_option maxRecDepth 100000 in
theorem netNew_err (n : Int) (A : Option Addr) (c : Nat) (l : List Edg) (w : World) (hr : Rd w A 3 l.length (cellsE l)) (k : Int) (i : Nat) (hk : k ≠ 0) (he : NewE n l k i) : Calls Tryz.prog 7 #[.int .i64 n, .slice A l.length c] w fun e w1 => e = .returned (.tuple #[.pointer none, .int .i64 k, .int .i64 i]) ∧ Gr w w1 := by
  refine CW.enter (P := Tryz.prog) (F0 := none0) (L := [(0, _), (1, _)]) 83 [] Tryz.func7 rfl Tryz.ntmps7 (Nat.le_of_ble_eq_true rfl) (St.start w none0) rfl ?_
  refine CW.seq ?_
  refine CW.region ?_
  refine RW.y (.inl rfl) rfl (Yv.assign rfl) ?_
  refine RW.y (.inl rfl) rfl (Yv.assign rfl) ?_
  refine RW.y (.inl rfl) rfl (Yv.assign rfl) ?_
  refine RW.nil ?_
  refine PW.go ?_
  refine CW.seq ?_
  refine CW.block ?_
  refine CW.seq ?_
  refine CW.region ?_
  refine RW.y (.inl rfl) rfl (Yv.move rfl) ?_
  refine RW.y (.inl rfl) rfl (Yv.lt rfl rfl) ?_
  refine RW.y (.inl rfl) rfl (Yv.assign rfl) ?_
  refine RW.nil ?_
  refine PW.go ?_
  refine CW.condD rfl (fun hc15 => ?_) (fun hc15 => ?_)
  ·
    refine CW.seq ?_
    refine CW.region ?_
    refine RW.y (.inl rfl) rfl (Yv.assign rfl) ?_
    refine RW.y (.inl rfl) rfl (Yv.assign rfl) ?_
    refine RW.y (.inl rfl) rfl (Yv.assign rfl) ?_
    refine RW.nil ?_
    refine PW.go ?_
    refine CW.ret ?_
    refine PW.block_ret ?_
    refine PW.then_ret ?_
    refine PW.ret3 Tryz.results7 rfl rfl rfl (fun w1 hs => ?_)
    refine ⟨?_, hs.mod.below⟩
    first
    | rfl
    | (obtain ⟨rfl, rfl⟩ : k = 1 ∧ i = 0 := by rcases he with h | h | h <;> omega
       rfl)
    | (obtain ⟨rfl, rfl⟩ : k = 3 ∧ i = 0 := by rcases he with h | h | h <;> omega
       rfl)
  ·
    refine CW.seq ?_
    refine CW.seq ?_
    refine CW.region ?_
    refine RW.y (.inl rfl) rfl (Yv.move rfl) ?_
    refine RW.y (.inl rfl) rfl (Yv.gt rfl rfl) ?_
    refine RW.y (.inl rfl) rfl (Yv.assign rfl) ?_
    refine RW.nil ?_
    refine PW.go ?_
    refine CW.condD rfl (fun hc18 => ?_) (fun hc18 => ?_)
    ·
      refine CW.skip ?_
      refine PW.go ?_
      refine CW.condD rfl (fun hc18 => ?_) (fun hc18 => ?_)
      ·
        refine CW.seq ?_
        refine CW.region ?_
        refine RW.y (.inl rfl) rfl (Yv.assign rfl) ?_
        refine RW.y (.inl rfl) rfl (Yv.assign rfl) ?_
        refine RW.y (.inl rfl) rfl (Yv.assign rfl) ?_
        refine RW.nil ?_
        refine PW.go ?_
        refine CW.ret ?_
        refine PW.block_ret ?_
        refine PW.then_ret ?_
        refine PW.ret3 Tryz.results7 rfl rfl rfl (fun w1 hs => ?_)
        refine ⟨?_, hs.mod.below⟩
        first
        | rfl
        | (obtain ⟨rfl, rfl⟩ : k = 1 ∧ i = 0 := by rcases he with h | h | h <;> omega
           rfl)
        | (obtain ⟨rfl, rfl⟩ : k = 3 ∧ i = 0 := by rcases he with h | h | h <;> omega
           rfl)
      ·
        refine CW.skip ?_
        refine PW.block ?_
        refine PW.go ?_
        refine CW.seq ?_
        refine CW.seq ?_
        refine CW.region ?_
        refine RW.y (.inl rfl) rfl (Yv.move rfl) ?_
        refine RW.y (.inl rfl) rfl (Yv.move rfl) ?_
        refine RW.o _ (.inl rfl) rfl (Ow.call e37 rfl (C.val (fun w hs => edgeChecks' n A c l _ (hr.below hs.mod.below) k i (by rcases he with h | h | h; omega; omega; exact h.2.2.2)))) ?_
        rintro _ _ ⟨rfl, rfl⟩
        refine RW.y (.inl rfl) rfl (Yv.move rfl) ?_
        refine RW.y (.inl rfl) rfl (Yv.extract rfl rfl) ?_
        refine RW.y (.inl rfl) rfl (Yv.extract rfl rfl) ?_
        refine RW.y (.inl rfl) rfl (Yv.assign rfl) ?_
        refine RW.y (.inl rfl) rfl (Yv.assign rfl) ?_
        refine RW.nil ?_
        refine PW.go ?_
        refine CW.seq ?_
        refine CW.region ?_
        refine RW.y (.inl rfl) rfl (Yv.move rfl) ?_
        refine RW.y (.inl rfl) rfl (Yv.ne rfl rfl) ?_
        refine RW.nil ?_
        refine PW.go ?_
        refine CW.condD rfl (fun hc31 => ?_) (fun hc31 => ?_)
        ·
          refine CW.seq ?_
          refine CW.region ?_
          refine RW.y (.inl rfl) rfl (Yv.move rfl) ?_
          refine RW.y (.inl rfl) rfl (Yv.move rfl) ?_
          refine RW.y (.inl rfl) rfl (Yv.assign rfl) ?_
          refine RW.y (.inl rfl) rfl (Yv.assign rfl) ?_
          refine RW.y (.inl rfl) rfl (Yv.assign rfl) ?_
          refine RW.nil ?_
          refine PW.go ?_
          refine CW.ret ?_
          refine PW.then_ret ?_
          refine PW.ret3 Tryz.results7 rfl rfl rfl (fun w1 hs => ?_)
          refine ⟨?_, hs.mod.below⟩
          first
          | rfl
          | (obtain ⟨rfl, rfl⟩ : k = 1 ∧ i = 0 := by rcases he with h | h | h <;> omega
             rfl)
          | (obtain ⟨rfl, rfl⟩ : k = 3 ∧ i = 0 := by rcases he with h | h | h <;> omega
             rfl)
        ·
          exact absurd hk (by simpa using hc31)
    ·
      refine CW.region ?_
      refine RW.y (.inl rfl) rfl (Yv.move rfl) ?_
      refine RW.y (.inl rfl) rfl (Yv.len Tryz.underlying22 rfl) ?_
      refine RW.y (.inl rfl) rfl (Yv.gt rfl rfl) ?_
      refine RW.y (.inl rfl) rfl (Yv.assign rfl) ?_
      refine RW.nil ?_
      refine PW.go ?_
      refine CW.condD rfl (fun hc18 => ?_) (fun hc18 => ?_)
      ·
        refine CW.seq ?_
        refine CW.region ?_
        refine RW.y (.inl rfl) rfl (Yv.assign rfl) ?_
        refine RW.y (.inl rfl) rfl (Yv.assign rfl) ?_
        refine RW.y (.inl rfl) rfl (Yv.assign rfl) ?_
        refine RW.nil ?_
        refine PW.go ?_
        refine CW.ret ?_
        refine PW.block_ret ?_
        refine PW.then_ret ?_
        refine PW.ret3 Tryz.results7 rfl rfl rfl (fun w1 hs => ?_)
        refine ⟨?_, hs.mod.below⟩
        first
        | rfl
        | (obtain ⟨rfl, rfl⟩ : k = 1 ∧ i = 0 := by rcases he with h | h | h <;> omega
           rfl)
        | (obtain ⟨rfl, rfl⟩ : k = 3 ∧ i = 0 := by rcases he with h | h | h <;> omega
           rfl)
      ·
        refine CW.skip ?_
        refine PW.block ?_
        refine PW.go ?_
        refine CW.seq ?_
        refine CW.seq ?_
        refine CW.region ?_
        refine RW.y (.inl rfl) rfl (Yv.move rfl) ?_
        refine RW.y (.inl rfl) rfl (Yv.move rfl) ?_
        refine RW.o _ (.inl rfl) rfl (Ow.call e37 rfl (C.val (fun w hs => edgeChecks' n A c l _ (hr.below hs.mod.below) k i (by rcases he with h | h | h; omega; omega; exact h.2.2.2)))) ?_
        rintro _ _ ⟨rfl, rfl⟩
        refine RW.y (.inl rfl) rfl (Yv.move rfl) ?_
        refine RW.y (.inl rfl) rfl (Yv.extract rfl rfl) ?_
        refine RW.y (.inl rfl) rfl (Yv.extract rfl rfl) ?_
        refine RW.y (.inl rfl) rfl (Yv.assign rfl) ?_
        refine RW.y (.inl rfl) rfl (Yv.assign rfl) ?_
        refine RW.nil ?_
        refine PW.go ?_
        refine CW.seq ?_
        refine CW.region ?_
        refine RW.y (.inl rfl) rfl (Yv.move rfl) ?_
        refine RW.y (.inl rfl) rfl (Yv.ne rfl rfl) ?_
        refine RW.nil ?_
        refine PW.go ?_
        refine CW.condD rfl (fun hc31 => ?_) (fun hc31 => ?_)
        ·
          refine CW.seq ?_
          refine CW.region ?_
          refine RW.y (.inl rfl) rfl (Yv.move rfl) ?_
          refine RW.y (.inl rfl) rfl (Yv.move rfl) ?_
          refine RW.y (.inl rfl) rfl (Yv.assign rfl) ?_
          refine RW.y (.inl rfl) rfl (Yv.assign rfl) ?_
          refine RW.y (.inl rfl) rfl (Yv.assign rfl) ?_
          refine RW.nil ?_
          refine PW.go ?_
          refine CW.ret ?_
          refine PW.then_ret ?_
          refine PW.ret3 Tryz.results7 rfl rfl rfl (fun w1 hs => ?_)
          refine ⟨?_, hs.mod.below⟩
          first
          | rfl
          | (obtain ⟨rfl, rfl⟩ : k = 1 ∧ i = 0 := by rcases he with h | h | h <;> omega
             rfl)
          | (obtain ⟨rfl, rfl⟩ : k = 3 ∧ i = 0 := by rcases he with h | h | h <;> omega
             rfl)
        ·
          exact absurd hk (by simpa using hc31)

theorem isNet_hold {w : World} {n : Int} {l : List Edg} {b b40 b42 cm : Nat} {Am : Option Addr} {vs : List Value} (hok : NewOk n l) (hnl : (nearAcc n.toNat (mergeL l)).length = n.toNat) (hnb : ∀ x ∈ nearAcc n.toNat (mergeL l), x.length ≤ 1099511627776)
    (h : Hold w [row (.slice (some ⟨b42, 0, none⟩) n.toNat n.toNat) 2 1 n.toNat (i64s (degAcc n.toNat (mergeL l))), rowsA 3 vs (((nearAcc n.toNat (mergeL l)).map sortL).map i64s), row (.slice (some ⟨b40, 0, none⟩) n.toNat n.toNat) 51 1 n.toNat vs,
      blk b [.slice (some ⟨b40, 0, none⟩) n.toNat n.toNat, .slice (some ⟨b42, 0, none⟩) n.toNat n.toNat, .slice Am (mergeL l).length cm, .int .i64 (totalW (mergeL l))] 88, row (.slice Am (mergeL l).length cm) 79 3 (mergeL l).length (cellsE (mergeL l))]) : IsNet w b (netOf n l) := by
  have hml := mergeL_length l
  have h0 := hok.h0; have hn := hok.hn; have hl := hok.hl
  obtain ⟨F1, d1⟩ := h 0 _ rfl
  obtain ⟨F2, d2⟩ := h 1 _ rfl
  obtain ⟨F3, d3⟩ := h 2 _ rfl
  obtain ⟨F4, d4⟩ := h 3 _ rfl
  obtain ⟨F5, d5⟩ := h 4 _ rfl
  refine ⟨⟨_, _, _, _, _, _, vs, d4.1, row_rd d3 ?_, row_rd d1 ?_, row_rd d5 ?_, fun k hk => ?_⟩, ?_, ?_⟩
  · show n.toNat ≤ _; omega
  · show n.toNat ≤ _; omega
  · show (mergeL l).length ≤ _; omega
  · have hk' : k < n.toNat := hk
    obtain ⟨x, hx⟩ : ∃ x, (nearAcc n.toNat (mergeL l))[k]? = some x := ⟨_, List.getElem?_eq_getElem (by omega)⟩
    have hxl := hnb x (List.mem_of_getElem? hx)
    have hsl := sortL_length x
    have hil := i64s_length (sortL x)
    obtain ⟨A, c, e1, e2⟩ := rowsA_rd k d2 (x := i64s (sortL x)) (by simp [hx]) (by omega)
    rw [hil] at e1 e2
    exact ⟨A, c, sortL x, e1, by show ((nearAcc n.toNat (mergeL l)).map sortL)[k]? = _; simp [hx], e2⟩
  · show n.toNat ≤ _; omega
  · show (mergeL l).length ≤ _; omega

set_option maxRecDepth 100000 in
theorem netNew_ok (n : Int) (A : Option Addr) (c : Nat) (l : List Edg) (w : World) (hr : Rd w A 3 l.length (cellsE l)) (hok : NewOk n l) : Calls Tryz.prog 7 #[.int .i64 n, .slice A l.length c] w fun en w1 => ∃ b : Nat, True ∧ en = .returned (.tuple #[.pointer (some ⟨b, 0, none⟩), .int .i64 0, .int .i64 0]) ∧ Gr w w1 ∧ ∃ F, (nowA (fun w' => IsNet w' b (netOf n l))).holds w1 F ∧ ∀ k, F k → w.heap.size ≤ k ∧ k < w1.heap.size := by
  have ⟨h0, hn, hl, hc⟩ := hok
  have htot := hok.total
  obtain ⟨hmn, hmt⟩ := merged_total hok
  have hml := mergeL_length l
  have hmo := hok.merged
  refine CW.enter (P := Tryz.prog) (F0 := none0) (L := [(0, _), (1, _)]) 83 [] Tryz.func7 rfl Tryz.ntmps7 (Nat.le_of_ble_eq_true rfl) (St.start w none0) rfl ?_
  refine CW.seq ?_
  refine CW.region ?_
  refine RW.y (.inl rfl) rfl (Yv.assign rfl) ?_
  refine RW.y (.inl rfl) rfl (Yv.assign rfl) ?_
  refine RW.y (.inl rfl) rfl (Yv.assign rfl) ?_
  refine RW.nil ?_
  refine PW.go ?_
  refine CW.seq ?_
  refine CW.block ?_
  refine CW.seq ?_
  refine CW.region ?_
  refine RW.y (.inl rfl) rfl (Yv.move rfl) ?_
  refine RW.y (.inl rfl) rfl (Yv.lt rfl rfl) ?_
  refine RW.y (.inl rfl) rfl (Yv.assign rfl) ?_
  refine RW.nil ?_
  refine PW.go ?_
  refine CW.condD rfl (fun hc15 => ?_) (fun hc15 => ?_)
  ·
    omega
  ·
    refine CW.seq ?_
    refine CW.seq ?_
    refine CW.region ?_
    refine RW.y (.inl rfl) rfl (Yv.move rfl) ?_
    refine RW.y (.inl rfl) rfl (Yv.gt rfl rfl) ?_
    refine RW.y (.inl rfl) rfl (Yv.assign rfl) ?_
    refine RW.nil ?_
    refine PW.go ?_
    refine CW.condD rfl (fun hc18 => ?_) (fun hc18 => ?_)
    ·
      omega
    ·
      refine CW.region ?_
      refine RW.y (.inl rfl) rfl (Yv.move rfl) ?_
      refine RW.y (.inl rfl) rfl (Yv.len Tryz.underlying22 rfl) ?_
      refine RW.y (.inl rfl) rfl (Yv.gt rfl rfl) ?_
      refine RW.y (.inl rfl) rfl (Yv.assign rfl) ?_
      refine RW.nil ?_
      refine PW.go ?_
      refine CW.condD rfl (fun hc18 => ?_) (fun hc18 => ?_)
      ·
        omega
      ·
        refine CW.skip ?_
        refine PW.block ?_
        refine PW.go ?_
        refine CW.seq ?_
        refine CW.seq ?_
        refine CW.region ?_
        refine RW.y (.inl rfl) rfl (Yv.move rfl) ?_
        refine RW.y (.inl rfl) rfl (Yv.move rfl) ?_
        refine RW.o _ (.inl rfl) rfl (Ow.call e37 rfl (C.val (fun w hs => edgeChecks' n A c l _ (hr.below hs.mod.below) 0 0 hc))) ?_
        rintro _ _ ⟨rfl, rfl⟩
        refine RW.y (.inl rfl) rfl (Yv.move rfl) ?_
        refine RW.y (.inl rfl) rfl (Yv.extract rfl rfl) ?_
        refine RW.y (.inl rfl) rfl (Yv.extract rfl rfl) ?_
        refine RW.y (.inl rfl) rfl (Yv.assign rfl) ?_
        refine RW.y (.inl rfl) rfl (Yv.assign rfl) ?_
        refine RW.nil ?_
        refine PW.go ?_
        refine CW.seq ?_
        refine CW.region ?_
        refine RW.y (.inl rfl) rfl (Yv.move rfl) ?_
        refine RW.y (.inl rfl) rfl (Yv.ne rfl rfl) ?_
        refine RW.nil ?_
        refine PW.go ?_
        refine CW.condD rfl (fun hc31 => ?_) (fun hc31 => ?_)
        ·
          exact absurd rfl hc31
        ·
          refine CW.skip ?_
          refine PW.go ?_
          refine CW.seq ?_
          refine CW.region ?_
          refine RW.y (.inl rfl) rfl (Yv.move rfl) ?_
          refine RW.o _ (.inl rfl) rfl (Ow.call e38 rfl (C.new (val := fun (p : Option Addr × Nat) => .tuple #[.slice p.1 (mergeL l).length p.2, .bool true]) (φ := fun _ => True) (Ψ := fun p => row (.slice p.1 (mergeL l).length p.2) 79 3 (mergeL l).length (cellsE (mergeL l))) (fun w2 hs => (edgeMerge A c l w2 (hr.below hs.mod.below) (fun x hx => by obtain ⟨a1, a2, a3, a4, _⟩ := chkE_zero (hok.all x hx); omega) hok.nonneg (by omega) (by omega)).mono (fun en w3 ⟨p, he, hb, F, hF, hk⟩ => ⟨p, trivial, he, hb, F, hF, hk⟩)))) ?_
          rintro _ _ ⟨⟨Am, cm⟩, -, rfl, rfl⟩
          refine RW.y (.inl rfl) rfl (Yv.move rfl) ?_
          refine RW.y (.inl rfl) rfl (Yv.extract rfl rfl) ?_
          refine RW.y (.inl rfl) rfl (Yv.extract rfl rfl) ?_
          refine RW.y (.inl rfl) rfl (Yv.assign rfl) ?_
          refine RW.y (.inl rfl) rfl (Yv.assign rfl) ?_
          refine RW.nil ?_
          refine PW.go ?_
          refine CW.cut (σ := Nat × Nat × Nat) (fun s => True) (fun s => [(0, .int .i64 n), (9, .slice Am (mergeL l).length cm), (11, .pointer (some ⟨s.1, 0, none⟩))]) (fun s => [netG s.1 (some ⟨s.2.1, 0, none⟩) n.toNat (some ⟨s.2.2, 0, none⟩) n.toNat n.toNat (.slice Am (mergeL l).length cm) (.int .i64 0) (List.replicate n.toNat (.slice none 0 0)) (List.replicate n.toNat []) (List.replicate n.toNat 0), row (.slice Am (mergeL l).length cm) 79 3 (mergeL l).length (cellsE (mergeL l))]) ?_ ?_
          ·
            refine CW.draw0 mixed ?_
            refine HW.take 0 rfl (by kernel_rfl) (by kernel_rfl) (by kernel_rfl) (fun _ _ _ h => h) (.inl rfl) rfl (fun _ h => h) (Yv.move rfl) ?_
            refine HW.take 2 rfl (by kernel_rfl) (by kernel_rfl) (by kernel_rfl) (fun _ _ _ h => h) (.inl rfl) rfl (fun _ h => h) (Yv.move rfl) ?_
            refine HW.take 5 rfl (by kernel_rfl) (by kernel_rfl) (by kernel_rfl) (fun _ _ _ h => h) (.inl rfl) rfl (fun _ h => h) (Yv.move rfl) ?_
            refine HW.run2 1 3 (by kernel_rfl) (fun a w hf hs => HW.opp 1 rfl _ (.inl rfl) rfl (Ow.make (m := n.toNat) Tryz.underlying84 info51 rfl rfl rfl (by omega) (by omega) (by omega) (by omega)) (by rintro _ _ ⟨b40, rfl, rfl⟩ w h; exact (h).erase 0) ?_ hf hs) (fun a w hf hs => HW.opp 3 rfl _ (.inl rfl) rfl (Ow.make (m := n.toNat) Tryz.underlying33 info2 rfl rfl rfl (by omega) (by omega) (by omega) (by omega)) (by rintro _ _ ⟨b42, rfl, rfl⟩ w h; exact (h).erase 0) ?_ hf hs)
            ·
              clear hf hs
              rintro _ _ ⟨b40, rfl, rfl⟩
              refine HW.run 3 rfl (by kernel_rfl) _ (.inl rfl) rfl (Ow.make (m := n.toNat) Tryz.underlying33 info2 rfl rfl rfl (by omega) (by omega) (by omega) (by omega)) (by rintro _ _ ⟨b42, rfl, rfl⟩ w h; exact ((h).erase 0).erase 0) ?_
              rintro _ _ ⟨b42, rfl, rfl⟩
              refine HW.take 4 rfl (by kernel_rfl) (by kernel_rfl) (by kernel_rfl) (fun _ _ _ h => h) (.inl rfl) rfl (fun _ h => ((h).erase 0).erase 0) (Yv.build rfl (fun w => by exact bld86_0_1 _ _ _ _ _ _ w)) ?_
              refine HW.take 6 rfl (by kernel_rfl) (by kernel_rfl) (by kernel_rfl) (fun _ _ _ h => h) (.inl rfl) rfl (fun _ h => ((h).erase 0).erase 0) (Yv.build rfl (fun w => by exact bld88_0_1 _ _ _ _ _ _ _ _ _ w)) ?_
              refine HW.run 7 rfl (by kernel_rfl) _ (.inl rfl) rfl (Ow.box (cs := [_, _, _, _]) rfl rfl) (by rintro _ _ ⟨b46, rfl, rfl⟩ w h; exact (((h).erase 0).erase 0).erase 0) ?_
              rintro _ _ ⟨b46, rfl, rfl⟩
              refine HW.take 8 rfl (by kernel_rfl) (by kernel_rfl) (by kernel_rfl) (fun _ _ _ h => h) (.inl rfl) rfl (fun _ h => (((h).erase 0).erase 0).erase 0) (Yv.assign rfl) ?_
              refine HW.done (by kernel_rfl) ?_
              refine PW.mem _ (fun w h => h.front 3 rfl) ?_
              refine PW.mem _ (fun w h => h.front 1 rfl) ?_
              refine PW.mem _ (fun w h => h.front 3 rfl) ?_
              refine PW.mem _ (fun w h => h.rows_nil 3 n.toNat) ?_
              refine PW.mem _ (fun w h => h.front 4 rfl) ?_
              refine PW.mem _ (fun w h => h.row_eq (m' := n.toNat) (xs' := i64s (List.replicate n.toNat 0)) 0 rfl (rfl) (by simp [i64s])) ?_
              have hrep : (List.replicate n.toNat ([] : List Value)) = (List.replicate n.toNat ([] : List Int)).map i64s := by simp [i64s]
              refine PW.mem _ (fun w h => (by rw [hrep] at h; exact netShut h)) ?_
              exact PW.mid (b46, b40, b42) (trivial) ⟨rfl, rfl, rfl, trivial⟩ (fun w h => h)
            ·
              clear hf hs
              rintro _ _ ⟨b42, rfl, rfl⟩
              refine HW.run 1 rfl (by kernel_rfl) _ (.inl rfl) rfl (Ow.make (m := n.toNat) Tryz.underlying84 info51 rfl rfl rfl (by omega) (by omega) (by omega) (by omega)) (by rintro _ _ ⟨b40, rfl, rfl⟩ w h; exact ((h).erase 0).erase 0) ?_
              rintro _ _ ⟨b40, rfl, rfl⟩
              refine HW.take 4 rfl (by kernel_rfl) (by kernel_rfl) (by kernel_rfl) (fun _ _ _ h => h) (.inl rfl) rfl (fun _ h => ((h).erase 0).erase 0) (Yv.build rfl (fun w => by exact bld86_0_1 _ _ _ _ _ _ w)) ?_
              refine HW.take 6 rfl (by kernel_rfl) (by kernel_rfl) (by kernel_rfl) (fun _ _ _ h => h) (.inl rfl) rfl (fun _ h => ((h).erase 0).erase 0) (Yv.build rfl (fun w => by exact bld88_0_1 _ _ _ _ _ _ _ _ _ w)) ?_
              refine HW.run 7 rfl (by kernel_rfl) _ (.inl rfl) rfl (Ow.box (cs := [_, _, _, _]) rfl rfl) (by rintro _ _ ⟨b46, rfl, rfl⟩ w h; exact (((h).erase 0).erase 0).erase 0) ?_
              rintro _ _ ⟨b46, rfl, rfl⟩
              refine HW.take 8 rfl (by kernel_rfl) (by kernel_rfl) (by kernel_rfl) (fun _ _ _ h => h) (.inl rfl) rfl (fun _ h => (((h).erase 0).erase 0).erase 0) (Yv.assign rfl) ?_
              refine HW.done (by kernel_rfl) ?_
              refine PW.mem _ (fun w h => h.front 3 rfl) ?_
              refine PW.mem _ (fun w h => h.front 1 rfl) ?_
              refine PW.mem _ (fun w h => h.front 2 rfl) ?_
              refine PW.mem _ (fun w h => h.rows_nil 3 n.toNat) ?_
              refine PW.mem _ (fun w h => h.front 4 rfl) ?_
              refine PW.mem _ (fun w h => h.row_eq (m' := n.toNat) (xs' := i64s (List.replicate n.toNat 0)) 0 rfl (rfl) (by simp [i64s])) ?_
              have hrep : (List.replicate n.toNat ([] : List Value)) = (List.replicate n.toNat ([] : List Int)).map i64s := by simp [i64s]
              refine PW.mem _ (fun w h => (by rw [hrep] at h; exact netShut h)) ?_
              exact PW.mid (b46, b40, b42) (trivial) ⟨rfl, rfl, rfl, trivial⟩ (fun w h => h)
          · intro ⟨b46, b40, b42⟩ _
            refine CW.seq ?_
            refine CW.seq ?_
            (try dsimp only)
            refine CW.region ?_
            refine RW.y (.inl rfl) rfl (Yv.move rfl) ?_
            refine RW.y (.inl rfl) rfl (Yv.len Tryz.underlying22 rfl) ?_
            refine RW.y (.inl rfl) rfl (Yv.move rfl) ?_
            refine RW.nil ?_
            refine PW.go ?_
            refine CW.block ?_
            refine CW.loop (σ := Nat × List Value) (fun s => s.1 ≤ (mergeL l).length ∧ (nearAcc n.toNat ((mergeL l).take s.1)).length = n.toNat ∧ (degAcc n.toNat ((mergeL l).take s.1)).length = n.toNat ∧ (∀ x ∈ nearAcc n.toNat ((mergeL l).take s.1), x.length ≤ 2 * s.1) ∧ (∀ d ∈ degAcc n.toNat ((mergeL l).take s.1), 0 ≤ d ∧ d ≤ 2 * totalW ((mergeL l).take s.1))) (fun s => [(0, .int .i64 n), (11, .pointer (some ⟨b46, 0, none⟩)), (47, .slice Am (mergeL l).length cm), (48, .int .i64 (mergeL l).length), (49, .int .i64 (s.1 : Nat))]) (fun s => [netG b46 (some ⟨b40, 0, none⟩) n.toNat (some ⟨b42, 0, none⟩) n.toNat n.toNat (.slice Am (mergeL l).length cm) (.int .i64 (totalW ((mergeL l).take s.1))) s.2 (nearAcc n.toNat ((mergeL l).take s.1)) (degAcc n.toNat ((mergeL l).take s.1)), row (.slice Am (mergeL l).length cm) 79 3 (mergeL l).length (cellsE (mergeL l))]) (fun s => (mergeL l).length - s.1) (0, List.replicate n.toNat (.slice none 0 0)) (⟨by simp, by simp [nearAcc], by simp [degAcc], by simp [nearAcc], by intro d hd; simp [degAcc] at hd; simp [totalW]; omega⟩) ⟨rfl, rfl, rfl, rfl, rfl, trivial⟩ (fun w h => h) ?_
            rintro ⟨k, vs⟩ ⟨hk, hnl, hdl, hnb, hdb⟩
            (try dsimp only at *)
            have htk := total_take hmn k
            have htn := total_nonneg (nonneg_take hmn k)
            refine CW.seq ?_
            refine CW.region ?_
            refine RW.y (.inl rfl) rfl (Yv.lt rfl rfl) ?_
            refine RW.nil ?_
            refine PW.go ?_
            refine CW.seq ?_
            refine CW.condD rfl (fun hc50 => ?_) (fun hc50 => ?_)
            ·
              refine CW.skip ?_
              refine PW.go ?_
              refine CW.seq ?_
              refine CW.block ?_
              refine CW.seq ?_
              have hkl : k < (mergeL l).length := by omega
              refine CW.facts _ (fun w h => h.row_some 1 rfl (by omega)) ?_
              rintro ⟨bm, rfl⟩
              obtain ⟨e, he0⟩ : ∃ e, (mergeL l)[k]? = some e := ⟨_, List.getElem?_eq_getElem hkl⟩
              have hce := cellsE_get _ k e he0
              have he := hmo e (List.mem_of_getElem? he0)
              refine CW.region ?_
              refine RW.y (.inl rfl) rfl (Yv.index0K Tryz.underlying22 Tryz.sizeOf79 rfl rfl (by omega) (by omega)) ?_
              refine RW.y (.inl rfl) rfl (Yv.loadK (vs := [_, _, _]) Tryz.isAgg79 Tryz.sizeOf79 rfl (CFs.row (vs := encE e) 1 rfl hce)) ?_
              refine RW.o _ (.inl rfl) rfl (Ow.alloc (cs := [_, _, _]) Tryz.zeroValue79 rfl) ?_
              rintro _ _ ⟨b13, rfl, rfl⟩
              refine RW.o _ (.inl rfl) rfl (Ow.storeW (vs := [_, _, _]) 0 Tryz.sizeOf79 rfl rfl (rfl) rfl (rfl)) ?_
              rintro _ _ ⟨rfl, rfl⟩
              refine RW.nil ?_
              refine PW.go ?_
              refine CW.seq ?_
              refine CW.drawE mixed (fun _ h => (h).erase 1) ?_
              refine HW.take 0 rfl (by kernel_rfl) (by kernel_rfl) (by kernel_rfl) (fun _ _ _ h => h) (.inl rfl) rfl (fun _ h => (h).erase 1) (Yv.move rfl) ?_
              refine HW.take 1 rfl (by kernel_rfl) (by kernel_rfl) (by kernel_rfl) (fun _ _ _ h => h) (.inl rfl) rfl (fun _ h => (h).erase 1) (Yv.nilCheck rfl) ?_
              refine HW.take 2 rfl (by kernel_rfl) (by kernel_rfl) (by kernel_rfl) (fun _ _ _ h => h) (.inl rfl) rfl (fun _ h => (h).erase 1) (Yv.fieldAddr Tryz.underlying88 rfl Tryz.sizeOf86 rfl rfl) ?_
              refine HW.take 3 rfl (by kernel_rfl) (by kernel_rfl) (by kernel_rfl) (fun _ _ _ h => h) (.inl rfl) rfl (fun _ h => (h).erase 1) (Yv.loadK (vs := [_, _, _]) Tryz.isAgg79 Tryz.sizeOf79 rfl (CFs.whole 0 rfl)) ?_
              refine HW.run 4 rfl (by kernel_rfl) _ (.inl rfl) rfl (Ow.call e39 rfl (C.mut (val := fun _ : List Value => .tuple #[]) (Ψ := fun vs' => netG b46 (some ⟨b40, 0, none⟩) n.toNat (some ⟨b42, 0, none⟩) n.toNat n.toNat (.slice (some ⟨bm, 0, none⟩) (mergeL l).length cm) (.int .i64 (totalW ((mergeL l).take k))) vs' (linkN (nearAcc n.toNat ((mergeL l).take k)) e 2) (linkD (degAcc n.toNat ((mergeL l).take k)) e 2)) (φ := fun _ => True) 1 rfl (fun w2 F2 h2 h3 => netLink b46 _ _ _ _ n.toNat _ _ vs _ _ e w2 F2 h2 h3 (by omega) (by omega) (by omega) hnl hdl (by omega) (fun d hd => by have := hdb d hd; omega) (fun x hx => by have := hnb x hx; omega)))) (by rintro _ _ ⟨vs', -, rfl, rfl⟩ w h; exact (h).erase 1) ?_
              rintro _ _ ⟨vs', -, rfl, rfl⟩
              refine HW.done (by kernel_rfl) ?_
              refine PW.go ?_
              refine CW.mem _ (fun w h => h.front 1 rfl) ?_
              refine CW.mem _ (fun w h => netOpen h) ?_
              refine CW.drawE mixed (fun _ h => (h).erase 3) ?_
              refine HW.take 0 rfl (by kernel_rfl) (by kernel_rfl) (by kernel_rfl) (fun _ _ _ h => h) (.inl rfl) rfl (fun _ h => (h).erase 3) (Yv.move rfl) ?_
              refine HW.take 1 rfl (by kernel_rfl) (by kernel_rfl) (by kernel_rfl) (fun _ _ _ h => h) (.inl rfl) rfl (fun _ h => (h).erase 3) (Yv.nilCheck rfl) ?_
              refine HW.take 2 rfl (by kernel_rfl) (by kernel_rfl) (by kernel_rfl) (fun _ _ _ h => h) (.inl rfl) rfl (fun _ h => (h).erase 3) (Yv.fieldAddr Tryz.underlying88 rfl Tryz.sizeOf2 rfl rfl) ?_
              refine HW.take 4 rfl (by kernel_rfl) (by kernel_rfl) (by kernel_rfl) (fun _ _ _ h => h) (.inl rfl) rfl (fun _ h => (h).erase 3) (Yv.fieldAddr Tryz.underlying79 rfl Tryz.sizeOf2 rfl rfl) ?_
              refine HW.take 5 rfl (by kernel_rfl) (by kernel_rfl) (by kernel_rfl) (fun _ _ _ h => h) (.inl rfl) rfl (fun _ h => (h).erase 3) (Yv.load1 Tryz.isAgg2 rfl (CF.blk 3 rfl rfl)) ?_
              refine HW.run 3 rfl (by kernel_rfl) _ (.inl rfl) rfl (Yv.ow (Yv.load1 Tryz.isAgg2 rfl (CF.blk 3 rfl rfl))) (by rintro _ _ ⟨rfl, rfl⟩ w h; exact (h).erase 3) ?_
              rintro _ _ ⟨rfl, rfl⟩
              refine HW.take 6 rfl (by kernel_rfl) (by kernel_rfl) (by kernel_rfl) (fun _ _ _ h => h) (.inl rfl) rfl (fun _ h => (h).erase 3) (Yv.add rfl rfl (by omega)) ?_
              refine HW.take 7 rfl (by kernel_rfl) (by kernel_rfl) (by kernel_rfl) (fun _ _ _ h => h) (.inl rfl) rfl (fun _ h => (h).erase 3) (Yv.nilCheck rfl) ?_
              refine HW.take 8 rfl (by kernel_rfl) (by kernel_rfl) (by kernel_rfl) (fun _ _ _ h => h) (.inl rfl) rfl (fun _ h => (h).erase 3) (Yv.fieldAddr Tryz.underlying88 rfl Tryz.sizeOf2 rfl rfl) ?_
              refine HW.run 9 rfl (by kernel_rfl) _ (.inl rfl) rfl (Ow.store1 3 Tryz.sizeOf2 rfl rfl (rfl) rfl (Nat.le_of_ble_eq_true rfl)) (by rintro _ _ ⟨rfl, rfl⟩ w h; exact (h).erase 3) ?_
              rintro _ _ ⟨rfl, rfl⟩
              refine HW.done (by kernel_rfl) ?_
              refine PW.block ?_
              refine PW.go ?_
              refine CW.region ?_
              refine RW.y (.inl rfl) rfl (Yv.add rfl rfl (by omega)) ?_
              refine RW.y (.inl rfl) rfl (Yv.move rfl) ?_
              refine RW.nil ?_
              have hS := take_snoc he0
              have hN : nearAcc n.toNat ((mergeL l).take (k + 1)) = linkN (nearAcc n.toNat ((mergeL l).take k)) e 2 := by rw [hS, nearAcc_snoc]
              have hD : degAcc n.toNat ((mergeL l).take (k + 1)) = linkD (degAcc n.toNat ((mergeL l).take k)) e 2 := by rw [hS, degAcc_snoc]
              have hT : totalW ((mergeL l).take (k + 1)) = totalW ((mergeL l).take k) + e.w := by rw [hS, totalW_append, totalW_cons]; simp [totalW]
              refine PW.mem _ (fun w h => h.erase 4) ?_
              refine PW.mem _ (fun w h => netShut h) ?_
              rw [← hN, ← hD, ← hT]
              exact PW.next (k + 1, vs') (⟨by show k + 1 ≤ _; omega, by show (nearAcc n.toNat ((mergeL l).take (k + 1))).length = _; rw [hN, linkN_length]; exact hnl, by show (degAcc n.toNat ((mergeL l).take (k + 1))).length = _; rw [hD, linkD_length]; exact hdl, by show ∀ x ∈ nearAcc n.toNat ((mergeL l).take (k + 1)), x.length ≤ 2 * (k + 1); rw [hN]; exact linkN_len hnb e, by show ∀ d ∈ degAcc n.toNat ((mergeL l).take (k + 1)), 0 ≤ d ∧ d ≤ 2 * totalW ((mergeL l).take (k + 1)); rw [hD, hT]; intro d hd; have := linkD_bd hdb (by omega) he.2.2.1 d hd; omega⟩) ⟨rfl, rfl, rfl, rfl, rfl, trivial⟩ (fun w h => h) (by show (mergeL l).length - (k + 1) < (mergeL l).length - k; omega)
            ·
              refine CW.exit ?_
              refine PW.then_exit ?_
              refine PW.then_exit ?_
              refine PW.block_exit ?_
              refine PW.go ?_
              refine CW.seq ?_
              refine CW.seq ?_
              obtain rfl : k = (mergeL l).length := by omega
              rw [List.take_length] at *
              refine CW.region ?_
              refine RW.y (.inl rfl) rfl (Yv.move rfl) ?_
              refine RW.y (.inl rfl) rfl (Yv.move rfl) ?_
              refine RW.nil ?_
              refine PW.go ?_
              refine CW.block ?_
              refine CW.loop (σ := Nat × List Value) (fun s => s.1 ≤ n.toNat) (fun s => [(11, .pointer (some ⟨b46, 0, none⟩)), (68, .int .i64 n), (69, .int .i64 (s.1 : Nat))]) (fun s => [netG b46 (some ⟨b40, 0, none⟩) n.toNat (some ⟨b42, 0, none⟩) n.toNat n.toNat (.slice Am (mergeL l).length cm) (.int .i64 (totalW (mergeL l))) s.2 (sortTo (nearAcc n.toNat (mergeL l)) sortL s.1) (degAcc n.toNat (mergeL l)), row (.slice Am (mergeL l).length cm) 79 3 (mergeL l).length (cellsE (mergeL l))]) (fun s => n.toNat - s.1) (0, vs) (by simp) ⟨rfl, rfl, rfl, trivial⟩ (fun w h => by simpa [sortTo_zero] using h) ?_
              rintro ⟨k, vs⟩ hk
              (try dsimp only at *)
              refine CW.seq ?_
              refine CW.region ?_
              refine RW.y (.inl rfl) rfl (Yv.lt rfl rfl) ?_
              refine RW.nil ?_
              refine PW.go ?_
              refine CW.seq ?_
              refine CW.condD rfl (fun hc70 => ?_) (fun hc70 => ?_)
              ·
                refine CW.skip ?_
                refine PW.go ?_
                refine CW.seq ?_
                refine CW.block ?_
                refine CW.seq ?_
                refine CW.region ?_
                refine RW.y (.inl rfl) rfl (Yv.move rfl) ?_
                refine RW.y (.inl rfl) rfl (Yv.assign rfl) ?_
                refine RW.nil ?_
                refine PW.go ?_
                have hkn : k < n.toNat := by omega
                refine CW.mem _ (fun w h => netOpen h) ?_
                refine CW.facts _ (fun w h => h.rows_len 1 rfl) ?_
                intro hvl
                rw [List.length_map, sortTo_length, hnl] at hvl
                obtain ⟨vp, hvp⟩ : ∃ v, vs[k]? = some v := ⟨_, List.getElem?_eq_getElem (by omega)⟩
                obtain ⟨x, hxp⟩ : ∃ x, (nearAcc n.toNat (mergeL l))[k]? = some x := ⟨_, List.getElem?_eq_getElem (by omega)⟩
                have hxl := hnb x (List.mem_of_getElem? hxp)
                obtain ⟨hx1, hx2⟩ := sortTo_succ (s := sortL) hxp
                have hil := i64s_length x
                have hsl := sortL_length x
                refine CW.mem _ (fun w h => h.focus 1 rfl k hvp (x := i64s x) (by simp [hx1])) ?_
                refine CW.mem _ (fun w h => h.row_eq (m' := x.length) (xs' := i64s x) 0 rfl (hil) (rfl)) ?_
                refine CW.facts _ (fun w h => h.row_slice 0 rfl) ?_
                rintro ⟨Ap, cp, rfl⟩
                have hvs : vs.set k (.slice Ap x.length cp) = vs := by
                  apply List.ext_getElem?
                  intro j
                  rw [List.getElem?_set]
                  split
                  · rename_i h; subst h; rw [if_pos (by omega), hvp]
                  · rfl
                have hxs : ((sortTo (nearAcc n.toNat (mergeL l)) sortL k).map i64s).set k (i64s (sortL x)) = (sortTo (nearAcc n.toNat (mergeL l)) sortL (k + 1)).map i64s := by rw [hx2, List.map_set]
                refine CW.region ?_
                refine RW.y (.inl rfl) rfl (Yv.move rfl) ?_
                refine RW.y (.inl rfl) rfl (Yv.nilCheck rfl) ?_
                refine RW.y (.inl rfl) rfl (Yv.fieldAddr Tryz.underlying88 rfl Tryz.sizeOf86 rfl rfl) ?_
                refine RW.y (.inl rfl) rfl (Yv.fieldAddr Tryz.underlying86 rfl Tryz.sizeOf84 rfl rfl) ?_
                refine RW.y (.inl rfl) rfl (Yv.load1 Tryz.isAgg84 rfl (CF.blk 4 rfl rfl)) ?_
                refine RW.y (.inl rfl) rfl (Yv.move rfl) ?_
                refine RW.y (.inl rfl) rfl (Yv.index0 Tryz.underlying84 Tryz.sizeOf51 rfl rfl (by omega) (by omega)) ?_
                refine RW.y (.inl rfl) rfl (Yv.load1 Tryz.isAgg51 rfl (CF.row 3 rfl hvp)) ?_
                refine RW.o _ (.inl rfl) rfl (Ow.call e40 rfl (C.mut (val := fun _ : Unit => .tuple #[]) (Ψ := fun _ : Unit => row (.slice Ap x.length cp) 3 1 x.length (i64s (sortL x))) (φ := fun _ => True) 0 rfl (fun w2 F2 h2 h3 => sortInts Ap cp x w2 F2 h2 (by omega)))) ?_
                rintro _ _ ⟨_, -, rfl, rfl⟩
                refine RW.nil ?_
                refine PW.block ?_
                refine PW.go ?_
                refine CW.region ?_
                refine RW.y (.inl rfl) rfl (Yv.add rfl rfl (by omega)) ?_
                refine RW.y (.inl rfl) rfl (Yv.move rfl) ?_
                refine RW.nil ?_
                refine PW.mem _ (fun w h => (by have h2 := h.unfocus (p := k) (vs := vs) (xs := (sortTo (nearAcc n.toNat (mergeL l)) sortL k).map i64s) (by omega) (by simp [sortTo_length]; omega) (by rw [i64s_length, sortL_length]); rw [hvs, hxs] at h2; exact h2)) ?_
                refine PW.mem _ (fun w h => h.front 1 rfl) ?_
                refine PW.mem _ (fun w h => netShut h) ?_
                exact PW.next (k + 1, vs) (by show k + 1 ≤ n.toNat; omega) ⟨rfl, rfl, rfl, trivial⟩ (fun w h => h) (by show n.toNat - (k + 1) < n.toNat - k; omega)
              ·
                refine CW.exit ?_
                refine PW.then_exit ?_
                refine PW.then_exit ?_
                refine PW.block_exit ?_
                refine PW.go ?_
                refine CW.seq ?_
                refine CW.region ?_
                refine RW.y (.inl rfl) rfl (Yv.move rfl) ?_
                refine RW.y (.inl rfl) rfl (Yv.assign rfl) ?_
                refine RW.y (.inl rfl) rfl (Yv.assign rfl) ?_
                refine RW.y (.inl rfl) rfl (Yv.assign rfl) ?_
                refine RW.nil ?_
                refine PW.go ?_
                refine CW.ret ?_
                refine PW.ret3 Tryz.results7 rfl rfl rfl (fun w1 hs => ?_)
                obtain rfl : k = n.toNat := by omega
                have hs2 := netOpen hs
                have e1 : sortTo (nearAcc n.toNat (mergeL l)) sortL n.toNat = (nearAcc n.toNat (mergeL l)).map sortL := by
                  have := sortTo_all (nearAcc n.toNat (mergeL l)) sortL
                  rw [hnl] at this; exact this
                rw [e1] at hs2
                obtain ⟨F, hF1, hF2⟩ := hs2.outNow (fun w' => IsNet w' b46 (netOf n l)) (fun w' hh => isNet_hold hok hnl (fun x hx => by have := hnb x hx; omega) hh)
                exact ⟨b46, trivial, rfl, hs.mod.below, F, hF1, hF2⟩

end Go.Proofs.YtipoblpnkkcpgaaGreat
