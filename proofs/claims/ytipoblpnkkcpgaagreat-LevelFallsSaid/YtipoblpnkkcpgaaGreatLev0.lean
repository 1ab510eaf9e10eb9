/- Walks, written by a program of this session (gen.py) out of a spec. -/
import Derived.Test.YtipoblpnkkcpgaaGreatLevP
import Derived.Test.YtipoblpnkkcpgaaGreatRes1
set_option linter.unusedVariables false
set_option linter.unusedSimpArgs false
namespace Go.Proofs.YtipoblpnkkcpgaaGreat
open Go Go.RowKit Go.Proofs.YtipoblpnkkcpgaaGreat.B

def spA (b7 bo b10 b11 n : Nat) (out : List Int) (d : Int) (vn : Value) (next : List Int) : Ass :=
  Ass.star (blk b7 [.slice (some ⟨bo, 0, none⟩) n n] 51) (Ass.star (row (.slice (some ⟨bo, 0, none⟩) n n) 3 1 n (i64s out)) (Ass.star (blk b10 [.int .i64 d] 3) (Ass.star (blk b11 [vn] 51) (row vn 3 1 next.length (i64s next)))))
section
variable {w0 w : World} {F0 : Nat → Prop} {H : List Ass} {b7 bo b10 b11 n : Nat} {out : List Int} {d : Int} {vn : Value} {next : List Int}
theorem spOpen (h : St w0 F0 w (spA b7 bo b10 b11 n out d vn next :: H)) : St w0 F0 w (blk b11 [vn] 51 :: row vn 3 1 next.length (i64s next) :: blk b10 [.int .i64 d] 3 :: row (.slice (some ⟨bo, 0, none⟩) n n) 3 1 n (i64s out) :: blk b7 [.slice (some ⟨bo, 0, none⟩) n n] 51 :: H) := by
  have h1 := (h.split.front 1 rfl).split
  have h2 := (h1.front 1 rfl).split
  exact (h2.front 1 rfl).split
theorem spShut (h : St w0 F0 w (blk b11 [vn] 51 :: row vn 3 1 next.length (i64s next) :: blk b10 [.int .i64 d] 3 :: row (.slice (some ⟨bo, 0, none⟩) n n) 3 1 n (i64s out) :: blk b7 [.slice (some ⟨bo, 0, none⟩) n n] 51 :: H)) : St w0 F0 w (spA b7 bo b10 b11 n out d vn next :: H) := by
  have h1 := (h.join.front 1 rfl).join
  have h2 := (h1.front 1 rfl).join
  exact (h2.front 1 rfl).join
end
theorem foldl_step {n : Nat} {l : List Edg} (p : Int → Bool) (d : Int) (st : List Int × List Int) {O : List Int} {j : Nat} {i : Int} (hi : O[j]? = some i) :
    (((O.take (j + 1)).filter p).map (headOf l)).foldl (seeS d) st = if p i then seeS d ((((O.take j).filter p).map (headOf l)).foldl (seeS d) st) (headOf l i) else (((O.take j).filter p).map (headOf l)).foldl (seeS d) st := by
  rw [take_snocN hi, List.filter_append, List.map_append, List.foldl_append]
  by_cases h : p i = true
  · rw [if_pos h, List.filter_cons, if_pos h]; rfl
  · rw [if_neg h, List.filter_cons, if_neg h]; rfl
theorem seeS_len (d : Int) (st : List Int × List Int) (u : Int) : (seeS d st u).1.length = st.1.length ∧ (seeS d st u).2.length ≤ st.2.length + 1 := by
  unfold seeS
  split
  · simp
  · exact ⟨rfl, by omega⟩

set_option maxRecDepth 100000 in
theorem spreadSee (b7 bo b10 b11 n : Nat) (out : List Int) (d : Int) (vn : Value) (next : List Int) (u : Int) (hu : 0 ≤ u ∧ u < n) (hlen : out.length = n) (hnl : next.length ≤ 1099511627776) (w : World) (F : Nat → Prop) (h : (spA b7 bo b10 b11 n (out) d vn (next)).holds w F) (hF : ∀ k, F k → k < w.heap.size) : Calls Tryz.prog 107 #[.int .i64 u, .pointer (some ⟨b7, 0, none⟩), .pointer (some ⟨b10, 0, none⟩), .pointer (some ⟨b11, 0, none⟩)] w fun e w1 => ∃ vn' : Value, True ∧ e = .returned (.tuple #[]) ∧ Mod F w w1 ∧ ∃ F', (spA b7 bo b10 b11 n ((seeS d (out, next) u).1) d vn' ((seeS d (out, next) u).2)).holds w1 F' ∧ ∀ k, F' k → F k ∨ (w.heap.size ≤ k ∧ k < w1.heap.size) := by
  obtain ⟨x, hx⟩ : ∃ x, out[u.toNat]? = some x := ⟨_, List.getElem?_eq_getElem (by omega)⟩
  have hxu := oAt_of hu.1 hx
  refine CW.enter (P := Tryz.prog) (F0 := F) (L := [(0, _), (1, _), (2, _), (3, _)]) 18 [spA b7 bo b10 b11 n (out) d vn (next)] Tryz.func107 rfl Tryz.ntmps107 (Nat.le_of_ble_eq_true rfl) (St.start1 w h hF) rfl ?_
  refine CW.seq ?_
  refine CW.mem _ (fun w h => spOpen h) ?_
  refine CW.region ?_
  refine RW.y (.inl rfl) rfl (Yv.load1 Tryz.isAgg51 rfl (CF.blk 4 rfl rfl)) ?_
  refine RW.y (.inl rfl) rfl (Yv.move rfl) ?_
  refine RW.y (.inl rfl) rfl (Yv.index0 Tryz.underlying51 Tryz.sizeOf3 rfl rfl (by omega) (by omega)) ?_
  refine RW.y (.inl rfl) rfl (Yv.load1 Tryz.isAgg3 rfl (CF.row 3 rfl (i64s_get _ _ _ hx))) ?_
  refine RW.y (.inl rfl) rfl (Yv.lt rfl rfl) ?_
  refine RW.nil ?_
  refine PW.go ?_
  refine CW.condD rfl (fun hc9 => ?_) (fun hc9 => ?_)
  ·
    refine CW.seq ?_
    refine CW.region ?_
    refine RW.y (.inl rfl) rfl (Yv.load1 Tryz.isAgg51 rfl (CF.blk 4 rfl rfl)) ?_
    refine RW.y (.inl rfl) rfl (Yv.move rfl) ?_
    refine RW.y (.inl rfl) rfl (Yv.load1 Tryz.isAgg3 rfl (CF.blk 2 rfl rfl)) ?_
    refine RW.y (.inl rfl) rfl (Yv.index0 Tryz.underlying51 Tryz.sizeOf3 rfl rfl (by omega) (by omega)) ?_
    refine RW.o _ (.inl rfl) rfl (Ow.storeRow 3 Tryz.sizeOf3 rfl rfl (rfl) rfl (by rw [i64s_length]; omega)) ?_
    rintro _ _ ⟨rfl, rfl⟩
    refine RW.nil ?_
    refine PW.go ?_
    refine CW.region ?_
    refine RW.y (.inl rfl) rfl (Yv.load1 Tryz.isAgg51 rfl (CF.blk 0 rfl rfl)) ?_
    refine RW.y (.inl rfl) rfl (Yv.move rfl) ?_
    refine RW.o _ (.inl rfl) rfl (Ow.lit (len := 1) (vs := [_]) (cs := [_]) Tryz.underlying51 info3 rfl rfl rfl rfl rfl rfl rfl) ?_
    rintro _ _ ⟨b16, rfl, rfl⟩
    refine RW.o _ (.inl rfl) rfl (Ow.append 2 0 Tryz.underlying51 info3 rfl rfl rfl rfl rfl rfl rfl rfl (by omega) (by omega)) ?_
    rintro v17 _ rfl
    refine RW.facts _ (fun w h => h.row_slice 2 rfl) ?_
    rintro ⟨An, cn, rfl⟩
    refine RW.o _ (.inl rfl) rfl (Ow.store1 1 Tryz.sizeOf51 rfl rfl (rfl) rfl (Nat.le_of_ble_eq_true rfl)) ?_
    rintro _ _ ⟨rfl, rfl⟩
    refine RW.nil ?_
    refine PW.mem _ (fun w h => h.erase 0) ?_
    refine PW.mem _ (fun w h => h.row_eq (m' := n) (xs' := i64s (out.set u.toNat d)) 3 rfl (rfl) (i64s_set _ _ _)) ?_
    refine PW.mem _ (fun w h => h.row_eq (m' := (next ++ [u]).length) (xs' := i64s (next ++ [u])) 1 rfl (by simp) (by simp [i64s])) ?_
    refine PW.end0 Tryz.results107 (fun w1 hs => ?_)
    have hsee : seeS d (out, next) u = (out.set u.toNat d, next ++ [u]) := by unfold seeS; rw [if_pos (by show oAt out u < 0; omega)]
    obtain ⟨F', h', hk⟩ := (spShut hs).outMut 0 rfl
    exact ⟨_, trivial, rfl, hs.mod, F', by rw [hsee]; exact h', hk⟩
  ·
    refine CW.skip ?_
    refine PW.end0 Tryz.results107 (fun w1 hs => ?_)
    have hsee : seeS d (out, next) u = (out, next) := by unfold seeS; rw [if_neg (by show ¬ oAt out u < 0; omega)]
    obtain ⟨F', h', hk⟩ := (spShut hs).outMut 0 rfl
    exact ⟨_, trivial, rfl, hs.mod, F', by rw [hsee]; exact h', hk⟩

set_option maxRecDepth 100000 in
theorem onTo (R : RI) (D : ArcsD) (f ys : List Int) (hok : ArcsOk D.n D.l) (hof : ∀ v, v < D.n → D.of v = outOf D.n D.l v) (b5 b2 : Nat) (v : Int) (hv : 0 ≤ v ∧ v < D.n) (b7 bo b10 b11 : Nat) (out next : List Int) (vn : Value) (d : Int) (hlen : out.length = D.n) (hnl : next.length ≤ D.n) (w : World) (F : Nat → Prop) (h : (spA b7 bo b10 b11 D.n out d vn next).holds w F) (hF : ∀ k, F k → k < w.heap.size) (hX : ∀ W, Mod F w W → W.heap[b5]? = some (.cells [Value.pointer (some ⟨R.ba, 0, none⟩)].toArray 47 (0, 0)) ∧ W.heap[b2]? = some (.cells [Value.pointer (some ⟨R.b, 0, none⟩)].toArray 29 (0, 0)) ∧ IsRest W R D (leftL D.l f) ys) : Calls Tryz.prog 77 #[.int .i64 v, .func (.func 107) #[] #[.pointer (some ⟨b7, 0, none⟩), .pointer (some ⟨b10, 0, none⟩), .pointer (some ⟨b11, 0, none⟩)], .pointer (some ⟨b5, 0, none⟩), .pointer (some ⟨b2, 0, none⟩)] w fun e w1 => ∃ vn' : Value, True ∧ e = .returned (.tuple #[]) ∧ Mod F w w1 ∧ ∃ F', (spA b7 bo b10 b11 D.n ((nbT D.n D.l f v).foldl (seeS d) (out, next)).1 d vn' ((nbT D.n D.l f v).foldl (seeS d) (out, next)).2).holds w1 F' ∧ ∀ k, F' k → F k ∨ (w.heap.size ≤ k ∧ k < w1.heap.size) := by
  have hml := hok.hl
  have hnn := hok.hn
  refine CW.enter (P := Tryz.prog) (F0 := F) (L := [(0, _), (1, _), (2, _), (3, _)]) 27 [spA b7 bo b10 b11 D.n out d vn next] Tryz.func77 rfl Tryz.ntmps77 (Nat.le_of_ble_eq_true rfl) (St.start1 w h hF) rfl ?_
  refine CW.seq ?_
  refine CW.region ?_
  refine RW.y (.inl rfl) rfl (Yv.load1 Tryz.isAgg47 rfl (CF.keepB (fun W hM => (hX W hM).1) rfl)) ?_
  refine RW.y (.inl rfl) rfl (Yv.move rfl) ?_
  refine RW.o _ (.inl rfl) rfl (Ow.call e78 rfl (C.new (val := id) (φ := fun _ => True) (Ψ := fun v_ => row v_ 3 1 ((outOf D.n D.l v).length) (i64s (outOf D.n D.l v))) (fun w2 hs => ((by have h := arcsOut R.ba D v w2 (hX w2 hs.mod).2.2.ha hv; rw [hof v.toNat (by omega), show ((v.toNat : Nat) : Int) = v by omega] at h; exact h : Calls Tryz.prog _ _ w2 fun e w1 => ∃ u_, e = .returned u_ ∧ Gr w2 w1 ∧ ∃ F, (row u_ 3 1 (outOf D.n D.l v).length (i64s (outOf D.n D.l v))).holds w1 F ∧ ∀ k, F k → w2.heap.size ≤ k ∧ k < w1.heap.size)).mono (fun e w3 ⟨v_, hv_, hb, F, hF, hk_⟩ => ⟨v_, trivial, hv_, hb, F, hF, hk_⟩)))) ?_
  rintro _ _ ⟨v_o, -, rfl, rfl⟩
  refine RW.y (.inl rfl) rfl (Yv.lenRow 0 Tryz.underlying51 rfl rfl) ?_
  refine RW.facts _ (fun w h => h.row_slice 0 rfl) ?_
  rintro ⟨Aq, cq, rfl⟩
  have hol := outOf_length2 D.l v D.n
  have hmm : D.n * (2 * D.l.length) ≤ 4096 * (2 * 1048576) := Nat.mul_le_mul (by omega) (by omega)
  refine RW.y (.inl rfl) rfl (Yv.move rfl) ?_
  refine RW.nil ?_
  refine PW.go ?_
  refine CW.block ?_
  refine CW.loop (σ := Nat × (List Int × List Int) × Value) (fun s => s.1 ≤ (outOf D.n D.l v).length ∧ s.2.1 = (((((outOf D.n D.l v).take s.1).filter (fun i => decide (0 < atI (leftL D.l f) (backOf i)))).map (headOf D.l)).foldl (seeS d) (out, next)) ∧ s.2.1.1.length = D.n ∧ s.2.1.2.length ≤ next.length + s.1) (fun s => [(1, .func (.func 107) #[] #[.pointer (some ⟨b7, 0, none⟩), .pointer (some ⟨b10, 0, none⟩), .pointer (some ⟨b11, 0, none⟩)]), (2, .pointer (some ⟨b5, 0, none⟩)), (3, .pointer (some ⟨b2, 0, none⟩)), (10, .slice Aq (outOf D.n D.l v).length cq), (11, .int .i64 ((outOf D.n D.l v).length : Nat)), (12, .int .i64 (s.1 : Nat))]) (fun s => [row (.slice Aq (outOf D.n D.l v).length cq) 3 1 (outOf D.n D.l v).length (i64s (outOf D.n D.l v)), spA b7 bo b10 b11 D.n s.2.1.1 d s.2.2 s.2.1.2]) (fun s => (outOf D.n D.l v).length - s.1) (0, (out, next), vn) (⟨by simp, by simp, hlen, by simp⟩) ⟨rfl, rfl, rfl, rfl, rfl, rfl, trivial⟩ (fun w h => h) ?_
  rintro ⟨j, st, vo⟩ ⟨hj, hst, hl1, hl2⟩
  (try dsimp only at *)
  refine CW.seq ?_
  refine CW.region ?_
  refine RW.y (.inl rfl) rfl (Yv.lt rfl rfl) ?_
  refine RW.nil ?_
  refine PW.go ?_
  refine CW.seq ?_
  refine CW.condD rfl (fun hc13 => ?_) (fun hc13 => ?_)
  ·
    refine CW.skip ?_
    refine PW.go ?_
    refine CW.seq ?_
    refine CW.block ?_
    refine CW.seq ?_
    have hjl : j < (outOf D.n D.l v).length := by omega
    refine CW.facts _ (fun w h => h.row_some 0 rfl (by omega)) ?_
    rintro ⟨bq, rfl⟩
    obtain ⟨i0, hi⟩ : ∃ x, (outOf D.n D.l v)[j]? = some x := ⟨_, List.getElem?_eq_getElem hjl⟩
    obtain ⟨hi0, hi1, hit, _⟩ := outOf_mem hok (List.mem_of_getElem? hi)
    obtain ⟨i, rfl⟩ : ∃ i : Nat, i0 = i := ⟨i0.toNat, by omega⟩
    have hhr := head_rng hok hi0 hi1
    have hsl := seeS_len d st (headOf D.l (i : Int))
    have hxo : Go.bits .xor .i64 (i : Int) 1 = backOf (i : Int) := by rw [xor_one _ (by omega) (by omega)]; unfold backOf; rw [if_neg (show ¬ (i : Int) < 0 by omega)]
    refine CW.region ?_
    refine RW.y (.inl rfl) rfl (Yv.index0 Tryz.underlying51 Tryz.sizeOf3 rfl rfl (by omega) (by omega)) ?_
    refine RW.y (.inl rfl) rfl (Yv.load1 Tryz.isAgg3 rfl (CF.row 0 rfl (i64s_get _ _ _ hi))) ?_
    refine RW.y (.inl rfl) rfl (Yv.assign rfl) ?_
    refine RW.nil ?_
    refine PW.go ?_
    refine CW.seq ?_
    refine CW.region ?_
    refine RW.y (.inl rfl) rfl (Yv.load1 Tryz.isAgg29 rfl (CF.keepB (fun W hM => (hX W hM).2.1) rfl)) ?_
    refine RW.y (.inl rfl) rfl (Yv.move rfl) ?_
    refine RW.y (.inl rfl) rfl (Yv.bits rfl rfl rfl) ?_
    refine RW.o _ (.inl rfl) rfl (Ow.call e32 rfl (C.val (fun w hs => restLeftT R D _ _ (Go.bits .xor .i64 (i : Int) 1) _ (hX _ hs.mod).2.2 (a := atI (leftL D.l f) (backOf (i : Int))) (by rw [hxo])))) ?_
    rintro _ _ ⟨rfl, rfl⟩
    refine RW.y (.inl rfl) rfl (Yv.gt rfl rfl) ?_
    refine RW.nil ?_
    refine PW.go ?_
    refine CW.condD rfl (fun hc20 => ?_) (fun hc20 => ?_)
    ·
      have hca : 0 < atI (leftL D.l f) (backOf (i : Int)) := by omega
      refine CW.region ?_
      refine RW.y (.inl rfl) rfl (Yv.move rfl) ?_
      refine RW.y (.inl rfl) rfl (Yv.load1 Tryz.isAgg47 rfl (CF.keepB (fun W hM => (hX W hM).1) rfl)) ?_
      refine RW.y (.inl rfl) rfl (Yv.move rfl) ?_
      refine RW.o _ (.inl rfl) rfl (Ow.call e31 rfl (C.val (fun w hs => arcsHead R.ba D (i : Int) _ (hX _ hs.mod).2.2.ha))) ?_
      rintro _ _ ⟨rfl, rfl⟩
      refine RW.o _ (.inl rfl) rfl (Ow.callv e107 rfl rfl (C.mut (val := fun _ : Value => .tuple #[]) (Ψ := fun vn' => spA b7 bo b10 b11 D.n (seeS d st (headOf D.l (i : Int))).1 d vn' (seeS d st (headOf D.l (i : Int))).2) (φ := fun _ => True) 1 rfl (fun w2 F2 h2 h3 => spreadSee b7 bo b10 b11 D.n st.1 d vo st.2 (headOf D.l (i : Int)) (by omega) hl1 (by omega) w2 F2 h2 h3))) ?_
      rintro _ _ ⟨vo', -, rfl, rfl⟩
      refine RW.nil ?_
      refine PW.block ?_
      refine PW.go ?_
      refine CW.region ?_
      refine RW.y (.inl rfl) rfl (Yv.add rfl rfl (by omega)) ?_
      refine RW.y (.inl rfl) rfl (Yv.move rfl) ?_
      refine RW.nil ?_
      exact PW.next (j + 1, seeS d st (headOf D.l (i : Int)), vo') (⟨by show j + 1 ≤ (outOf D.n D.l v).length; omega, by show seeS d st (headOf D.l (i : Int)) = (((((outOf D.n D.l v).take (j + 1)).filter (fun i => decide (0 < atI (leftL D.l f) (backOf i)))).map (headOf D.l)).foldl (seeS d) (out, next)); rw [foldl_step (n := D.n) (fun i => decide (0 < atI (leftL D.l f) (backOf i))) d (out, next) hi, ← hst, if_pos (by simpa using hca)], by show (seeS d st (headOf D.l (i : Int))).1.length = D.n; omega, by show (seeS d st (headOf D.l (i : Int))).2.length ≤ next.length + (j + 1); omega⟩) ⟨rfl, rfl, rfl, rfl, rfl, rfl, trivial⟩ (fun w h => h) (by show (outOf D.n D.l v).length - (j + 1) < (outOf D.n D.l v).length - j; omega)
    ·
      have hca : ¬ 0 < atI (leftL D.l f) (backOf (i : Int)) := by omega
      refine CW.skip ?_
      refine PW.block ?_
      refine PW.go ?_
      refine CW.region ?_
      refine RW.y (.inl rfl) rfl (Yv.add rfl rfl (by omega)) ?_
      refine RW.y (.inl rfl) rfl (Yv.move rfl) ?_
      refine RW.nil ?_
      exact PW.next (j + 1, st, vo) (⟨by show j + 1 ≤ (outOf D.n D.l v).length; omega, by show st = (((((outOf D.n D.l v).take (j + 1)).filter (fun i => decide (0 < atI (leftL D.l f) (backOf i)))).map (headOf D.l)).foldl (seeS d) (out, next)); rw [foldl_step (n := D.n) (fun i => decide (0 < atI (leftL D.l f) (backOf i))) d (out, next) hi, ← hst, if_neg (by simpa using hca)], by show st.1.length = D.n; omega, by show st.2.length ≤ next.length + (j + 1); omega⟩) ⟨rfl, rfl, rfl, rfl, rfl, rfl, trivial⟩ (fun w h => h) (by show (outOf D.n D.l v).length - (j + 1) < (outOf D.n D.l v).length - j; omega)
  ·
    refine CW.exit ?_
    refine PW.then_exit ?_
    refine PW.then_exit ?_
    refine PW.block_exit ?_
    refine PW.end0 Tryz.results77 (fun w1 hs => ?_)
    have hfo : (outOf D.n D.l v).take j = (outOf D.n D.l v) := List.take_of_length_le (by omega)
    rw [hfo] at hst
    obtain ⟨F', h', hk⟩ := hs.outMut 1 rfl
    exact ⟨_, trivial, rfl, hs.mod, F', by unfold nbT; rw [← hst]; exact h', hk⟩

set_option maxRecDepth 100000 in
theorem onFrom (R : RI) (D : ArcsD) (f ys : List Int) (hok : ArcsOk D.n D.l) (hof : ∀ v, v < D.n → D.of v = outOf D.n D.l v) (b5 b2 : Nat) (v : Int) (hv : 0 ≤ v ∧ v < D.n) (b7 bo b10 b11 : Nat) (out next : List Int) (vn : Value) (d : Int) (hlen : out.length = D.n) (hnl : next.length ≤ D.n) (w : World) (F : Nat → Prop) (h : (spA b7 bo b10 b11 D.n out d vn next).holds w F) (hF : ∀ k, F k → k < w.heap.size) (hX : ∀ W, Mod F w W → W.heap[b5]? = some (.cells [Value.pointer (some ⟨R.ba, 0, none⟩)].toArray 47 (0, 0)) ∧ W.heap[b2]? = some (.cells [Value.pointer (some ⟨R.b, 0, none⟩)].toArray 29 (0, 0)) ∧ IsRest W R D (leftL D.l f) ys) : Calls Tryz.prog 106 #[.int .i64 v, .func (.func 107) #[] #[.pointer (some ⟨b7, 0, none⟩), .pointer (some ⟨b10, 0, none⟩), .pointer (some ⟨b11, 0, none⟩)], .pointer (some ⟨b5, 0, none⟩), .pointer (some ⟨b2, 0, none⟩)] w fun e w1 => ∃ vn' : Value, True ∧ e = .returned (.tuple #[]) ∧ Mod F w w1 ∧ ∃ F', (spA b7 bo b10 b11 D.n ((nbF D.n D.l f v).foldl (seeS d) (out, next)).1 d vn' ((nbF D.n D.l f v).foldl (seeS d) (out, next)).2).holds w1 F' ∧ ∀ k, F' k → F k ∨ (w.heap.size ≤ k ∧ k < w1.heap.size) := by
  have hml := hok.hl
  have hnn := hok.hn
  refine CW.enter (P := Tryz.prog) (F0 := F) (L := [(0, _), (1, _), (2, _), (3, _)]) 26 [spA b7 bo b10 b11 D.n out d vn next] Tryz.func106 rfl Tryz.ntmps106 (Nat.le_of_ble_eq_true rfl) (St.start1 w h hF) rfl ?_
  refine CW.seq ?_
  refine CW.region ?_
  refine RW.y (.inl rfl) rfl (Yv.load1 Tryz.isAgg47 rfl (CF.keepB (fun W hM => (hX W hM).1) rfl)) ?_
  refine RW.y (.inl rfl) rfl (Yv.move rfl) ?_
  refine RW.o _ (.inl rfl) rfl (Ow.call e78 rfl (C.new (val := id) (φ := fun _ => True) (Ψ := fun v_ => row v_ 3 1 ((outOf D.n D.l v).length) (i64s (outOf D.n D.l v))) (fun w2 hs => ((by have h := arcsOut R.ba D v w2 (hX w2 hs.mod).2.2.ha hv; rw [hof v.toNat (by omega), show ((v.toNat : Nat) : Int) = v by omega] at h; exact h : Calls Tryz.prog _ _ w2 fun e w1 => ∃ u_, e = .returned u_ ∧ Gr w2 w1 ∧ ∃ F, (row u_ 3 1 (outOf D.n D.l v).length (i64s (outOf D.n D.l v))).holds w1 F ∧ ∀ k, F k → w2.heap.size ≤ k ∧ k < w1.heap.size)).mono (fun e w3 ⟨v_, hv_, hb, F, hF, hk_⟩ => ⟨v_, trivial, hv_, hb, F, hF, hk_⟩)))) ?_
  rintro _ _ ⟨v_o, -, rfl, rfl⟩
  refine RW.y (.inl rfl) rfl (Yv.lenRow 0 Tryz.underlying51 rfl rfl) ?_
  refine RW.facts _ (fun w h => h.row_slice 0 rfl) ?_
  rintro ⟨Aq, cq, rfl⟩
  have hol := outOf_length2 D.l v D.n
  have hmm : D.n * (2 * D.l.length) ≤ 4096 * (2 * 1048576) := Nat.mul_le_mul (by omega) (by omega)
  refine RW.y (.inl rfl) rfl (Yv.move rfl) ?_
  refine RW.nil ?_
  refine PW.go ?_
  refine CW.block ?_
  refine CW.loop (σ := Nat × (List Int × List Int) × Value) (fun s => s.1 ≤ (outOf D.n D.l v).length ∧ s.2.1 = (((((outOf D.n D.l v).take s.1).filter (fun i => decide (0 < atI (leftL D.l f) i))).map (headOf D.l)).foldl (seeS d) (out, next)) ∧ s.2.1.1.length = D.n ∧ s.2.1.2.length ≤ next.length + s.1) (fun s => [(1, .func (.func 107) #[] #[.pointer (some ⟨b7, 0, none⟩), .pointer (some ⟨b10, 0, none⟩), .pointer (some ⟨b11, 0, none⟩)]), (2, .pointer (some ⟨b5, 0, none⟩)), (3, .pointer (some ⟨b2, 0, none⟩)), (10, .slice Aq (outOf D.n D.l v).length cq), (11, .int .i64 ((outOf D.n D.l v).length : Nat)), (12, .int .i64 (s.1 : Nat))]) (fun s => [row (.slice Aq (outOf D.n D.l v).length cq) 3 1 (outOf D.n D.l v).length (i64s (outOf D.n D.l v)), spA b7 bo b10 b11 D.n s.2.1.1 d s.2.2 s.2.1.2]) (fun s => (outOf D.n D.l v).length - s.1) (0, (out, next), vn) (⟨by simp, by simp, hlen, by simp⟩) ⟨rfl, rfl, rfl, rfl, rfl, rfl, trivial⟩ (fun w h => h) ?_
  rintro ⟨j, st, vo⟩ ⟨hj, hst, hl1, hl2⟩
  (try dsimp only at *)
  refine CW.seq ?_
  refine CW.region ?_
  refine RW.y (.inl rfl) rfl (Yv.lt rfl rfl) ?_
  refine RW.nil ?_
  refine PW.go ?_
  refine CW.seq ?_
  refine CW.condD rfl (fun hc13 => ?_) (fun hc13 => ?_)
  ·
    refine CW.skip ?_
    refine PW.go ?_
    refine CW.seq ?_
    refine CW.block ?_
    refine CW.seq ?_
    have hjl : j < (outOf D.n D.l v).length := by omega
    refine CW.facts _ (fun w h => h.row_some 0 rfl (by omega)) ?_
    rintro ⟨bq, rfl⟩
    obtain ⟨i0, hi⟩ : ∃ x, (outOf D.n D.l v)[j]? = some x := ⟨_, List.getElem?_eq_getElem hjl⟩
    obtain ⟨hi0, hi1, hit, _⟩ := outOf_mem hok (List.mem_of_getElem? hi)
    obtain ⟨i, rfl⟩ : ∃ i : Nat, i0 = i := ⟨i0.toNat, by omega⟩
    have hhr := head_rng hok hi0 hi1
    have hsl := seeS_len d st (headOf D.l (i : Int))
    refine CW.region ?_
    refine RW.y (.inl rfl) rfl (Yv.index0 Tryz.underlying51 Tryz.sizeOf3 rfl rfl (by omega) (by omega)) ?_
    refine RW.y (.inl rfl) rfl (Yv.load1 Tryz.isAgg3 rfl (CF.row 0 rfl (i64s_get _ _ _ hi))) ?_
    refine RW.y (.inl rfl) rfl (Yv.assign rfl) ?_
    refine RW.nil ?_
    refine PW.go ?_
    refine CW.seq ?_
    refine CW.region ?_
    refine RW.y (.inl rfl) rfl (Yv.load1 Tryz.isAgg29 rfl (CF.keepB (fun W hM => (hX W hM).2.1) rfl)) ?_
    refine RW.y (.inl rfl) rfl (Yv.move rfl) ?_
    refine RW.o _ (.inl rfl) rfl (Ow.call e32 rfl (C.val (fun w hs => restLeftT R D _ _ (i : Int) _ (hX _ hs.mod).2.2 (a := atI (leftL D.l f) ((i : Int))) (by rfl)))) ?_
    rintro _ _ ⟨rfl, rfl⟩
    refine RW.y (.inl rfl) rfl (Yv.gt rfl rfl) ?_
    refine RW.nil ?_
    refine PW.go ?_
    refine CW.condD rfl (fun hc19 => ?_) (fun hc19 => ?_)
    ·
      have hca : 0 < atI (leftL D.l f) ((i : Int)) := by omega
      refine CW.region ?_
      refine RW.y (.inl rfl) rfl (Yv.move rfl) ?_
      refine RW.y (.inl rfl) rfl (Yv.load1 Tryz.isAgg47 rfl (CF.keepB (fun W hM => (hX W hM).1) rfl)) ?_
      refine RW.y (.inl rfl) rfl (Yv.move rfl) ?_
      refine RW.o _ (.inl rfl) rfl (Ow.call e31 rfl (C.val (fun w hs => arcsHead R.ba D (i : Int) _ (hX _ hs.mod).2.2.ha))) ?_
      rintro _ _ ⟨rfl, rfl⟩
      refine RW.o _ (.inl rfl) rfl (Ow.callv e107 rfl rfl (C.mut (val := fun _ : Value => .tuple #[]) (Ψ := fun vn' => spA b7 bo b10 b11 D.n (seeS d st (headOf D.l (i : Int))).1 d vn' (seeS d st (headOf D.l (i : Int))).2) (φ := fun _ => True) 1 rfl (fun w2 F2 h2 h3 => spreadSee b7 bo b10 b11 D.n st.1 d vo st.2 (headOf D.l (i : Int)) (by omega) hl1 (by omega) w2 F2 h2 h3))) ?_
      rintro _ _ ⟨vo', -, rfl, rfl⟩
      refine RW.nil ?_
      refine PW.block ?_
      refine PW.go ?_
      refine CW.region ?_
      refine RW.y (.inl rfl) rfl (Yv.add rfl rfl (by omega)) ?_
      refine RW.y (.inl rfl) rfl (Yv.move rfl) ?_
      refine RW.nil ?_
      exact PW.next (j + 1, seeS d st (headOf D.l (i : Int)), vo') (⟨by show j + 1 ≤ (outOf D.n D.l v).length; omega, by show seeS d st (headOf D.l (i : Int)) = (((((outOf D.n D.l v).take (j + 1)).filter (fun i => decide (0 < atI (leftL D.l f) i))).map (headOf D.l)).foldl (seeS d) (out, next)); rw [foldl_step (n := D.n) (fun i => decide (0 < atI (leftL D.l f) i)) d (out, next) hi, ← hst, if_pos (by simpa using hca)], by show (seeS d st (headOf D.l (i : Int))).1.length = D.n; omega, by show (seeS d st (headOf D.l (i : Int))).2.length ≤ next.length + (j + 1); omega⟩) ⟨rfl, rfl, rfl, rfl, rfl, rfl, trivial⟩ (fun w h => h) (by show (outOf D.n D.l v).length - (j + 1) < (outOf D.n D.l v).length - j; omega)
    ·
      have hca : ¬ 0 < atI (leftL D.l f) ((i : Int)) := by omega
      refine CW.skip ?_
      refine PW.block ?_
      refine PW.go ?_
      refine CW.region ?_
      refine RW.y (.inl rfl) rfl (Yv.add rfl rfl (by omega)) ?_
      refine RW.y (.inl rfl) rfl (Yv.move rfl) ?_
      refine RW.nil ?_
      exact PW.next (j + 1, st, vo) (⟨by show j + 1 ≤ (outOf D.n D.l v).length; omega, by show st = (((((outOf D.n D.l v).take (j + 1)).filter (fun i => decide (0 < atI (leftL D.l f) i))).map (headOf D.l)).foldl (seeS d) (out, next)); rw [foldl_step (n := D.n) (fun i => decide (0 < atI (leftL D.l f) i)) d (out, next) hi, ← hst, if_neg (by simpa using hca)], by show st.1.length = D.n; omega, by show st.2.length ≤ next.length + (j + 1); omega⟩) ⟨rfl, rfl, rfl, rfl, rfl, rfl, trivial⟩ (fun w h => h) (by show (outOf D.n D.l v).length - (j + 1) < (outOf D.n D.l v).length - j; omega)
  ·
    refine CW.exit ?_
    refine PW.then_exit ?_
    refine PW.then_exit ?_
    refine PW.block_exit ?_
    refine PW.end0 Tryz.results106 (fun w1 hs => ?_)
    have hfo : (outOf D.n D.l v).take j = (outOf D.n D.l v) := List.take_of_length_le (by omega)
    rw [hfo] at hst
    obtain ⟨F', h', hk⟩ := hs.outMut 1 rfl
    exact ⟨_, trivial, rfl, hs.mod, F', by unfold nbF; rw [← hst]; exact h', hk⟩

set_option maxRecDepth 100000 in
theorem levelSpread (n : Nat) (hn : n ≤ 4096) (s : Int) (g : Nat) (cb : Array Value) (nb : Int → List Int) (hg : Enters Tryz.prog g) (hnb : ∀ v, ∀ u ∈ nb v, 0 ≤ u ∧ u < n) (w : World) (hOn : ∀ (v : Int) (w' : World) (F : Nat → Prop) (b7 bo b10 b11 : Nat) (out next : List Int) (vn : Value) (d : Int), 0 ≤ v → v < n → out.length = n → next.length ≤ n → Gr w w' → (∀ k, F k → w.heap.size ≤ k ∧ k < w'.heap.size) → (spA b7 bo b10 b11 n out d vn next).holds w' F → Calls Tryz.prog g (#[.int .i64 v, .func (.func 107) #[] #[.pointer (some ⟨b7, 0, none⟩), .pointer (some ⟨b10, 0, none⟩), .pointer (some ⟨b11, 0, none⟩)]] ++ cb) w' fun e w1 => ∃ vn' : Value, True ∧ e = .returned (.tuple #[]) ∧ Mod F w' w1 ∧ ∃ F', (spA b7 bo b10 b11 n ((nb v).foldl (seeS d) (out, next)).1 d vn' ((nb v).foldl (seeS d) (out, next)).2).holds w1 F' ∧ ∀ k, F' k → F k ∨ (w'.heap.size ≤ k ∧ k < w1.heap.size)) : Calls Tryz.prog 76 #[.int .i64 n, .int .i64 s, .func (.func g) #[] cb] w fun e w1 => ∃ x : Nat × List Int, ((0 ≤ s ∧ s < n → Dist n nb s x.2) ∧ (¬ (0 ≤ s ∧ s < n) → x.2 = List.replicate n (-1))) ∧ e = .returned (.slice (some ⟨x.1, 0, none⟩) n n) ∧ Gr w w1 ∧ ∃ F, (row (.slice (some ⟨x.1, 0, none⟩) n n) 3 1 n (i64s (x.2))).holds w1 F ∧ ∀ k, F k → w.heap.size ≤ k ∧ k < w1.heap.size := by
  refine CW.enter (P := Tryz.prog) (F0 := none0) (L := [(0, _), (1, _), (2, _)]) 56 [] Tryz.func76 rfl Tryz.ntmps76 (Nat.le_of_ble_eq_true rfl) (St.start w none0) rfl ?_
  refine CW.seq ?_
  refine CW.region ?_
  refine RW.y (.inl rfl) rfl (Yv.assign rfl) ?_
  refine RW.nil ?_
  refine PW.go ?_
  refine CW.seq ?_
  refine CW.region ?_
  refine RW.y (.inl rfl) rfl (Yv.move rfl) ?_
  refine RW.o _ (.inl rfl) rfl (Ow.make (m := n) Tryz.underlying51 info3 rfl rfl rfl (by omega) (by omega) (by omega) (by omega)) ?_
  rintro _ _ ⟨b15, rfl, rfl⟩
  refine RW.o _ (.inl rfl) rfl (Ow.alloc (cs := [_]) Tryz.zeroValue51 rfl) ?_
  rintro _ _ ⟨b7, rfl, rfl⟩
  refine RW.o _ (.inl rfl) rfl (Ow.store1 0 Tryz.sizeOf51 rfl rfl (rfl) rfl (Nat.le_of_ble_eq_true rfl)) ?_
  rintro _ _ ⟨rfl, rfl⟩
  refine RW.nil ?_
  refine PW.go ?_
  refine CW.seq ?_
  refine CW.seq ?_
  refine CW.mem _ (fun w h => h.row_eq (m' := n) (xs' := i64s (fillTo n (fun _ => -1) 0)) 1 rfl (rfl) (by rw [fillTo_zero]; simp [i64s])) ?_
  refine CW.region ?_
  refine RW.y (.inl rfl) rfl (Yv.move rfl) ?_
  refine RW.y (.inl rfl) rfl (Yv.move rfl) ?_
  refine RW.nil ?_
  refine PW.go ?_
  refine CW.block ?_
  refine CW.loop (σ := Nat) (fun k => k ≤ n) (fun k => [(0, .int .i64 n), (1, .int .i64 s), (2, .func (.func g) #[] cb), (7, .pointer (some ⟨b7, 0, none⟩)), (16, .int .i64 n), (17, .int .i64 (k : Nat))]) (fun k => [blk b7 [.slice (some ⟨b15, 0, none⟩) n n] 51, row (.slice (some ⟨b15, 0, none⟩) n n) 3 1 n (i64s (fillTo n (fun _ => -1) k))]) (fun k => n - k) 0 (by simp) ⟨rfl, rfl, rfl, rfl, rfl, rfl, trivial⟩ (fun w h => h) ?_
  intro k hk
  refine CW.seq ?_
  refine CW.region ?_
  refine RW.y (.inl rfl) rfl (Yv.lt rfl rfl) ?_
  refine RW.nil ?_
  refine PW.go ?_
  refine CW.seq ?_
  refine CW.condD rfl (fun hc18 => ?_) (fun hc18 => ?_)
  ·
    refine CW.skip ?_
    refine PW.go ?_
    refine CW.seq ?_
    refine CW.block ?_
    refine CW.seq ?_
    refine CW.region ?_
    refine RW.y (.inl rfl) rfl (Yv.move rfl) ?_
    refine RW.y (.inl rfl) rfl (Yv.assign rfl) ?_
    refine RW.nil ?_
    refine PW.go ?_
    refine CW.region ?_
    refine RW.y (.inl rfl) rfl (Yv.load1 Tryz.isAgg51 rfl (CF.blk 0 rfl rfl)) ?_
    refine RW.y (.inl rfl) rfl (Yv.move rfl) ?_
    refine RW.y (.inl rfl) rfl (Yv.index0 Tryz.underlying51 Tryz.sizeOf3 rfl rfl (by omega) (by omega)) ?_
    refine RW.o _ (.inl rfl) rfl (Ow.storeRow 1 Tryz.sizeOf3 rfl rfl (rfl) rfl (by rw [i64s_length, fillTo_length]; omega)) ?_
    rintro _ _ ⟨rfl, rfl⟩
    refine RW.nil ?_
    refine PW.block ?_
    refine PW.go ?_
    refine CW.region ?_
    refine RW.y (.inl rfl) rfl (Yv.add rfl rfl (by omega)) ?_
    refine RW.y (.inl rfl) rfl (Yv.move rfl) ?_
    refine RW.nil ?_
    refine PW.mem _ (fun w h => h.row_eq (m' := n) (xs' := i64s (fillTo n (fun _ => -1) (k + 1))) 1 rfl (rfl) (by rw [← fillTo_succ]; exact i64s_set _ _ _)) ?_
    exact PW.next (k + 1) (by omega) ⟨rfl, rfl, rfl, rfl, rfl, rfl, trivial⟩ (fun w h => h) (by omega)
  ·
    refine CW.exit ?_
    refine PW.then_exit ?_
    refine PW.then_exit ?_
    refine PW.block_exit ?_
    refine PW.go ?_
    refine CW.seq ?_
    refine CW.seq ?_
    refine CW.mem _ (fun w h => h.row_eq (m' := n) (xs' := i64s (List.replicate n (-1))) 1 rfl (rfl) (by rw [show k = n by omega, fill_neg])) ?_
    refine CW.region ?_
    refine RW.y (.inl rfl) rfl (Yv.move rfl) ?_
    refine RW.y (.inl rfl) rfl (Yv.lt rfl rfl) ?_
    refine RW.y (.inl rfl) rfl (Yv.move rfl) ?_
    refine RW.splitD 26 rfl (fun hc26 => ?_) (fun hc26 => ?_)
    ·
      refine RW.no ⟨_, _, 26, _, rfl, rfl, rfl, fun h => by simp [undef] at h⟩ rfl ?_
      refine RW.no ⟨_, _, 26, _, rfl, rfl, rfl, fun h => by simp [undef] at h⟩ rfl ?_
      refine RW.no ⟨_, _, 26, _, rfl, rfl, rfl, fun h => by simp [undef] at h⟩ rfl ?_
      refine RW.y (.inl rfl) rfl (Yv.pickT rfl rfl) ?_
      refine RW.nil ?_
      refine PW.go ?_
      refine CW.condT rfl ?_
      refine CW.seq ?_
      refine CW.region ?_
      refine RW.y (.inl rfl) rfl (Yv.load1 Tryz.isAgg51 rfl (CF.blk 0 rfl rfl)) ?_
      refine RW.y (.inl rfl) rfl (Yv.assign rfl) ?_
      refine RW.nil ?_
      refine PW.go ?_
      refine CW.ret ?_
      refine PW.then_ret ?_
      refine PW.ret1 Tryz.results76 rfl (fun w1 hs => ?_)
      obtain ⟨F, hF, hk⟩ := hs.out 1 rfl
      exact ⟨(b15, List.replicate n (-1)), ⟨fun h => absurd h (by omega), fun _ => rfl⟩, rfl, hs.mod.below, F, hF, hk⟩
    ·
      refine RW.y (.inr ⟨_, _, 26, rfl, rfl, rfl⟩) rfl (Yv.move rfl) ?_
      refine RW.y (.inr ⟨_, _, 26, rfl, rfl, rfl⟩) rfl (Yv.move rfl) ?_
      refine RW.y (.inr ⟨_, _, 26, rfl, rfl, rfl⟩) rfl (Yv.ge rfl rfl) ?_
      refine RW.y (.inl rfl) rfl (Yv.pickF rfl rfl) ?_
      refine RW.nil ?_
      refine PW.go ?_
      refine CW.condD rfl (fun hc30 => ?_) (fun hc30 => ?_)
      ·
        refine CW.seq ?_
        refine CW.region ?_
        refine RW.y (.inl rfl) rfl (Yv.load1 Tryz.isAgg51 rfl (CF.blk 0 rfl rfl)) ?_
        refine RW.y (.inl rfl) rfl (Yv.assign rfl) ?_
        refine RW.nil ?_
        refine PW.go ?_
        refine CW.ret ?_
        refine PW.then_ret ?_
        refine PW.ret1 Tryz.results76 rfl (fun w1 hs => ?_)
        obtain ⟨F, hF, hk⟩ := hs.out 1 rfl
        exact ⟨(b15, List.replicate n (-1)), ⟨fun h => absurd h (by omega), fun _ => rfl⟩, rfl, hs.mod.below, F, hF, hk⟩
      ·
        refine CW.skip ?_
        refine PW.go ?_
        refine CW.seq ?_
        refine CW.region ?_
        refine RW.y (.inl rfl) rfl (Yv.load1 Tryz.isAgg51 rfl (CF.blk 0 rfl rfl)) ?_
        refine RW.y (.inl rfl) rfl (Yv.move rfl) ?_
        refine RW.y (.inl rfl) rfl (Yv.index0 Tryz.underlying51 Tryz.sizeOf3 rfl rfl (by omega) (by omega)) ?_
        refine RW.o _ (.inl rfl) rfl (Ow.storeRow 1 Tryz.sizeOf3 rfl rfl (rfl) rfl (by rw [i64s_length, List.length_replicate]; omega)) ?_
        rintro _ _ ⟨rfl, rfl⟩
        refine RW.nil ?_
        refine PW.go ?_
        refine CW.seq ?_
        refine CW.mem _ (fun w h => h.row_eq (m' := n) (xs' := i64s ((List.replicate n (-1)).set s.toNat 0)) 1 rfl (rfl) (i64s_set _ _ _)) ?_
        obtain ⟨hlv, hlc⟩ := lv_start nb (n := n) (s := s) ⟨by omega, by omega⟩
        refine CW.region ?_
        refine RW.y (.inl rfl) rfl (Yv.move rfl) ?_
        refine RW.o _ (.inl rfl) rfl (Ow.lit (len := 1) (vs := [_]) (cs := [_]) Tryz.underlying51 info3 rfl rfl rfl rfl rfl rfl rfl) ?_
        rintro _ _ ⟨b36, rfl, rfl⟩
        refine RW.y (.inl rfl) rfl (Yv.assign rfl) ?_
        refine RW.nil ?_
        refine PW.go ?_
        refine CW.seq ?_
        refine CW.seq ?_
        refine CW.mem _ (fun w h => h.rowOf (s := 1) (m := 1) 0 rfl (rfl) (by omega)) ?_
        refine CW.region ?_
        refine RW.o _ (.inl rfl) rfl (Ow.alloc (cs := [_]) Tryz.zeroValue3 rfl) ?_
        rintro _ _ ⟨b10, rfl, rfl⟩
        refine RW.o _ (.inl rfl) rfl (Ow.store1 0 Tryz.sizeOf3 rfl rfl (rfl) rfl (Nat.le_of_ble_eq_true rfl)) ?_
        rintro _ _ ⟨rfl, rfl⟩
        refine RW.nil ?_
        refine PW.go ?_
        refine CW.block ?_
        refine CW.loop (σ := List Int × List Int × Value × Int × Nat) (fun q => Lv n nb s q.1 q.2.2.2.1 q.2.1 [] [] (cntS q.1) ∧ q.2.2.2.1 ≤ (cntS q.1 : Nat) + 1 ∧ (0 < q.2.1.length → q.2.2.2.1 ≤ (cntS q.1 : Nat)) ∧ q.2.1.length ≤ n) (fun q => [(2, .func (.func g) #[] cb), (7, .pointer (some ⟨b7, 0, none⟩)), (9, q.2.2.1), (10, .pointer (some ⟨q.2.2.2.2, 0, none⟩))]) (fun q => [blk q.2.2.2.2 [.int .i64 q.2.2.2.1] 3, row (q.2.2.1) 3 1 (q.2.1).length (i64s (q.2.1)), blk b7 [.slice (some ⟨b15, 0, none⟩) n n] 51, row (.slice (some ⟨b15, 0, none⟩) n n) 3 1 n (i64s (q.1))]) (fun q => muL n (cntS q.1) q.2.1.length) ((List.replicate n (-1)).set s.toNat 0, [s], .slice (some ⟨b36, 0, none⟩) 1 1, 1, b10) (⟨by rw [hlc]; exact hlv, by show (1 : Int) ≤ _; rw [hlc]; omega, fun _ => by show (1 : Int) ≤ _; rw [hlc]; omega, by show 1 ≤ n; omega⟩) ⟨rfl, rfl, rfl, rfl, trivial⟩ (fun w h => h) ?_
        rintro ⟨out, now, vw, d, b10⟩ ⟨hL, hd1, hd2, hnwn⟩
        (try dsimp only at *)
        have hcl := cntS_le out
        have holen := hL.len
        have hd0 := hL.d1
        refine CW.seq ?_
        refine CW.seq ?_
        refine CW.region ?_
        refine RW.y (.inl rfl) rfl (Yv.move rfl) ?_
        refine RW.y (.inl rfl) rfl (Yv.lenRow 1 Tryz.underlying51 rfl rfl) ?_
        refine RW.y (.inl rfl) rfl (Yv.gt rfl rfl) ?_
        refine RW.nil ?_
        refine PW.go ?_
        refine CW.condD rfl (fun hc39 => ?_) (fun hc39 => ?_)
        ·
          refine CW.skip ?_
          refine PW.go ?_
          refine CW.seq ?_
          refine CW.block ?_
          refine CW.seq ?_
          have hnw : 0 < now.length := by omega
          refine CW.region ?_
          refine RW.o _ (.inl rfl) rfl (Ow.alloc (cs := [_]) Tryz.zeroValue51 rfl) ?_
          rintro _ _ ⟨b11, rfl, rfl⟩
          refine RW.nil ?_
          refine PW.go ?_
          refine CW.seq ?_
          refine CW.seq ?_
          refine CW.facts _ (fun w h => h.row_slice 2 rfl) ?_
          rintro ⟨Aw, cw, rfl⟩
          refine CW.mem _ (fun w h => h.emptyRow 3 1) ?_
          refine CW.mem _ (fun w h => h.front 4 rfl) ?_
          refine CW.mem _ (fun w h => h.front 5 rfl) ?_
          refine CW.mem _ (fun w h => h.front 4 rfl) ?_
          refine CW.mem _ (fun w h => h.front 3 rfl) ?_
          refine CW.mem _ (fun w h => h.front 4 rfl) ?_
          refine CW.mem _ (fun w h => spShut (next := []) h) ?_
          refine CW.region ?_
          refine RW.y (.inl rfl) rfl (Yv.move rfl) ?_
          refine RW.y (.inl rfl) rfl (Yv.lenRow 1 Tryz.underlying51 rfl rfl) ?_
          refine RW.y (.inl rfl) rfl (Yv.move rfl) ?_
          refine RW.nil ?_
          refine PW.go ?_
          refine CW.block ?_
          refine CW.loop (σ := Nat × (List Int × List Int) × Value) (fun q => q.1 ≤ now.length ∧ Lv n nb s q.2.1.1 d now q.2.1.2 (now.take q.1) (cntS out)) (fun q => [(2, .func (.func g) #[] cb), (7, .pointer (some ⟨b7, 0, none⟩)), (10, .pointer (some ⟨b10, 0, none⟩)), (11, .pointer (some ⟨b11, 0, none⟩)), (42, .slice Aw now.length cw), (43, .int .i64 (now.length : Nat)), (44, .int .i64 (q.1 : Nat))]) (fun q => [spA b7 b15 b10 b11 n q.2.1.1 d q.2.2 q.2.1.2, row (.slice Aw now.length cw) 3 1 (now).length (i64s (now))]) (fun q => now.length - q.1) (0, (out, []), .slice none 0 0) (⟨by simp, by simpa using hL⟩) ⟨rfl, rfl, rfl, rfl, rfl, rfl, rfl, trivial⟩ (fun w h => h) ?_
          rintro ⟨q, st, vq⟩ ⟨hq, hLq⟩
          (try dsimp only at *)
          have hct := hLq.ct
          have hcl2 := cntS_le st.1
          have hstl := hLq.len
          refine CW.seq ?_
          refine CW.region ?_
          refine RW.y (.inl rfl) rfl (Yv.lt rfl rfl) ?_
          refine RW.nil ?_
          refine PW.go ?_
          refine CW.seq ?_
          refine CW.condD rfl (fun hc45 => ?_) (fun hc45 => ?_)
          ·
            refine CW.skip ?_
            refine PW.go ?_
            refine CW.seq ?_
            refine CW.block ?_
            refine CW.seq ?_
            have hqn : q < now.length := by omega
            refine CW.facts _ (fun w h => h.row_some 1 rfl (by omega)) ?_
            rintro ⟨bw, rfl⟩
            obtain ⟨v, hv⟩ : ∃ x, now[q]? = some x := ⟨_, List.getElem?_eq_getElem hqn⟩
            have hvm := List.mem_of_getElem? hv
            have hvd := (hL.now v).1 hvm
            have hvr : 0 ≤ v ∧ v < n := by
              refine Classical.byContradiction fun h => ?_
              rw [oAt_out (by omega)] at hvd; omega
            refine CW.region ?_
            refine RW.y (.inl rfl) rfl (Yv.index0 Tryz.underlying51 Tryz.sizeOf3 rfl rfl (by omega) (by omega)) ?_
            refine RW.y (.inl rfl) rfl (Yv.load1 Tryz.isAgg3 rfl (CF.row 1 rfl (i64s_get _ _ _ hv))) ?_
            refine RW.y (.inl rfl) rfl (Yv.assign rfl) ?_
            refine RW.nil ?_
            refine PW.go ?_
            refine CW.region ?_
            refine RW.y (.inl rfl) rfl (Yv.move rfl) ?_
            refine RW.y (.inl rfl) rfl (Yv.move rfl) ?_
            refine RW.y (.inl rfl) rfl (Yv.makeFunc rfl) ?_
            refine RW.o _ (.inl rfl) rfl (Ow.callv hg rfl rfl (C.mutH (val := fun _ : Value => .tuple #[]) (Ψ := fun vq' => spA b7 b15 b10 b11 n ((nb v).foldl (seeS d) st).1 d vq' ((nb v).foldl (seeS d) st).2) (φ := fun _ => True) 0 rfl (fun w2 F2 hs h2 h3 => hOn v w2 F2 b7 b15 b10 b11 st.1 st.2 vq d hvr.1 hvr.2 hstl (by omega) hs.mod.below (fun k hk => ⟨((h3 k hk).1).elim (fun h => h.elim) id, (h3 k hk).2⟩) h2))) ?_
            rintro _ _ ⟨vq', -, rfl, rfl⟩
            refine RW.nil ?_
            refine PW.block ?_
            refine PW.go ?_
            refine CW.region ?_
            refine RW.y (.inl rfl) rfl (Yv.add rfl rfl (by omega)) ?_
            refine RW.y (.inl rfl) rfl (Yv.move rfl) ?_
            refine RW.nil ?_
            exact PW.next (q + 1, (nb v).foldl (seeS d) st, vq') (⟨by show q + 1 ≤ now.length; omega, by show Lv _ _ _ _ _ _ _ (now.take (q + 1)) _; rw [take_snocN hv]; exact hLq.vertex hvm (hnb v)⟩) ⟨rfl, rfl, rfl, rfl, rfl, rfl, rfl, trivial⟩ (fun w h => h) (by show now.length - (q + 1) < now.length - q; omega)
          ·
            refine CW.exit ?_
            refine PW.then_exit ?_
            refine PW.then_exit ?_
            refine PW.block_exit ?_
            refine PW.go ?_
            have hqe : now.take q = now := List.take_of_length_le (by omega)
            rw [hqe] at hLq
            have hLr := hLq.round
            refine CW.mem _ (fun w h => spOpen h) ?_
            refine CW.region ?_
            refine RW.y (.inl rfl) rfl (Yv.load1 Tryz.isAgg51 rfl (CF.blk 0 rfl rfl)) ?_
            refine RW.y (.inl rfl) rfl (Yv.assign rfl) ?_
            refine RW.nil ?_
            refine PW.block ?_
            refine PW.go ?_
            refine CW.seq ?_
            refine CW.seq ?_
            refine CW.region ?_
            refine RW.y (.inl rfl) rfl (Yv.load1 Tryz.isAgg3 rfl (CF.blk 2 rfl rfl)) ?_
            refine RW.nil ?_
            refine PW.go ?_
            refine CW.region ?_
            refine RW.o _ (.inl rfl) rfl (Ow.alloc (cs := [_]) Tryz.zeroValue3 rfl) ?_
            rintro _ _ ⟨b10n, rfl, rfl⟩
            refine RW.o _ (.inl rfl) rfl (Ow.store1 0 Tryz.sizeOf3 rfl rfl (rfl) rfl (Nat.le_of_ble_eq_true rfl)) ?_
            rintro _ _ ⟨rfl, rfl⟩
            refine RW.nil ?_
            refine PW.go ?_
            refine CW.region ?_
            refine RW.y (.inl rfl) rfl (Yv.load1 Tryz.isAgg3 rfl (CF.blk 0 rfl rfl)) ?_
            refine RW.y (.inl rfl) rfl (Yv.add rfl rfl (by omega)) ?_
            refine RW.o _ (.inl rfl) rfl (Ow.store1 0 Tryz.sizeOf3 rfl rfl (rfl) rfl (Nat.le_of_ble_eq_true rfl)) ?_
            rintro _ _ ⟨rfl, rfl⟩
            refine RW.nil ?_
            refine PW.mem _ (fun w h => h.erase 6) ?_
            refine PW.mem _ (fun w h => h.erase 3) ?_
            refine PW.mem _ (fun w h => h.erase 1) ?_
            refine PW.mem _ (fun w h => h.front 2 rfl) ?_
            refine PW.mem _ (fun w h => h.front 3 rfl) ?_
            refine PW.mem _ (fun w h => h.front 3 rfl) ?_
            refine PW.mem _ (fun w h => h.front 3 rfl) ?_
            exact PW.next (st.1, st.2, vq, d + 1, b10n) (⟨hLr, by show d + 1 ≤ (cntS st.1 : Nat) + 1; omega, fun h => by show d + 1 ≤ (cntS st.1 : Nat); have h' : 0 < st.2.length := h; omega, by show st.2.length ≤ n; omega⟩) ⟨rfl, rfl, rfl, rfl, trivial⟩ (fun w h => h) (by show muL n (cntS st.1) st.2.length < muL n (cntS out) now.length; rw [hct]; exact muL_lt hnw (by omega))
        ·
          refine CW.exit ?_
          refine PW.then_exit ?_
          refine PW.then_exit ?_
          refine PW.block_exit ?_
          refine PW.go ?_
          refine CW.seq ?_
          have hne : now = [] := List.eq_nil_of_length_eq_zero (by omega)
          subst hne
          refine CW.region ?_
          refine RW.y (.inl rfl) rfl (Yv.load1 Tryz.isAgg51 rfl (CF.blk 2 rfl rfl)) ?_
          refine RW.y (.inl rfl) rfl (Yv.assign rfl) ?_
          refine RW.nil ?_
          refine PW.go ?_
          refine CW.ret ?_
          refine PW.ret1 Tryz.results76 rfl (fun w1 hs => ?_)
          obtain ⟨F, hF, hk⟩ := hs.out 3 rfl
          exact ⟨(b15, out), ⟨fun _ => hL.dist (by omega), fun h => absurd ⟨by omega, by omega⟩ h⟩, rfl, hs.mod.below, F, hF, hk⟩

set_option maxRecDepth 100000 in
theorem levelTo (R : RI) (D : ArcsD) (f ys : List Int) (hok : ArcsOk D.n D.l) (hof : ∀ v, v < D.n → D.of v = outOf D.n D.l v) (s : Int) (w : World) (hR : IsRest w R D (leftL D.l f) ys) : Calls Tryz.prog 29 #[.pointer (some ⟨R.b, 0, none⟩), .int .i64 s] w fun e w1 => ∃ x : Nat × List Int, ((0 ≤ s ∧ s < D.n → Dist D.n (nbT D.n D.l f) s x.2) ∧ (¬ (0 ≤ s ∧ s < D.n) → x.2 = List.replicate D.n (-1))) ∧ e = .returned (.slice (some ⟨x.1, 0, none⟩) D.n D.n) ∧ Gr w w1 ∧ ∃ F, (row (.slice (some ⟨x.1, 0, none⟩) D.n D.n) 3 1 D.n (i64s (x.2))).holds w1 F ∧ ∀ k, F k → w.heap.size ≤ k ∧ k < w1.heap.size := by
  refine CW.enter (P := Tryz.prog) (F0 := none0) (L := [(0, _), (1, _)]) 13 [] Tryz.func29 rfl Tryz.ntmps29 (Nat.le_of_ble_eq_true rfl) (St.start w none0) rfl ?_
  refine CW.seq ?_
  refine CW.region ?_
  refine RW.o _ (.inl rfl) rfl (Ow.box (cs := [_]) rfl rfl) ?_
  rintro _ _ ⟨b2, rfl, rfl⟩
  refine RW.y (.inl rfl) rfl (Yv.assign rfl) ?_
  refine RW.nil ?_
  refine PW.go ?_
  refine CW.seq ?_
  refine CW.region ?_
  refine RW.y (.inl rfl) rfl (Yv.load1 Tryz.isAgg29 rfl (CF.blk 0 rfl rfl)) ?_
  refine RW.o _ (.inl rfl) rfl (Ow.call e15 rfl (C.val (fun w hs => restArcs R D.n _ _ (hR.below hs.mod.below).hb))) ?_
  rintro _ _ ⟨rfl, rfl⟩
  refine RW.o _ (.inl rfl) rfl (Ow.alloc (cs := [_]) Tryz.zeroValue47 rfl) ?_
  rintro _ _ ⟨b5, rfl, rfl⟩
  refine RW.o _ (.inl rfl) rfl (Ow.store1 0 Tryz.sizeOf47 rfl rfl (rfl) rfl (Nat.le_of_ble_eq_true rfl)) ?_
  rintro _ _ ⟨rfl, rfl⟩
  refine RW.nil ?_
  refine PW.go ?_
  refine CW.seq ?_
  refine CW.region ?_
  refine RW.y (.inl rfl) rfl (Yv.load1 Tryz.isAgg47 rfl (CF.blk 0 rfl rfl)) ?_
  refine RW.o _ (.inl rfl) rfl (Ow.call e42 rfl (C.val (fun w hs => arcsN R.ba D _ (hR.below hs.mod.below).ha))) ?_
  rintro _ _ ⟨rfl, rfl⟩
  refine RW.y (.inl rfl) rfl (Yv.move rfl) ?_
  refine RW.y (.inl rfl) rfl (Yv.makeFunc rfl) ?_
  refine RW.o _ (.inl rfl) rfl (Ow.call e76 rfl (C.new (val := fun (x : Nat × List Int) => .slice (some ⟨x.1, 0, none⟩) D.n D.n) (φ := fun x => ((0 ≤ s ∧ s < D.n → Dist D.n (nbT D.n D.l f) s x.2) ∧ (¬ (0 ≤ s ∧ s < D.n) → x.2 = List.replicate D.n (-1)))) (Ψ := fun x => row (.slice (some ⟨x.1, 0, none⟩) D.n D.n) 3 1 D.n (i64s (x.2))) (fun w2 hs => levelSpread D.n hok.hn s _ #[.pointer (some ⟨b5, 0, none⟩), .pointer (some ⟨b2, 0, none⟩)] (nbT D.n D.l f) e77 (nbT_rng hok f) w2 (fun v w' F b7 bo b10 b11 out next vn d hv0 hv1 hlen hnl hg hF h => onTo R D f ys hok hof b5 b2 v ⟨hv0, hv1⟩ b7 bo b10 b11 out next vn d hlen hnl w' F h (fun k hk => (hF k hk).2) (fun W hM => (fun hG : Gr w2 W => ⟨by rw [hG.block b5 (Array.getElem?_eq_some_iff.1 (blk_at (hs.hold 0 _ rfl))).1]; exact blk_at (hs.hold 0 _ rfl), by rw [hG.block b2 (Array.getElem?_eq_some_iff.1 (blk_at (hs.hold 1 _ rfl))).1]; exact blk_at (hs.hold 1 _ rfl), (hR.below hs.mod.below).below hG⟩) (hg.modOut hM (fun k hk => (hF k hk).1))))))) ?_
  rintro _ _ ⟨⟨bx, out⟩, hx, rfl, rfl⟩
  refine RW.y (.inl rfl) rfl (Yv.assign rfl) ?_
  refine RW.nil ?_
  refine PW.go ?_
  refine CW.ret ?_
  refine PW.ret1 Tryz.results29 rfl (fun w1 hs => ?_)
  obtain ⟨F, hF, hk⟩ := hs.out 0 rfl
  exact ⟨(bx, out), hx, rfl, hs.mod.below, F, hF, hk⟩

set_option maxRecDepth 100000 in
theorem levelFrom (R : RI) (D : ArcsD) (f ys : List Int) (hok : ArcsOk D.n D.l) (hof : ∀ v, v < D.n → D.of v = outOf D.n D.l v) (s : Int) (w : World) (hR : IsRest w R D (leftL D.l f) ys) : Calls Tryz.prog 75 #[.pointer (some ⟨R.b, 0, none⟩), .int .i64 s] w fun e w1 => ∃ x : Nat × List Int, ((0 ≤ s ∧ s < D.n → Dist D.n (nbF D.n D.l f) s x.2) ∧ (¬ (0 ≤ s ∧ s < D.n) → x.2 = List.replicate D.n (-1))) ∧ e = .returned (.slice (some ⟨x.1, 0, none⟩) D.n D.n) ∧ Gr w w1 ∧ ∃ F, (row (.slice (some ⟨x.1, 0, none⟩) D.n D.n) 3 1 D.n (i64s (x.2))).holds w1 F ∧ ∀ k, F k → w.heap.size ≤ k ∧ k < w1.heap.size := by
  refine CW.enter (P := Tryz.prog) (F0 := none0) (L := [(0, _), (1, _)]) 13 [] Tryz.func75 rfl Tryz.ntmps75 (Nat.le_of_ble_eq_true rfl) (St.start w none0) rfl ?_
  refine CW.seq ?_
  refine CW.region ?_
  refine RW.o _ (.inl rfl) rfl (Ow.box (cs := [_]) rfl rfl) ?_
  rintro _ _ ⟨b2, rfl, rfl⟩
  refine RW.y (.inl rfl) rfl (Yv.assign rfl) ?_
  refine RW.nil ?_
  refine PW.go ?_
  refine CW.seq ?_
  refine CW.region ?_
  refine RW.y (.inl rfl) rfl (Yv.load1 Tryz.isAgg29 rfl (CF.blk 0 rfl rfl)) ?_
  refine RW.o _ (.inl rfl) rfl (Ow.call e15 rfl (C.val (fun w hs => restArcs R D.n _ _ (hR.below hs.mod.below).hb))) ?_
  rintro _ _ ⟨rfl, rfl⟩
  refine RW.o _ (.inl rfl) rfl (Ow.alloc (cs := [_]) Tryz.zeroValue47 rfl) ?_
  rintro _ _ ⟨b5, rfl, rfl⟩
  refine RW.o _ (.inl rfl) rfl (Ow.store1 0 Tryz.sizeOf47 rfl rfl (rfl) rfl (Nat.le_of_ble_eq_true rfl)) ?_
  rintro _ _ ⟨rfl, rfl⟩
  refine RW.nil ?_
  refine PW.go ?_
  refine CW.seq ?_
  refine CW.region ?_
  refine RW.y (.inl rfl) rfl (Yv.load1 Tryz.isAgg47 rfl (CF.blk 0 rfl rfl)) ?_
  refine RW.o _ (.inl rfl) rfl (Ow.call e42 rfl (C.val (fun w hs => arcsN R.ba D _ (hR.below hs.mod.below).ha))) ?_
  rintro _ _ ⟨rfl, rfl⟩
  refine RW.y (.inl rfl) rfl (Yv.move rfl) ?_
  refine RW.y (.inl rfl) rfl (Yv.makeFunc rfl) ?_
  refine RW.o _ (.inl rfl) rfl (Ow.call e76 rfl (C.new (val := fun (x : Nat × List Int) => .slice (some ⟨x.1, 0, none⟩) D.n D.n) (φ := fun x => ((0 ≤ s ∧ s < D.n → Dist D.n (nbF D.n D.l f) s x.2) ∧ (¬ (0 ≤ s ∧ s < D.n) → x.2 = List.replicate D.n (-1)))) (Ψ := fun x => row (.slice (some ⟨x.1, 0, none⟩) D.n D.n) 3 1 D.n (i64s (x.2))) (fun w2 hs => levelSpread D.n hok.hn s _ #[.pointer (some ⟨b5, 0, none⟩), .pointer (some ⟨b2, 0, none⟩)] (nbF D.n D.l f) e106 (nbF_rng hok f) w2 (fun v w' F b7 bo b10 b11 out next vn d hv0 hv1 hlen hnl hg hF h => onFrom R D f ys hok hof b5 b2 v ⟨hv0, hv1⟩ b7 bo b10 b11 out next vn d hlen hnl w' F h (fun k hk => (hF k hk).2) (fun W hM => (fun hG : Gr w2 W => ⟨by rw [hG.block b5 (Array.getElem?_eq_some_iff.1 (blk_at (hs.hold 0 _ rfl))).1]; exact blk_at (hs.hold 0 _ rfl), by rw [hG.block b2 (Array.getElem?_eq_some_iff.1 (blk_at (hs.hold 1 _ rfl))).1]; exact blk_at (hs.hold 1 _ rfl), (hR.below hs.mod.below).below hG⟩) (hg.modOut hM (fun k hk => (hF k hk).1))))))) ?_
  rintro _ _ ⟨⟨bx, out⟩, hx, rfl, rfl⟩
  refine RW.y (.inl rfl) rfl (Yv.assign rfl) ?_
  refine RW.nil ?_
  refine PW.go ?_
  refine CW.ret ?_
  refine PW.ret1 Tryz.results75 rfl (fun w1 hs => ?_)
  obtain ⟨F, hF, hk⟩ := hs.out 0 rfl
  exact ⟨(bx, out), hx, rfl, hs.mod.below, F, hF, hk⟩

end Go.Proofs.YtipoblpnkkcpgaaGreat
