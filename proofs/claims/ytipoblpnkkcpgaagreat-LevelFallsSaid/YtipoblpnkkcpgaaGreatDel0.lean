/- Walks, written by a program of this session (gen.py) out of a spec. -/
import Derived.Test.YtipoblpnkkcpgaaGreatCmp0
set_option linter.unusedVariables false
set_option linter.unusedSimpArgs false
namespace Go.Proofs.YtipoblpnkkcpgaaGreat
open Go Go.RowKit Go.Proofs.YtipoblpnkkcpgaaGreat.B

theorem cellsE_take (m : List Edg) (i : Nat) : (cellsE m).take (i * 3) = cellsE (m.take i) := by
  have h : cellsE m = cellsE (m.take i) ++ cellsE (m.drop i) := by rw [← cellsE_append, List.take_append_drop]
  rw [h]
  rcases Nat.lt_or_ge i m.length with hi | hi
  · have hl : (cellsE (m.take i)).length = i * 3 := by rw [cellsE_length, List.length_take]; omega
    rw [← hl, List.take_left]
  · rw [List.take_of_length_le hi, List.drop_eq_nil_of_le hi, show cellsE [] = [] from rfl, List.append_nil, List.take_of_length_le (by rw [cellsE_length]; omega)]
theorem cellsE_drop (m : List Edg) (i : Nat) : (cellsE m).drop (i * 3) = cellsE (m.drop i) := by
  have h : cellsE m = cellsE (m.take i) ++ cellsE (m.drop i) := by rw [← cellsE_append, List.take_append_drop]
  rcases Nat.lt_or_ge i m.length with hi | hi
  · have hl : (cellsE (m.take i)).length = i * 3 := by rw [cellsE_length, List.length_take]; omega
    rw [h, ← hl, List.drop_left]
  · rw [List.drop_eq_nil_of_le hi, show cellsE [] = [] from rfl, List.drop_eq_nil_of_le (by rw [cellsE_length]; omega)]
theorem cellsE_set (m : List Edg) (i : Nat) (x : Edg) (h : i < m.length) : putAt (cellsE m) (encE x) (i * 3) = cellsE (m.set i x) := by
  unfold putAt
  rw [cellsE_take, show i * 3 + (encE x).length = (i + 1) * 3 by simp [encE]; omega, cellsE_drop, List.set_eq_take_append_cons_drop, if_pos h, cellsE_append]
  simp [cellsE]
structure DelOk (p : Edg → Bool) (l m : List Edg) (k : Nat) : Prop where
  hk : k ≤ l.length
  hm : m.length = l.length
  ht : m.take ((l.take k).filter (fun x => !p x)).length = (l.take k).filter (fun x => !p x)
  hd : m.drop k = l.drop k
  hlt : ((l.take k).filter (fun x => !p x)).length < k
theorem DelOk.get {p : Edg → Bool} {l m : List Edg} {k : Nat} (h : DelOk p l m k) {x : Edg} (hx : l[k]? = some x) : m[k]? = some x := by
  have h1 : (m.drop k)[0]? = (l.drop k)[0]? := by rw [h.hd]
  simpa [hx] using h1
theorem DelOk.keep {p : Edg → Bool} {l m : List Edg} {k : Nat} (h : DelOk p l m k) {x : Edg} (hx : l[k]? = some x) (hp : p x = false) :
    ((l.take (k + 1)).filter (fun x => !p x)).length = ((l.take k).filter (fun x => !p x)).length + 1 ∧ DelOk p l (m.set ((l.take k).filter (fun x => !p x)).length x) (k + 1) := by
  have hkl := (List.getElem?_eq_some_iff.1 hx).1
  have hlt := h.hlt
  have hm := h.hm
  have e1 : (l.take (k + 1)).filter (fun x => !p x) = (l.take k).filter (fun x => !p x) ++ [x] := by rw [filter_snoc hx, if_pos (by simp [hp])]
  have e2 : ((l.take (k + 1)).filter (fun x => !p x)).length = ((l.take k).filter (fun x => !p x)).length + 1 := by rw [e1]; simp
  refine ⟨e2, by omega, by simp [h.hm], ?_, ?_, by omega⟩
  · rw [e2, e1]
    rw [List.take_add_one, List.take_set_of_le (Nat.le_refl _), h.ht, List.getElem?_set_self (by omega)]; rfl
  · rw [List.drop_set_of_lt (by omega), ← List.drop_drop, h.hd, List.drop_drop]
theorem DelOk.skip {p : Edg → Bool} {l m : List Edg} {k : Nat} (h : DelOk p l m k) {x : Edg} (hx : l[k]? = some x) (hp : p x = true) :
    (l.take (k + 1)).filter (fun x => !p x) = (l.take k).filter (fun x => !p x) ∧ DelOk p l m (k + 1) := by
  have hkl := (List.getElem?_eq_some_iff.1 hx).1
  have hlt := h.hlt
  have e1 : (l.take (k + 1)).filter (fun x => !p x) = (l.take k).filter (fun x => !p x) := by rw [filter_snoc hx, if_neg (by simp [hp]), List.append_nil]
  refine ⟨e1, by omega, h.hm, by rw [e1]; exact h.ht, ?_, by rw [e1]; omega⟩
  rw [← List.drop_drop, h.hd, List.drop_drop]
theorem filter_all_keep {p : Edg → Bool} {l : List Edg} (h : ∀ x ∈ l, p x = false) : l.filter (fun x => !p x) = l := List.filter_eq_self.2 (fun x hx => by simp [h x hx])
theorem DelOk.start {p : Edg → Bool} {l : List Edg} {k : Nat} {x : Edg} (hx : l[k]? = some x) (hp : p x = true) (ha : ∀ y ∈ l.take k, p y = false) :
    ((l.take (k + 1)).filter (fun x => !p x)).length = k ∧ DelOk p l l (k + 1) := by
  have hkl := (List.getElem?_eq_some_iff.1 hx).1
  have e1 : (l.take (k + 1)).filter (fun x => !p x) = l.take k := by rw [filter_snoc hx, if_neg (by simp [hp]), List.append_nil, filter_all_keep ha]
  have e2 : ((l.take (k + 1)).filter (fun x => !p x)).length = k := by rw [e1, List.length_take]; omega
  exact ⟨e2, by omega, rfl, by rw [e2, e1], rfl, by omega⟩

set_option maxRecDepth 100000 in
theorem indexFuncE (g : Nat) (p : Edg → Bool) (he : Enters Tryz.prog g) (hp : ∀ x w, Calls Tryz.prog g #[aggE x] w fun e w1 => e = .returned (.bool (p x)) ∧ Gr w w1) (A : Option Addr) (c : Nat) (l : List Edg) (w : World) (hr : Rd w A 3 l.length (cellsE l)) : Calls Tryz.prog 108 #[.slice A l.length c, .func (.func g) #[] #[]] w fun e w1 => ∃ i : Int, ((i = -1 ∧ ∀ x ∈ l, p x = false) ∨ (∃ k : Nat, i = k ∧ k < l.length ∧ (∀ x ∈ l.take k, p x = false) ∧ ∃ x, l[k]? = some x ∧ p x = true)) ∧ e = .returned (.int .i64 i) ∧ Gr w w1 := by
  have hlen := hr.2.1
  refine CW.enter (P := Tryz.prog) (F0 := none0) (L := [(0, _), (1, _)]) 19 [] Tryz.func108 rfl Tryz.ntmps108 (Nat.le_of_ble_eq_true rfl) (St.start w none0) rfl ?_
  refine CW.seq ?_
  refine CW.region ?_
  refine RW.y (.inl rfl) rfl (Yv.assign rfl) ?_
  refine RW.nil ?_
  refine PW.go ?_
  refine CW.seq ?_
  refine CW.seq ?_
  refine CW.region ?_
  refine RW.y (.inl rfl) rfl (Yv.move rfl) ?_
  refine RW.y (.inl rfl) rfl (Yv.len Tryz.underlying22 rfl) ?_
  refine RW.y (.inl rfl) rfl (Yv.move rfl) ?_
  refine RW.nil ?_
  refine PW.go ?_
  refine CW.block ?_
  refine CW.loop (σ := Nat) (fun k => k ≤ l.length ∧ ∀ x ∈ l.take k, p x = false) (fun k => [(0, .slice A l.length c), (1, .func (.func g) #[] #[]), (7, .int .i64 l.length), (8, .int .i64 (k : Nat))]) (fun k => []) (fun k => l.length - k) 0 (⟨by omega, by simp⟩) ⟨rfl, rfl, rfl, rfl, trivial⟩ (fun w h => h) ?_
  intro k hk
  obtain ⟨hk, hok⟩ := hk
  refine CW.seq ?_
  refine CW.region ?_
  refine RW.y (.inl rfl) rfl (Yv.lt rfl rfl) ?_
  refine RW.nil ?_
  refine PW.go ?_
  refine CW.seq ?_
  refine CW.condD rfl (fun hc9 => ?_) (fun hc9 => ?_)
  ·
    refine CW.skip ?_
    refine PW.go ?_
    refine CW.seq ?_
    refine CW.block ?_
    refine CW.seq ?_
    refine CW.region ?_
    refine RW.y (.inl rfl) rfl (Yv.move rfl) ?_
    refine RW.y (.inl rfl) rfl (Yv.assign rfl) ?_
    refine RW.nil ?_
    refine PW.go ?_
    refine CW.seq ?_
    have hkl : k < l.length := by omega
    obtain ⟨b, o, rfl, hb, hc⟩ := hr.2.2 (by omega)
    obtain ⟨x, hx⟩ : ∃ x, l[k]? = some x := ⟨_, List.getElem?_eq_getElem hkl⟩
    have hcx := cellsE_get l k x hx
    refine CW.region ?_
    refine RW.y (.inl rfl) rfl (Yv.move rfl) ?_
    refine RW.y (.inl rfl) rfl (Yv.move rfl) ?_
    refine RW.y (.inl rfl) rfl (Yv.move rfl) ?_
    refine RW.y (.inl rfl) rfl (Yv.indexK Tryz.underlying22 Tryz.sizeOf79 rfl rfl (by omega) (by omega)) ?_
    refine RW.y (.inl rfl) rfl (Yv.loadK (vs := [_, _, _]) Tryz.isAgg79 Tryz.sizeOf79 rfl (CFs.old (vs := encE x) (fun j v hj => by rw [add_plain', Nat.add_assoc]; exact hc _ v (hcx j v hj)) (fun _ _ _ => not_none0 _))) ?_
    refine RW.o _ (.inl rfl) rfl (Ow.callv he rfl rfl (C.val (fun w2 hs => hp x w2))) ?_
    rintro _ _ ⟨rfl, rfl⟩
    refine RW.nil ?_
    refine PW.go ?_
    refine CW.cond rfl (fun hc16 => ?_) (fun hc16 => ?_)
    ·
      refine CW.seq ?_
      refine CW.region ?_
      refine RW.y (.inl rfl) rfl (Yv.move rfl) ?_
      refine RW.y (.inl rfl) rfl (Yv.assign rfl) ?_
      refine RW.nil ?_
      refine PW.go ?_
      refine CW.ret ?_
      refine PW.block_ret ?_
      refine PW.then_ret ?_
      refine PW.then_ret ?_
      refine PW.block_ret ?_
      refine PW.then_ret ?_
      refine PW.ret1 Tryz.results108 rfl (fun w1 hs => ?_)
      exact ⟨k, .inr ⟨k, rfl, hkl, hok, x, hx, hc16⟩, rfl, hs.mod.below⟩
    ·
      refine CW.skip ?_
      refine PW.block ?_
      refine PW.go ?_
      refine CW.region ?_
      refine RW.y (.inl rfl) rfl (Yv.add rfl rfl (by omega)) ?_
      refine RW.y (.inl rfl) rfl (Yv.move rfl) ?_
      refine RW.nil ?_
      exact PW.next (k + 1) (⟨by omega, fun y hy => by
            rw [take_snoc hx] at hy
            rcases List.mem_append.1 hy with hy | hy
            · exact hok y hy
            · simp at hy; subst hy; simpa using hc16⟩) ⟨rfl, rfl, rfl, rfl, trivial⟩ (fun w h => h) (by omega)
  ·
    refine CW.exit ?_
    refine PW.then_exit ?_
    refine PW.then_exit ?_
    refine PW.block_exit ?_
    refine PW.go ?_
    refine CW.seq ?_
    refine CW.region ?_
    refine RW.y (.inl rfl) rfl (Yv.assign rfl) ?_
    refine RW.nil ?_
    refine PW.go ?_
    refine CW.ret ?_
    refine PW.ret1 Tryz.results108 rfl (fun w1 hs => ?_)
    exact ⟨-1, .inl ⟨rfl, by rw [List.take_of_length_le (by omega)] at hok; exact hok⟩, rfl, hs.mod.below⟩

set_option maxRecDepth 100000 in
theorem deleteFuncE (g : Nat) (p : Edg → Bool) (he : Enters Tryz.prog g) (hp : ∀ x w, Calls Tryz.prog g #[aggE x] w fun e w1 => e = .returned (.bool (p x)) ∧ Gr w w1) (A : Option Addr) (c : Nat) (l : List Edg) (w : World) (F0 : Nat → Prop) (h0 : (row (.slice A l.length c) 79 3 l.length (cellsE l)).holds w F0) (hF : ∀ k, F0 k → k < w.heap.size) (hlen : l.length ≤ 1099511627776) : Calls Tryz.prog 82 #[.slice A l.length c, .func (.func g) #[] #[]] w fun e w1 => ∃ x : Unit, True ∧ e = .returned (.slice A (l.filter (fun x => !p x)).length c) ∧ Mod F0 w w1 ∧ ∃ F', (row (.slice A (l.filter (fun x => !p x)).length c) 79 3 (l.filter (fun x => !p x)).length (cellsE (l.filter (fun x => !p x)))).holds w1 F' ∧ ∀ k, F' k → F0 k ∨ (w.heap.size ≤ k ∧ k < w1.heap.size) := by
  refine CW.enter (P := Tryz.prog) (F0 := F0) (L := [(0, _), (1, _)]) 42 [row (.slice A l.length c) 79 3 l.length (cellsE l)] Tryz.func82 rfl Tryz.ntmps82 (Nat.le_of_ble_eq_true rfl) (St.start1 w h0 hF) rfl ?_
  refine CW.seq ?_
  refine CW.region ?_
  refine RW.y (.inl rfl) rfl (Yv.assign rfl) ?_
  refine RW.nil ?_
  refine PW.go ?_
  refine CW.seq ?_
  refine CW.region ?_
  refine RW.y (.inl rfl) rfl (Yv.move rfl) ?_
  refine RW.y (.inl rfl) rfl (Yv.move rfl) ?_
  refine RW.o _ (.inl rfl) rfl (Ow.call e108 rfl (C.ex (val := fun i => .int .i64 i) (fun w2 hs => indexFuncE g p he hp A c l w2 (hs.row_Rd 0 rfl (by omega))))) ?_
  rintro _ _ ⟨i, hi, rfl, rfl⟩
  refine RW.y (.inl rfl) rfl (Yv.assign rfl) ?_
  refine RW.nil ?_
  refine PW.go ?_
  refine CW.seq ?_
  refine CW.seq ?_
  refine CW.region ?_
  refine RW.y (.inl rfl) rfl (Yv.move rfl) ?_
  refine RW.y (.inl rfl) rfl (Yv.eq rfl rfl) ?_
  refine RW.nil ?_
  refine PW.go ?_
  refine CW.condD rfl (fun hc12 => ?_) (fun hc12 => ?_)
  ·
    have hall : ∀ x ∈ l, p x = false := by
      rcases hi with ⟨_, h⟩ | ⟨k, rfl, _⟩
      · exact h
      · omega
    refine CW.seq ?_
    refine CW.region ?_
    refine RW.y (.inl rfl) rfl (Yv.move rfl) ?_
    refine RW.y (.inl rfl) rfl (Yv.assign rfl) ?_
    refine RW.nil ?_
    refine PW.go ?_
    refine CW.ret ?_
    refine PW.then_ret ?_
    refine PW.ret1 Tryz.results82 rfl (fun w1 hs => ?_)
    refine ⟨(), trivial, by rw [filter_all_keep hall], hs.mod, ?_⟩
    obtain ⟨F, hF1, hF2⟩ := hs.get 0 rfl
    exact ⟨F, by rw [filter_all_keep hall]; exact hF1, fun k hk => (hF2 k hk).1.imp id (fun h => ⟨h, (hF2 k hk).2⟩)⟩
  ·
    obtain ⟨k0, rfl, hk0, ha0, x0, hx0, hp0⟩ := hi.resolve_left (fun h => hc12 (by simpa using h.1))
    obtain ⟨hf0, hok0⟩ := DelOk.start hx0 hp0 ha0
    refine CW.skip ?_
    refine PW.go ?_
    refine CW.seq ?_
    refine CW.seq ?_
    refine CW.region ?_
    refine RW.y (.inl rfl) rfl (Yv.move rfl) ?_
    refine RW.y (.inl rfl) rfl (Yv.add rfl rfl (by omega)) ?_
    refine RW.y (.inl rfl) rfl (Yv.assign rfl) ?_
    refine RW.nil ?_
    refine PW.go ?_
    refine CW.block ?_
    refine CW.loop (σ := Nat × List Edg) (fun s => DelOk p l s.2 s.1) (fun s => [(0, .slice A l.length c), (1, .func (.func g) #[] #[]), (5, .int .i64 (((l.take s.1).filter (fun x => !p x)).length : Nat)), (6, .int .i64 (s.1 : Nat))]) (fun s => [row (.slice A l.length c) 79 3 l.length (cellsE s.2)]) (fun s => l.length - s.1) (k0 + 1, l) (hok0) ⟨rfl, rfl, by show _ = some (Value.int .i64 _); rw [hf0]; rfl, rfl, trivial⟩ (fun w h => h) ?_
    rintro ⟨k, m⟩ hφ
    (try dsimp only at *)
    have hkl' := hφ.hk
    have hml := hφ.hm
    have hlt := hφ.hlt
    refine CW.seq ?_
    refine CW.seq ?_
    refine CW.region ?_
    refine RW.y (.inl rfl) rfl (Yv.move rfl) ?_
    refine RW.y (.inl rfl) rfl (Yv.move rfl) ?_
    refine RW.y (.inl rfl) rfl (Yv.len Tryz.underlying22 rfl) ?_
    refine RW.y (.inl rfl) rfl (Yv.lt rfl rfl) ?_
    refine RW.nil ?_
    refine PW.go ?_
    refine CW.condD rfl (fun hc19 => ?_) (fun hc19 => ?_)
    ·
      refine CW.skip ?_
      refine PW.go ?_
      refine CW.seq ?_
      refine CW.block ?_
      refine CW.seq ?_
      have hkl : k < l.length := by omega
      obtain ⟨x, hx⟩ : ∃ x, l[k]? = some x := ⟨_, List.getElem?_eq_getElem hkl⟩
      have hcx := cellsE_get m k x (hφ.get hx)
      refine CW.facts _ (fun w h => h.row_some 0 rfl (by omega)) ?_
      rintro ⟨b, rfl⟩
      refine CW.region ?_
      refine RW.y (.inl rfl) rfl (Yv.move rfl) ?_
      refine RW.y (.inl rfl) rfl (Yv.move rfl) ?_
      refine RW.y (.inl rfl) rfl (Yv.index0K Tryz.underlying22 Tryz.sizeOf79 rfl rfl (by omega) (by omega)) ?_
      refine RW.y (.inl rfl) rfl (Yv.loadK (vs := [_, _, _]) Tryz.isAgg79 Tryz.sizeOf79 rfl (CFs.row (vs := encE x) 0 rfl hcx)) ?_
      refine RW.o _ (.inl rfl) rfl (Ow.alloc (cs := [_, _, _]) Tryz.zeroValue79 rfl) ?_
      rintro _ _ ⟨b7, rfl, rfl⟩
      refine RW.o _ (.inl rfl) rfl (Ow.storeW (vs := [_, _, _]) 0 Tryz.sizeOf79 rfl rfl (rfl) rfl (rfl)) ?_
      rintro _ _ ⟨rfl, rfl⟩
      refine RW.nil ?_
      refine PW.go ?_
      refine CW.seq ?_
      refine CW.region ?_
      refine RW.y (.inl rfl) rfl (Yv.move rfl) ?_
      refine RW.y (.inl rfl) rfl (Yv.loadK (vs := [_, _, _]) Tryz.isAgg79 Tryz.sizeOf79 rfl (CFs.whole 0 rfl)) ?_
      refine RW.o _ (.inl rfl) rfl (Ow.callv he rfl rfl (C.val (fun w2 hs => hp x w2))) ?_
      rintro _ _ ⟨rfl, rfl⟩
      refine RW.y (.inl rfl) rfl (Yv.not rfl) ?_
      refine RW.nil ?_
      refine PW.go ?_
      refine CW.cond rfl (fun hc29 => ?_) (fun hc29 => ?_)
      ·
        refine CW.seq ?_
        refine CW.region ?_
        refine RW.y (.inl rfl) rfl (Yv.move rfl) ?_
        refine RW.y (.inl rfl) rfl (Yv.move rfl) ?_
        refine RW.y (.inl rfl) rfl (Yv.loadK (vs := [_, _, _]) Tryz.isAgg79 Tryz.sizeOf79 rfl (CFs.whole 0 rfl)) ?_
        refine RW.y (.inl rfl) rfl (Yv.index0K Tryz.underlying22 Tryz.sizeOf79 rfl rfl (by omega) (by omega)) ?_
        refine RW.o _ (.inl rfl) rfl (Ow.storeRowK (vs := [_, _, _]) 1 Tryz.sizeOf79 rfl rfl (rfl) rfl (by have e := cellsE_length m; show _ + 3 ≤ (cellsE m).length; rw [e]; simp; omega)) ?_
        rintro _ _ ⟨rfl, rfl⟩
        refine RW.nil ?_
        refine PW.go ?_
        refine CW.region ?_
        refine RW.y (.inl rfl) rfl (Yv.move rfl) ?_
        refine RW.y (.inl rfl) rfl (Yv.add rfl rfl (by omega)) ?_
        refine RW.y (.inl rfl) rfl (Yv.assign rfl) ?_
        refine RW.nil ?_
        refine PW.block ?_
        refine PW.go ?_
        refine CW.region ?_
        refine RW.y (.inl rfl) rfl (Yv.move rfl) ?_
        refine RW.y (.inl rfl) rfl (Yv.add rfl rfl (by omega)) ?_
        refine RW.y (.inl rfl) rfl (Yv.assign rfl) ?_
        refine RW.nil ?_
        have hst := hφ.keep hx (by simpa using hc29)
        refine PW.mem _ (fun w h => h.row_eq (m' := l.length) (xs' := cellsE (m.set ((l.take k).filter (fun x => !p x)).length x)) 1 rfl (rfl) (cellsE_set _ _ _ (by omega))) ?_
        exact PW.next (k + 1, m.set ((l.take k).filter (fun x => !p x)).length x) (hst.2) ⟨rfl, rfl, by show _ = some (Value.int .i64 _); rw [hst.1]; rfl, rfl, trivial⟩ (fun w h => (h).erase 0) (by show l.length - (k + 1) < l.length - k; omega)
      ·
        refine CW.skip ?_
        refine PW.block ?_
        refine PW.go ?_
        refine CW.region ?_
        refine RW.y (.inl rfl) rfl (Yv.move rfl) ?_
        refine RW.y (.inl rfl) rfl (Yv.add rfl rfl (by omega)) ?_
        refine RW.y (.inl rfl) rfl (Yv.assign rfl) ?_
        refine RW.nil ?_
        have hst := hφ.skip hx (by simpa using hc29)
        exact PW.next (k + 1, m) (hst.2) ⟨rfl, rfl, by show _ = some (Value.int .i64 _); rw [hst.1]; rfl, rfl, trivial⟩ (fun w h => (h).erase 0) (by show l.length - (k + 1) < l.length - k; omega)
    ·
      refine CW.exit ?_
      refine PW.then_exit ?_
      refine PW.then_exit ?_
      refine PW.block_exit ?_
      refine PW.go ?_
      refine CW.seq ?_
      obtain rfl : k = l.length := by omega
      rw [List.take_length] at *
      refine CW.facts _ (fun w h => h.row_some 0 rfl (by omega)) ?_
      rintro ⟨b, rfl⟩
      refine CW.facts _ (fun w h => h.row_le 0 rfl) ?_
      intro hcap
      refine CW.region ?_
      refine RW.y (.inl rfl) rfl (Yv.move rfl) ?_
      refine RW.y (.inl rfl) rfl (Yv.move rfl) ?_
      refine RW.o _ (.inl rfl) rfl (Ow.sliceFrom Tryz.underlying22 Tryz.sizeOf79 rfl rfl (by omega) (by omega)) ?_
      rintro _ _ ⟨A1, rfl, hA1, rfl⟩
      obtain rfl := hA1 (by omega)
      refine RW.o _ (.inl rfl) rfl (Ow.clear (s := 3) 0 Tryz.underlying22 Tryz.zeroValue79 rfl rfl rfl rfl (by have e := cellsE_length m; show _ ≤ (cellsE m).length; rw [e]; simp; omega)) ?_
      rintro _ _ ⟨zs, hzs, rfl⟩
      refine RW.nil ?_
      refine PW.go ?_
      refine CW.seq ?_
      refine CW.region ?_
      refine RW.y (.inl rfl) rfl (Yv.move rfl) ?_
      refine RW.y (.inl rfl) rfl (Yv.move rfl) ?_
      refine RW.o _ (.inl rfl) rfl (Ow.sliceTo Tryz.underlying22 Tryz.sizeOf79 rfl rfl (by omega) (by omega)) ?_
      rintro _ _ ⟨rfl, rfl⟩
      refine RW.y (.inl rfl) rfl (Yv.assign rfl) ?_
      refine RW.nil ?_
      refine PW.go ?_
      refine CW.ret ?_
      refine PW.ret1 Tryz.results82 rfl (fun w1 hs => ?_)
      refine ⟨(), trivial, by simp, hs.mod, ?_⟩
      have h2 := hs.row_take 0 (l.filter (fun x => !p x)).length rfl (by omega) (by simp)
      obtain ⟨F, hF1, hF2⟩ := h2.get 0 rfl
      have e1 : (putAt (cellsE m) zs (0 + (((l.filter (fun x => !p x)).length : Nat) : Int).toNat * 3)).take ((l.filter (fun x => !p x)).length * 3) = cellsE (l.filter (fun x => !p x)) := by
        rw [Nat.zero_add, Int.toNat_natCast, part_take (by rw [cellsE_length]; omega), cellsE_take]
        have := hφ.ht
        rw [List.take_length] at this
        rw [this]
      rw [e1] at hF1
      exact ⟨F, hF1, fun k hk => (hF2 k hk).1.imp id (fun h => ⟨h, (hF2 k hk).2⟩)⟩

end Go.Proofs.YtipoblpnkkcpgaaGreat
