/- Walks, written by a program of this session (gen.py) out of a spec. -/
import Derived.Test.YtipoblpnkkcpgaaCon0
import Derived.Test.YtipoblpnkkcpgaaCon0b
import Derived.Test.YtipoblpnkkcpgaaNet2
import Derived.Test.YtipoblpnkkcpgaaRef2
set_option linter.unusedVariables false
set_option linter.unusedSimpArgs false
namespace Go.Proofs.Ytipoblpnkkcpgaa
open Go Go.RowKit Go.Proofs.Ytipoblpnkkcpgaa.B

def mapTo {α : Type} (f : α → α) (l : List α) (i : Nat) : List α := (l.take i).map f ++ l.drop i
theorem mapTo_length {α : Type} (f : α → α) (l : List α) (i : Nat) : (mapTo f l i).length = l.length := by simp [mapTo]; omega
theorem mapTo_zero {α : Type} (f : α → α) (l : List α) : mapTo f l 0 = l := by simp [mapTo]
theorem mapTo_all {α : Type} (f : α → α) (l : List α) : mapTo f l l.length = l.map f := by simp [mapTo]
theorem mapTo_succ {α : Type} {f : α → α} {l : List α} {k : Nat} {x : α} (hx : l[k]? = some x) : (mapTo f l k)[k]? = some x ∧ mapTo f l (k + 1) = (mapTo f l k).set k (f x) := by
  have hk := (List.getElem?_eq_some_iff.1 hx).1
  have hl : ((l.take k).map f).length = k := by simp; omega
  have hd : l.drop k = x :: l.drop (k + 1) := by rw [List.drop_eq_getElem_cons hk, (List.getElem?_eq_some_iff.1 hx).2]
  constructor
  · show (((l.take k).map f) ++ l.drop k)[k]? = some x
    rw [List.getElem?_append_right (by omega), hl, hd]; simp
  · show ((l.take (k + 1)).map f) ++ l.drop (k + 1) = (((l.take k).map f) ++ l.drop k).set k (f x)
    rw [List.set_append_right _ _ (by omega), hl, hd, List.take_add_one, hx]; simp
theorem cellsE_setuv {m : List Edg} {i : Nat} {x : Edg} (hx : m[i]? = some x) (a b : Int) : ((cellsE m).set (i * 3 + 0) (.int .i64 a)).set (i * 3 + 1) (.int .i64 b) = cellsE (m.set i ⟨a, b, x.w⟩) := by
  have hk := (List.getElem?_eq_some_iff.1 hx).1
  have hd : m = m.take i ++ x :: m.drop (i + 1) := by rw [← (List.getElem?_eq_some_iff.1 hx).2, ← List.drop_eq_getElem_cons hk, List.take_append_drop]
  have hl : (m.take i).length = i := by simp; omega
  have hcl : (cellsE (m.take i)).length = i * 3 := by rw [cellsE_length, hl]
  have e1 : cellsE m = cellsE (m.take i) ++ (encE x ++ cellsE (m.drop (i + 1))) := by
    conv => lhs; rw [hd, cellsE_append]
    rfl
  have e2 : m.set i ⟨a, b, x.w⟩ = m.take i ++ ⟨a, b, x.w⟩ :: m.drop (i + 1) := by
    conv => lhs; rw [hd, List.set_append_right _ _ (by omega), hl, Nat.sub_self]
    rfl
  rw [e1, e2, List.set_append_right _ _ (by omega), List.set_append_right _ _ (by omega), hcl, cellsE_append]
  congr 1
  rw [show i * 3 + 0 - i * 3 = 0 by omega, show i * 3 + 1 - i * 3 = 1 by omega]
  rfl
theorem totalW_map_le (l : List Edg) (name : List Int) : totalW (renL name l) = totalW l := renL_total name l

set_option maxRecDepth 100000 in
theorem contractOf (p : Value) (n : Nat) (l : List Edg) (hok : ArcsOk n l) (hll : l.length ≤ 4096) (hlt : totalW l ≤ 8796093022208) (k : Int) (A : Option Addr) (c : Nat) (name : List Int) (w : World) (hr : Rd w A 1 name.length (i64s name)) (hN : ∀ w', Gr w w' → Calls Try.prog 31 #[p] w' fun e w1 => e = .returned (.int .i64 n) ∧ Gr w' w1) (hE : ∀ w', Gr w w' → Calls Try.prog 33 #[p] w' fun e w1 => ∃ v, e = .returned v ∧ Gr w' w1 ∧ ∃ F, (row v 72 3 l.length (cellsE l)).holds w1 F ∧ ∀ k, F k → w'.heap.size ≤ k ∧ k < w1.heap.size) (hb : name.length = n ∧ namB k name = true) : Calls Try.prog 28 #[p, .int .i64 k, .slice A name.length c] w fun e w1 => ∃ b : Nat, True ∧ e = .returned (.tuple #[.pointer (some ⟨b, 0, none⟩), .int .i64 0]) ∧ Gr w w1 ∧ ∃ F, (nowA (fun w' => IsNet w' b (netOf k (splitL (mergeL (renL name l)))))).holds w1 F ∧ ∀ q, F q → w.heap.size ≤ q ∧ q < w1.heap.size := by
  have hnm := (namB_iff k name).1 hb.2
  have hnn : nonneg l := fun e he => (hok.wts e he).1
  have hrn := renL_nonneg (name := name) hnn
  have hrr := renL_rng hok hb.1 hb.2
  have hrl := renL_length name l
  have hrt := renL_total name l
  obtain ⟨hsok, hsl⟩ := split_ok hnm.1.1 hnm.1.2.1 hrn hrr (by omega) (by omega)
  have hml := mergeL_length (renL name l)
  have hmt := mergeL_total hrn
  have hmp := merge_pos hrn
  refine CW.enter (P := Try.prog) (F0 := none0) (L := [(0, _), (1, _), (2, _)]) 76 [] Try.func28 rfl Try.ntmps28 (Nat.le_of_ble_eq_true rfl) (St.start w none0) rfl ?_
  refine CW.seq ?_
  refine CW.region ?_
  refine RW.y (.inl rfl) rfl (Yv.assign rfl) ?_
  refine RW.y (.inl rfl) rfl (Yv.assign rfl) ?_
  refine RW.nil ?_
  refine PW.go ?_
  refine CW.seq ?_
  refine CW.seq ?_
  refine CW.region ?_
  refine RW.y (.inl rfl) rfl (Yv.move rfl) ?_
  refine RW.y (.inl rfl) rfl (Yv.len Try.underlying32 rfl) ?_
  refine RW.y (.inl rfl) rfl (Yv.move rfl) ?_
  refine RW.o _ (.inl rfl) rfl (Ow.call e31 rfl (C.val (fun w hs => hN _ hs.mod.below))) ?_
  rintro _ _ ⟨rfl, rfl⟩
  refine RW.y (.inl rfl) rfl (Yv.ne rfl rfl) ?_
  refine RW.y (.inl rfl) rfl (Yv.move rfl) ?_
  refine RW.isF 23 rfl (by omega) ?_
  refine RW.y (.inr ⟨_, _, 23, rfl, rfl, rfl⟩) rfl (Yv.move rfl) ?_
  refine RW.y (.inr ⟨_, _, 23, rfl, rfl, rfl⟩) rfl (Yv.move rfl) ?_
  refine RW.o _ (.inr ⟨_, _, 23, rfl, rfl, rfl⟩) rfl (Ow.call e58 rfl (C.val (fun w hs => contractNaming k A c name _ (hr.below hs.mod.below)))) ?_
  rintro _ _ ⟨rfl, rfl⟩
  refine RW.y (.inr ⟨_, _, 23, rfl, rfl, rfl⟩) rfl (Yv.not rfl) ?_
  refine RW.y (.inl rfl) rfl (Yv.pickF rfl rfl) ?_
  refine RW.nil ?_
  refine PW.go ?_
  refine CW.cond rfl (fun hc28 => ?_) (fun hc28 => ?_)
  ·
    rw [hb.2] at hc28; cases hc28
  ·
    refine CW.skip ?_
    refine PW.go ?_
    refine CW.seq ?_
    refine CW.region ?_
    refine RW.y (.inl rfl) rfl (Yv.move rfl) ?_
    refine RW.o _ (.inl rfl) rfl (Ow.call e33 rfl (C.new (val := id) (φ := fun _ => True) (Ψ := fun v => row v 72 3 l.length (cellsE l)) (fun w2 hs => (hE w2 hs.mod.below).mono (fun e w3 ⟨v, hv, hb, F, hF, hk⟩ => ⟨v, trivial, hv, hb, F, hF, hk⟩)))) ?_
    rintro _ _ ⟨vE, -, rfl, rfl⟩
    refine RW.y (.inl rfl) rfl (Yv.assign rfl) ?_
    refine RW.nil ?_
    refine PW.go ?_
    refine CW.seq ?_
    refine CW.seq ?_
    refine CW.region ?_
    refine RW.y (.inl rfl) rfl (Yv.move rfl) ?_
    refine RW.y (.inl rfl) rfl (Yv.lenRow 0 Try.underlying22 rfl rfl) ?_
    refine RW.facts _ (fun w h => h.row_slice 0 rfl) ?_
    rintro ⟨Ae, ce, rfl⟩
    refine RW.mem _ (fun w h => h.row_eq (m' := l.length) (xs' := cellsE (mapTo (renE name) l 0)) 0 rfl (rfl) (by rw [mapTo_zero])) ?_
    refine RW.y (.inl rfl) rfl (Yv.move rfl) ?_
    refine RW.nil ?_
    refine PW.go ?_
    refine CW.block ?_
    refine CW.loop (σ := Nat) (fun i => i ≤ l.length) (fun i => [(1, .int .i64 k), (2, .slice A name.length c), (8, .slice Ae l.length ce), (31, .slice Ae l.length ce), (32, .int .i64 l.length), (33, .int .i64 (i : Nat))]) (fun i => [row (.slice Ae l.length ce) 72 3 l.length (cellsE (mapTo (renE name) l i))]) (fun i => l.length - i) 0 (by simp) ⟨rfl, rfl, rfl, rfl, rfl, rfl, trivial⟩ (fun w h => h) ?_
    intro i hi
    refine CW.seq ?_
    refine CW.region ?_
    refine RW.y (.inl rfl) rfl (Yv.lt rfl rfl) ?_
    refine RW.nil ?_
    refine PW.go ?_
    refine CW.seq ?_
    refine CW.condD rfl (fun hc34 => ?_) (fun hc34 => ?_)
    ·
      refine CW.skip ?_
      refine PW.go ?_
      refine CW.seq ?_
      refine CW.block ?_
      refine CW.seq ?_
      have hil : i < l.length := by omega
      refine CW.facts _ (fun w h => h.row_some 0 rfl (by omega)) ?_
      rintro ⟨be, rfl⟩
      obtain ⟨x, hx⟩ : ∃ x, l[i]? = some x := ⟨_, List.getElem?_eq_getElem hil⟩
      obtain ⟨hx1, hx2⟩ := mapTo_succ (f := renE name) hx
      have hxr := hok.rng x (List.mem_of_getElem? hx)
      obtain ⟨bn, on, rfl, hbn, hcn⟩ := hr.2.2 (by omega)
      obtain ⟨nu, hnu⟩ : ∃ a, name[x.u.toNat]? = some a := ⟨_, List.getElem?_eq_getElem (by omega)⟩
      obtain ⟨nv, hnv⟩ : ∃ a, name[x.v.toNat]? = some a := ⟨_, List.getElem?_eq_getElem (by omega)⟩
      have hmtl := mapTo_length (renE name) l i
      have hcl := cellsE_length (mapTo (renE name) l i)
      refine CW.region ?_
      refine RW.y (.inl rfl) rfl (Yv.move rfl) ?_
      refine RW.y (.inl rfl) rfl (Yv.index0K Try.underlying22 Try.sizeOf72 rfl rfl (by omega) (by omega)) ?_
      refine RW.y (.inl rfl) rfl (Yv.loadK (vs := [_, _, _]) Try.isAgg72 Try.sizeOf72 rfl (CFs.row (vs := encE x) 0 rfl (cellsE_get _ i x hx1))) ?_
      refine RW.o _ (.inl rfl) rfl (Ow.alloc (cs := [_, _, _]) Try.zeroValue72 rfl) ?_
      rintro _ _ ⟨b10, rfl, rfl⟩
      refine RW.y (.inl rfl) rfl (Yv.assign rfl) ?_
      refine RW.o _ (.inl rfl) rfl (Ow.storeW (vs := [_, _, _]) 0 Try.sizeOf72 rfl rfl (rfl) rfl (rfl)) ?_
      rintro _ _ ⟨rfl, rfl⟩
      refine RW.nil ?_
      refine PW.go ?_
      refine CW.drawE mixed (fun _ h => (h).erase 1) ?_
      refine HW.take 0 rfl (by kernel_rfl) (by kernel_rfl) (by kernel_rfl) (fun _ _ _ h => h) (.inl rfl) rfl (fun _ h => (h).erase 1) (Yv.move rfl) ?_
      refine HW.take 1 rfl (by kernel_rfl) (by kernel_rfl) (by kernel_rfl) (fun _ _ _ h => h) (.inl rfl) rfl (fun _ h => (h).erase 1) (Yv.move rfl) ?_
      refine HW.take 2 rfl (by kernel_rfl) (by kernel_rfl) (by kernel_rfl) (fun _ _ _ h => h) (.inl rfl) rfl (fun _ h => (h).erase 1) (Yv.move rfl) ?_
      refine HW.take 3 rfl (by kernel_rfl) (by kernel_rfl) (by kernel_rfl) (fun _ _ _ h => h) (.inl rfl) rfl (fun _ h => (h).erase 1) (Yv.move rfl) ?_
      refine HW.take 4 rfl (by kernel_rfl) (by kernel_rfl) (by kernel_rfl) (fun _ _ _ h => h) (.inl rfl) rfl (fun _ h => (h).erase 1) (Yv.move rfl) ?_
      refine HW.take 5 rfl (by kernel_rfl) (by kernel_rfl) (by kernel_rfl) (fun _ _ _ h => h) (.inl rfl) rfl (fun _ h => (h).erase 1) (Yv.fieldAddr Try.underlying72 rfl Try.sizeOf3 rfl rfl) ?_
      refine HW.take 6 rfl (by kernel_rfl) (by kernel_rfl) (by kernel_rfl) (fun _ _ _ h => h) (.inl rfl) rfl (fun _ h => (h).erase 1) (Yv.load1 Try.isAgg3 rfl (CF.blk 0 rfl rfl)) ?_
      refine HW.take 7 rfl (by kernel_rfl) (by kernel_rfl) (by kernel_rfl) (fun _ _ _ h => h) (.inl rfl) rfl (fun _ h => (h).erase 1) (Yv.index1 Try.underlying32 Try.sizeOf3 rfl rfl (by omega) (by omega)) ?_
      refine HW.take 8 rfl (by kernel_rfl) (by kernel_rfl) (by kernel_rfl) (fun _ _ _ h => h) (.inl rfl) rfl (fun _ h => (h).erase 1) (Yv.load1 Try.isAgg3 rfl (CF.old (hcn _ _ (i64s_at rfl hnu)) (not_none0 _))) ?_
      refine HW.take 9 rfl (by kernel_rfl) (by kernel_rfl) (by kernel_rfl) (fun _ _ _ h => h) (.inl rfl) rfl (fun _ h => (h).erase 1) (Yv.move rfl) ?_
      refine HW.take 10 rfl (by kernel_rfl) (by kernel_rfl) (by kernel_rfl) (fun _ _ _ h => h) (.inl rfl) rfl (fun _ h => (h).erase 1) (Yv.fieldAddr Try.underlying72 rfl Try.sizeOf3 rfl rfl) ?_
      refine HW.take 11 rfl (by kernel_rfl) (by kernel_rfl) (by kernel_rfl) (fun _ _ _ h => h) (.inl rfl) rfl (fun _ h => (h).erase 1) (Yv.load1 Try.isAgg3 rfl (CF.blk 0 rfl rfl)) ?_
      refine HW.take 12 rfl (by kernel_rfl) (by kernel_rfl) (by kernel_rfl) (fun _ _ _ h => h) (.inl rfl) rfl (fun _ h => (h).erase 1) (Yv.index1 Try.underlying32 Try.sizeOf3 rfl rfl (by omega) (by omega)) ?_
      refine HW.take 13 rfl (by kernel_rfl) (by kernel_rfl) (by kernel_rfl) (fun _ _ _ h => h) (.inl rfl) rfl (fun _ h => (h).erase 1) (Yv.load1 Try.isAgg3 rfl (CF.old (hcn _ _ (i64s_at rfl hnv)) (not_none0 _))) ?_
      refine HW.take 14 rfl (by kernel_rfl) (by kernel_rfl) (by kernel_rfl) (fun _ _ _ h => h) (.inl rfl) rfl (fun _ h => (h).erase 1) (Yv.index0K Try.underlying22 Try.sizeOf72 rfl rfl (by omega) (by omega)) ?_
      refine HW.take 15 rfl (by kernel_rfl) (by kernel_rfl) (by kernel_rfl) (fun _ _ _ h => h) (.inl rfl) rfl (fun _ h => (h).erase 1) (Yv.fieldAddr Try.underlying72 rfl Try.sizeOf3 rfl rfl) ?_
      refine HW.run 16 rfl (by kernel_rfl) _ (.inl rfl) rfl (Ow.storeRow 1 Try.sizeOf3 rfl rfl (rfl) rfl (by rw [hcl]; simp; omega)) (by rintro _ _ ⟨rfl, rfl⟩ w h; exact (h).erase 1) ?_
      rintro _ _ ⟨rfl, rfl⟩
      refine HW.take 17 rfl (by kernel_rfl) (by kernel_rfl) (by kernel_rfl) (fun _ _ _ h => h) (.inl rfl) rfl (fun _ h => (h).erase 1) (Yv.index0K Try.underlying22 Try.sizeOf72 rfl rfl (by omega) (by omega)) ?_
      refine HW.take 18 rfl (by kernel_rfl) (by kernel_rfl) (by kernel_rfl) (fun _ _ _ h => h) (.inl rfl) rfl (fun _ h => (h).erase 1) (Yv.fieldAddr Try.underlying72 rfl Try.sizeOf3 rfl rfl) ?_
      refine HW.run 19 rfl (by kernel_rfl) _ (.inl rfl) rfl (Ow.storeRow 1 Try.sizeOf3 rfl rfl (rfl) rfl (by rw [List.length_set, hcl]; simp; omega)) (by rintro _ _ ⟨rfl, rfl⟩ w h; exact (h).erase 1) ?_
      rintro _ _ ⟨rfl, rfl⟩
      refine HW.done (by kernel_rfl) ?_
      refine PW.block ?_
      refine PW.go ?_
      refine CW.region ?_
      refine RW.y (.inl rfl) rfl (Yv.add rfl rfl (by omega)) ?_
      refine RW.y (.inl rfl) rfl (Yv.move rfl) ?_
      refine RW.nil ?_
      refine PW.mem _ (fun w h => h.erase 0) ?_
      refine PW.mem _ (fun w h => h.row_eq (m' := l.length) (xs' := cellsE (mapTo (renE name) l (i + 1))) 0 rfl (rfl) (by rw [hx2, ← show Edg.mk nu nv x.w = renE name x by unfold renE; rw [getD_of hnu, getD_of hnv]]; exact cellsE_setuv hx1 nu nv)) ?_
      exact PW.next (i + 1) (by omega) ⟨rfl, rfl, rfl, rfl, rfl, rfl, trivial⟩ (fun w h => h) (by omega)
    ·
      refine CW.exit ?_
      refine PW.then_exit ?_
      refine PW.then_exit ?_
      refine PW.block_exit ?_
      refine PW.go ?_
      refine CW.seq ?_
      refine CW.mem _ (fun w h => h.row_eq (m' := (renL name l).length) (xs' := cellsE (renL name l)) 0 rfl (by omega) (by rw [show i = l.length by omega, mapTo_all]; rfl)) ?_
      rw [← hrl]
      refine CW.region ?_
      refine RW.y (.inl rfl) rfl (Yv.move rfl) ?_
      refine RW.o _ (.inl rfl) rfl (Ow.call e47 rfl (C.new (val := fun (p : Option Addr × Nat) => .tuple #[.slice p.1 (mergeL (renL name l)).length p.2, .bool true]) (φ := fun _ => True) (Ψ := fun p => row (.slice p.1 (mergeL (renL name l)).length p.2) 72 3 (mergeL (renL name l)).length (cellsE (mergeL (renL name l)))) (fun w2 hs => (edgeMerge Ae ce (renL name l) w2 (hs.row_Rd 0 rfl (by omega)) (fun x hx => by have := hrr x hx; omega) hrn (by omega) (by omega)).mono (fun en w3 ⟨p, he, hb, F, hF, hk⟩ => ⟨p, trivial, he, hb, F, hF, hk⟩)))) ?_
      rintro _ _ ⟨⟨Am, cm⟩, -, rfl, rfl⟩
      refine RW.y (.inl rfl) rfl (Yv.move rfl) ?_
      refine RW.y (.inl rfl) rfl (Yv.extract rfl rfl) ?_
      refine RW.y (.inl rfl) rfl (Yv.extract rfl rfl) ?_
      refine RW.y (.inl rfl) rfl (Yv.assign rfl) ?_
      refine RW.y (.inl rfl) rfl (Yv.assign rfl) ?_
      refine RW.nil ?_
      refine PW.go ?_
      refine CW.seq ?_
      refine CW.region ?_
      refine RW.y (.inl rfl) rfl (Yv.move rfl) ?_
      refine RW.o _ (.inl rfl) rfl (Ow.call e59 rfl (C.new (val := fun (p : Option Addr × Nat) => .tuple #[.slice p.1 (splitL (mergeL (renL name l))).length p.2, .bool true]) (φ := fun _ => True) (Ψ := fun p => row (.slice p.1 (splitL (mergeL (renL name l))).length p.2) 72 3 (splitL (mergeL (renL name l))).length (cellsE (splitL (mergeL (renL name l))))) (fun w2 hs => (edgeSplit Am cm (mergeL (renL name l)) w2 (hs.row_Rd 0 rfl (by omega)) (fun x hx => ⟨(hmp x hx).2, by have := le_total (fun y hy => by have := (hmp y hy).2; omega) hx; omega⟩) (by omega)).mono (fun en w3 ⟨p, he, hb, F, hF, hk⟩ => ⟨p, trivial, he, hb, F, hF, hk⟩)))) ?_
      rintro _ _ ⟨⟨As, cs⟩, -, rfl, rfl⟩
      refine RW.y (.inl rfl) rfl (Yv.move rfl) ?_
      refine RW.y (.inl rfl) rfl (Yv.extract rfl rfl) ?_
      refine RW.y (.inl rfl) rfl (Yv.extract rfl rfl) ?_
      refine RW.y (.inl rfl) rfl (Yv.assign rfl) ?_
      refine RW.y (.inl rfl) rfl (Yv.assign rfl) ?_
      refine RW.nil ?_
      refine PW.go ?_
      refine CW.seq ?_
      refine CW.region ?_
      refine RW.y (.inl rfl) rfl (Yv.move rfl) ?_
      refine RW.y (.inl rfl) rfl (Yv.move rfl) ?_
      refine RW.o _ (.inl rfl) rfl (Ow.call e8 rfl (C.new (val := fun (b : Nat) => .tuple #[.pointer (some ⟨b, 0, none⟩), .int .i64 0, .int .i64 0]) (φ := fun _ => True) (Ψ := fun b => nowA (fun w' => IsNet w' b (netOf k (splitL (mergeL (renL name l)))))) (fun w2 hs => (netNew_ok k As cs (splitL (mergeL (renL name l))) w2 (hs.row_Rd 0 rfl (by omega)) hsok).mono (fun en w3 ⟨b, ht, he, hb, F, hF, hk⟩ => ⟨b, ht, he, hb, F, hF, hk⟩)))) ?_
      rintro _ _ ⟨bg, -, rfl, rfl⟩
      refine RW.y (.inl rfl) rfl (Yv.move rfl) ?_
      refine RW.y (.inl rfl) rfl (Yv.extract rfl rfl) ?_
      refine RW.y (.inl rfl) rfl (Yv.extract rfl rfl) ?_
      refine RW.y (.inl rfl) rfl (Yv.extract rfl rfl) ?_
      refine RW.y (.inl rfl) rfl (Yv.assign rfl) ?_
      refine RW.y (.inl rfl) rfl (Yv.assign rfl) ?_
      refine RW.y (.inl rfl) rfl (Yv.assign rfl) ?_
      refine RW.nil ?_
      refine PW.go ?_
      refine CW.seq ?_
      refine CW.region ?_
      refine RW.y (.inl rfl) rfl (Yv.move rfl) ?_
      refine RW.y (.inl rfl) rfl (Yv.move rfl) ?_
      refine RW.y (.inl rfl) rfl (Yv.assign rfl) ?_
      refine RW.y (.inl rfl) rfl (Yv.assign rfl) ?_
      refine RW.nil ?_
      refine PW.go ?_
      refine CW.ret ?_
      refine PW.ret2 Try.results28 rfl rfl (fun w1 hs => ?_)
      obtain ⟨F, hF, hk⟩ := hs.out 0 rfl
      exact ⟨bg, trivial, rfl, hs.mod.below, F, hF, hk⟩

set_option maxRecDepth 100000 in
theorem contractOf_err (p : Value) (n : Nat) (k : Int) (A : Option Addr) (c : Nat) (name : List Int) (w : World) (hr : Rd w A 1 name.length (i64s name)) (hN : ∀ w', Gr w w' → Calls Try.prog 31 #[p] w' fun e w1 => e = .returned (.int .i64 n) ∧ Gr w' w1) (hb : ¬ (name.length = n ∧ namB k name = true)) : Calls Try.prog 28 #[p, .int .i64 k, .slice A name.length c] w fun e w1 => e = .returned (.tuple #[.pointer none, .int .i64 1]) ∧ Gr w w1 := by
  refine CW.enter (P := Try.prog) (F0 := none0) (L := [(0, _), (1, _), (2, _)]) 76 [] Try.func28 rfl Try.ntmps28 (Nat.le_of_ble_eq_true rfl) (St.start w none0) rfl ?_
  refine CW.seq ?_
  refine CW.region ?_
  refine RW.y (.inl rfl) rfl (Yv.assign rfl) ?_
  refine RW.y (.inl rfl) rfl (Yv.assign rfl) ?_
  refine RW.nil ?_
  refine PW.go ?_
  refine CW.seq ?_
  refine CW.seq ?_
  refine CW.region ?_
  refine RW.y (.inl rfl) rfl (Yv.move rfl) ?_
  refine RW.y (.inl rfl) rfl (Yv.len Try.underlying32 rfl) ?_
  refine RW.y (.inl rfl) rfl (Yv.move rfl) ?_
  refine RW.o _ (.inl rfl) rfl (Ow.call e31 rfl (C.val (fun w hs => hN _ hs.mod.below))) ?_
  rintro _ _ ⟨rfl, rfl⟩
  refine RW.y (.inl rfl) rfl (Yv.ne rfl rfl) ?_
  refine RW.y (.inl rfl) rfl (Yv.move rfl) ?_
  refine RW.splitD 23 rfl (fun hc23 => ?_) (fun hc23 => ?_)
  ·
    refine RW.no ⟨_, _, 23, _, rfl, rfl, rfl, fun h => by simp [undef] at h⟩ rfl ?_
    refine RW.no ⟨_, _, 23, _, rfl, rfl, rfl, fun h => by simp [undef] at h⟩ rfl ?_
    refine RW.no ⟨_, _, 23, _, rfl, rfl, rfl, fun h => by simp [undef] at h⟩ rfl ?_
    refine RW.no ⟨_, _, 23, _, rfl, rfl, rfl, fun h => by simp [undef] at h⟩ rfl ?_
    refine RW.y (.inl rfl) rfl (Yv.pickT rfl rfl) ?_
    refine RW.nil ?_
    refine PW.go ?_
    refine CW.condT rfl ?_
    refine CW.seq ?_
    refine CW.region ?_
    refine RW.y (.inl rfl) rfl (Yv.assign rfl) ?_
    refine RW.y (.inl rfl) rfl (Yv.assign rfl) ?_
    refine RW.nil ?_
    refine PW.go ?_
    refine CW.ret ?_
    refine PW.then_ret ?_
    refine PW.ret2 Try.results28 rfl rfl (fun w1 hs => ?_)
    exact ⟨rfl, hs.mod.below⟩
  ·
    refine RW.y (.inr ⟨_, _, 23, rfl, rfl, rfl⟩) rfl (Yv.move rfl) ?_
    refine RW.y (.inr ⟨_, _, 23, rfl, rfl, rfl⟩) rfl (Yv.move rfl) ?_
    refine RW.o _ (.inr ⟨_, _, 23, rfl, rfl, rfl⟩) rfl (Ow.call e58 rfl (C.val (fun w hs => contractNaming k A c name _ (hr.below hs.mod.below)))) ?_
    rintro _ _ ⟨rfl, rfl⟩
    refine RW.y (.inr ⟨_, _, 23, rfl, rfl, rfl⟩) rfl (Yv.not rfl) ?_
    refine RW.y (.inl rfl) rfl (Yv.pickF rfl rfl) ?_
    refine RW.nil ?_
    refine PW.go ?_
    refine CW.cond rfl (fun hc28 => ?_) (fun hc28 => ?_)
    ·
      refine CW.seq ?_
      refine CW.region ?_
      refine RW.y (.inl rfl) rfl (Yv.assign rfl) ?_
      refine RW.y (.inl rfl) rfl (Yv.assign rfl) ?_
      refine RW.nil ?_
      refine PW.go ?_
      refine CW.ret ?_
      refine PW.then_ret ?_
      refine PW.ret2 Try.results28 rfl rfl (fun w1 hs => ?_)
      exact ⟨rfl, hs.mod.below⟩
    ·
      exact absurd ⟨by omega, by simpa using hc28⟩ hb

def pairF (u v : Int) (x : Int) : Int := if x = max u v then min u v else if max u v < x then x - 1 else x
def pairNm (n : Nat) (u v : Int) : List Int := (List.range n).map fun (x : Nat) => pairF u v x
def pairTo (n : Nat) (u v : Int) (i : Nat) : List Int := (List.range n).map fun (x : Nat) => if x < i then pairF u v x else 0
theorem pairTo_length (n : Nat) (u v : Int) (i : Nat) : (pairTo n u v i).length = n := by simp [pairTo]
theorem pairNm_length (n : Nat) (u v : Int) : (pairNm n u v).length = n := by simp [pairNm]
theorem pairTo_zero (n : Nat) (u v : Int) : pairTo n u v 0 = List.replicate n 0 := by
  apply List.ext_getElem?
  intro j
  unfold pairTo
  rw [map_range_get, List.getElem?_replicate]; simp
theorem pairTo_all (n : Nat) (u v : Int) : pairTo n u v n = pairNm n u v := by
  unfold pairTo pairNm
  apply List.map_congr_left
  intro x hx
  rw [if_pos (List.mem_range.1 hx)]
theorem pairTo_succ (n : Nat) (u v : Int) (i : Nat) : (pairTo n u v i).set i (pairF u v i) = pairTo n u v (i + 1) := by
  unfold pairTo
  refine map_range_set _ _ _ _ _ (fun j hj hne => ?_) (fun hk => by rw [if_pos (by omega)])
  by_cases h : j < i
  · rw [if_pos h, if_pos (by omega)]
  · rw [if_neg h, if_neg (by omega)]
theorem pair_nam {n : Nat} {u v : Int} (hn : n ≤ 4096) (hu : 0 ≤ u ∧ u < n) (hv : 0 ≤ v ∧ v < n) (huv : u ≠ v) : namB ((n : Int) - 1) (pairNm n u v) = true := by
  have hM : max u v = u ∨ max u v = v := by rw [Int.max_def]; split <;> simp
  have hm1 : min u v < max u v := by rw [Int.max_def, Int.min_def]; split <;> omega
  have hm2 : 0 ≤ min u v ∧ max u v < n := by rw [Int.max_def, Int.min_def]; split <;> omega
  refine (namB_iff _ _).2 ⟨⟨by omega, by omega, by rw [pairNm_length]; exact hn⟩, fun x hx => ?_, fun j hj => ?_⟩
  · obtain ⟨y, hy, rfl⟩ := List.mem_map.1 hx
    have hy' := List.mem_range.1 hy
    unfold pairF
    by_cases h1 : (y : Int) = max u v
    · rw [if_pos h1]; omega
    · rw [if_neg h1]
      by_cases h2 : max u v < (y : Int)
      · rw [if_pos h2]; omega
      · rw [if_neg h2]; omega
  · by_cases h : (j : Int) < max u v
    · refine List.mem_map.2 ⟨j, List.mem_range.2 (by omega), ?_⟩
      unfold pairF
      rw [if_neg (by omega), if_neg (by omega)]
    · refine List.mem_map.2 ⟨j + 1, List.mem_range.2 (by omega), ?_⟩
      unfold pairF
      rw [if_neg (by omega), if_pos (by omega)]; omega
def pairErr (n u v : Int) : Int := if u < 0 ∨ n ≤ u ∨ v < 0 ∨ n ≤ v then 4 else if u = v then 6 else 0

set_option maxRecDepth 100000 in
theorem contractPair (p : Value) (n : Nat) (l : List Edg) (hok : ArcsOk n l) (hll : l.length ≤ 4096) (hlt : totalW l ≤ 8796093022208) (u v : Int) (w : World) (hN : ∀ w', Gr w w' → Calls Try.prog 31 #[p] w' fun e w1 => e = .returned (.int .i64 n) ∧ Gr w' w1) (hE : ∀ w', Gr w w' → Calls Try.prog 33 #[p] w' fun e w1 => ∃ v, e = .returned v ∧ Gr w' w1 ∧ ∃ F, (row v 72 3 l.length (cellsE l)).holds w1 F ∧ ∀ k, F k → w'.heap.size ≤ k ∧ k < w1.heap.size) (hb : (0 ≤ u ∧ u < n) ∧ (0 ≤ v ∧ v < n) ∧ u ≠ v) : Calls Try.prog 29 #[p, .int .i64 u, .int .i64 v] w fun e w1 => ∃ x : Nat × Value, True ∧ e = .returned (.tuple #[.pointer (some ⟨x.1, 0, none⟩), x.2, .int .i64 0]) ∧ Gr w w1 ∧ ∃ F, (Ass.star (nowA (fun w' => IsNet w' x.1 (netOf ((n : Int) - 1) (splitL (mergeL (renL (pairNm n u v) l)))))) (row x.2 3 1 n (i64s (pairNm n u v)))).holds w1 F ∧ ∀ q, F q → w.heap.size ≤ q ∧ q < w1.heap.size := by
  have hn := hok.hn
  have hpn := pairNm_length n u v
  have hnb := pair_nam (u := u) (v := v) hn hb.1 hb.2.1 hb.2.2
  refine CW.enter (P := Try.prog) (F0 := none0) (L := [(0, _), (1, _), (2, _)]) 77 [] Try.func29 rfl Try.ntmps29 (Nat.le_of_ble_eq_true rfl) (St.start w none0) rfl ?_
  refine CW.seq ?_
  refine CW.region ?_
  refine RW.y (.inl rfl) rfl (Yv.assign rfl) ?_
  refine RW.y (.inl rfl) rfl (Yv.assign rfl) ?_
  refine RW.y (.inl rfl) rfl (Yv.assign rfl) ?_
  refine RW.nil ?_
  refine PW.go ?_
  refine CW.seq ?_
  refine CW.region ?_
  refine RW.y (.inl rfl) rfl (Yv.move rfl) ?_
  refine RW.o _ (.inl rfl) rfl (Ow.call e31 rfl (C.val (fun w hs => hN _ hs.mod.below))) ?_
  rintro _ _ ⟨rfl, rfl⟩
  refine RW.y (.inl rfl) rfl (Yv.assign rfl) ?_
  refine RW.nil ?_
  refine PW.go ?_
  refine CW.seq ?_
  refine CW.block ?_
  refine CW.seq ?_
  refine CW.seq ?_
  refine CW.region ?_
  refine RW.y (.inl rfl) rfl (Yv.move rfl) ?_
  refine RW.y (.inl rfl) rfl (Yv.lt rfl rfl) ?_
  refine RW.y (.inl rfl) rfl (Yv.assign rfl) ?_
  refine RW.nil ?_
  refine PW.go ?_
  refine CW.condD rfl (fun hc18 => ?_) (fun hc18 => ?_)
  ·
    omega
  ·
    refine CW.seq ?_
    refine CW.region ?_
    refine RW.y (.inl rfl) rfl (Yv.move rfl) ?_
    refine RW.y (.inl rfl) rfl (Yv.lt rfl rfl) ?_
    refine RW.y (.inl rfl) rfl (Yv.assign rfl) ?_
    refine RW.nil ?_
    refine PW.go ?_
    refine CW.condD rfl (fun hc18 => ?_) (fun hc18 => ?_)
    ·
      omega
    ·
      refine CW.seq ?_
      refine CW.region ?_
      refine RW.y (.inl rfl) rfl (Yv.move rfl) ?_
      refine RW.y (.inl rfl) rfl (Yv.move rfl) ?_
      refine RW.y (.inl rfl) rfl (Yv.ge rfl rfl) ?_
      refine RW.y (.inl rfl) rfl (Yv.assign rfl) ?_
      refine RW.nil ?_
      refine PW.go ?_
      refine CW.condD rfl (fun hc18 => ?_) (fun hc18 => ?_)
      ·
        omega
      ·
        refine CW.region ?_
        refine RW.y (.inl rfl) rfl (Yv.move rfl) ?_
        refine RW.y (.inl rfl) rfl (Yv.move rfl) ?_
        refine RW.y (.inl rfl) rfl (Yv.ge rfl rfl) ?_
        refine RW.y (.inl rfl) rfl (Yv.assign rfl) ?_
        refine RW.nil ?_
        refine PW.go ?_
        refine CW.condD rfl (fun hc18 => ?_) (fun hc18 => ?_)
        ·
          omega
        ·
          refine CW.seq ?_
          refine CW.region ?_
          refine RW.y (.inl rfl) rfl (Yv.move rfl) ?_
          refine RW.y (.inl rfl) rfl (Yv.move rfl) ?_
          refine RW.y (.inl rfl) rfl (Yv.eq rfl rfl) ?_
          refine RW.y (.inl rfl) rfl (Yv.assign rfl) ?_
          refine RW.nil ?_
          refine PW.go ?_
          refine CW.condD rfl (fun hc29 => ?_) (fun hc29 => ?_)
          ·
            omega
          ·
            refine CW.skip ?_
            refine PW.block ?_
            refine PW.go ?_
            refine CW.seq ?_
            refine CW.region ?_
            refine RW.y (.inl rfl) rfl (Yv.move rfl) ?_
            refine RW.y (.inl rfl) rfl (Yv.move rfl) ?_
            refine RW.y (.inl rfl) rfl (Yv.min rfl rfl) ?_
            refine RW.y (.inl rfl) rfl (Yv.move rfl) ?_
            refine RW.y (.inl rfl) rfl (Yv.move rfl) ?_
            refine RW.y (.inl rfl) rfl (Yv.max rfl rfl) ?_
            refine RW.y (.inl rfl) rfl (Yv.assign rfl) ?_
            refine RW.y (.inl rfl) rfl (Yv.assign rfl) ?_
            refine RW.nil ?_
            refine PW.go ?_
            refine CW.seq ?_
            refine CW.region ?_
            refine RW.y (.inl rfl) rfl (Yv.move rfl) ?_
            refine RW.o _ (.inl rfl) rfl (Ow.make (m := n) Try.underlying32 info3 rfl rfl rfl (by omega) (by omega) (by omega) (by omega)) ?_
            rintro _ _ ⟨b40, rfl, rfl⟩
            refine RW.y (.inl rfl) rfl (Yv.assign rfl) ?_
            refine RW.nil ?_
            refine PW.go ?_
            refine CW.seq ?_
            refine CW.seq ?_
            refine CW.mem _ (fun w h => h.row_eq (m' := n) (xs' := i64s (pairTo n u v 0)) 0 rfl (rfl) (by rw [pairTo_zero]; simp [i64s])) ?_
            refine CW.region ?_
            refine RW.y (.inl rfl) rfl (Yv.move rfl) ?_
            refine RW.y (.inl rfl) rfl (Yv.len Try.underlying32 rfl) ?_
            refine RW.y (.inl rfl) rfl (Yv.move rfl) ?_
            refine RW.nil ?_
            refine PW.go ?_
            refine CW.block ?_
            refine CW.loop (σ := Nat) (fun i => i ≤ n) (fun i => [(0, p), (9, .int .i64 n), (10, .int .i64 (min u v)), (11, .int .i64 (max u v)), (12, .slice (some ⟨b40, 0, none⟩) n n), (42, .int .i64 n), (43, .int .i64 (i : Nat))]) (fun i => [row (.slice (some ⟨b40, 0, none⟩) n n) 3 1 n (i64s (pairTo n u v i))]) (fun i => n - i) 0 (by simp) ⟨rfl, rfl, rfl, rfl, rfl, rfl, rfl, trivial⟩ (fun w h => h) ?_
            intro i hi
            refine CW.seq ?_
            refine CW.region ?_
            refine RW.y (.inl rfl) rfl (Yv.lt rfl rfl) ?_
            refine RW.nil ?_
            refine PW.go ?_
            refine CW.seq ?_
            refine CW.condD rfl (fun hc44 => ?_) (fun hc44 => ?_)
            ·
              refine CW.skip ?_
              refine PW.go ?_
              refine CW.seq ?_
              refine CW.block ?_
              refine CW.seq ?_
              refine CW.region ?_
              refine RW.y (.inl rfl) rfl (Yv.move rfl) ?_
              refine RW.y (.inl rfl) rfl (Yv.assign rfl) ?_
              refine RW.nil ?_
              refine PW.go ?_
              refine CW.seq ?_
              have hptl := pairTo_length n u v i
              refine CW.region ?_
              refine RW.y (.inl rfl) rfl (Yv.move rfl) ?_
              refine RW.y (.inl rfl) rfl (Yv.move rfl) ?_
              refine RW.y (.inl rfl) rfl (Yv.move rfl) ?_
              refine RW.y (.inl rfl) rfl (Yv.index0 Try.underlying32 Try.sizeOf3 rfl rfl (by omega) (by omega)) ?_
              refine RW.o _ (.inl rfl) rfl (Ow.storeRow 0 Try.sizeOf3 rfl rfl (rfl) rfl (by rw [i64s_length]; omega)) ?_
              rintro _ _ ⟨rfl, rfl⟩
              refine RW.nil ?_
              refine PW.go ?_
              refine CW.seq ?_
              refine CW.seq ?_
              refine CW.region ?_
              refine RW.y (.inl rfl) rfl (Yv.move rfl) ?_
              refine RW.y (.inl rfl) rfl (Yv.move rfl) ?_
              refine RW.y (.inl rfl) rfl (Yv.eq rfl rfl) ?_
              refine RW.nil ?_
              refine PW.go ?_
              refine CW.condD rfl (fun hc52 => ?_) (fun hc52 => ?_)
              ·
                refine CW.region ?_
                refine RW.y (.inl rfl) rfl (Yv.move rfl) ?_
                refine RW.y (.inl rfl) rfl (Yv.move rfl) ?_
                refine RW.y (.inl rfl) rfl (Yv.move rfl) ?_
                refine RW.y (.inl rfl) rfl (Yv.index0 Try.underlying32 Try.sizeOf3 rfl rfl (by omega) (by omega)) ?_
                refine RW.o _ (.inl rfl) rfl (Ow.storeRow 0 Try.sizeOf3 rfl rfl (rfl) rfl (by rw [List.length_set, i64s_length]; omega)) ?_
                rintro _ _ ⟨rfl, rfl⟩
                refine RW.nil ?_
                refine PW.go ?_
                refine CW.seq ?_
                refine CW.region ?_
                refine RW.y (.inl rfl) rfl (Yv.move rfl) ?_
                refine RW.y (.inl rfl) rfl (Yv.move rfl) ?_
                refine RW.y (.inl rfl) rfl (Yv.gt rfl rfl) ?_
                refine RW.nil ?_
                refine PW.go ?_
                refine CW.condD rfl (fun hc59 => ?_) (fun hc59 => ?_)
                ·
                  refine CW.region ?_
                  refine RW.y (.inl rfl) rfl (Yv.move rfl) ?_
                  refine RW.y (.inl rfl) rfl (Yv.move rfl) ?_
                  refine RW.y (.inl rfl) rfl (Yv.move rfl) ?_
                  refine RW.y (.inl rfl) rfl (Yv.sub rfl rfl (by omega)) ?_
                  refine RW.y (.inl rfl) rfl (Yv.index0 Try.underlying32 Try.sizeOf3 rfl rfl (by omega) (by omega)) ?_
                  refine RW.o _ (.inl rfl) rfl (Ow.storeRow 0 Try.sizeOf3 rfl rfl (rfl) rfl (by simp only [List.length_set, i64s_length]; omega)) ?_
                  rintro _ _ ⟨rfl, rfl⟩
                  refine RW.nil ?_
                  refine PW.block ?_
                  refine PW.go ?_
                  refine CW.region ?_
                  refine RW.y (.inl rfl) rfl (Yv.add rfl rfl (by omega)) ?_
                  refine RW.y (.inl rfl) rfl (Yv.move rfl) ?_
                  refine RW.nil ?_
                  refine PW.mem _ (fun w h => h.row_eq (m' := n) (xs' := i64s (pairTo n u v (i + 1))) 0 rfl (rfl) (by rw [← pairTo_succ, ← i64s_set]; simp only [List.set_set, Int.toNat_natCast]; congr 2; unfold pairF; first | (rw [if_pos (by omega)]; done) | (rw [if_neg (by omega), if_pos (by omega)]; done) | (rw [if_neg (by omega), if_neg (by omega)]; done) | (exfalso; omega))) ?_
                  exact PW.next (i + 1) (by omega) ⟨rfl, rfl, rfl, rfl, rfl, rfl, rfl, trivial⟩ (fun w h => h) (by omega)
                ·
                  refine CW.skip ?_
                  refine PW.block ?_
                  refine PW.go ?_
                  refine CW.region ?_
                  refine RW.y (.inl rfl) rfl (Yv.add rfl rfl (by omega)) ?_
                  refine RW.y (.inl rfl) rfl (Yv.move rfl) ?_
                  refine RW.nil ?_
                  refine PW.mem _ (fun w h => h.row_eq (m' := n) (xs' := i64s (pairTo n u v (i + 1))) 0 rfl (rfl) (by rw [← pairTo_succ, ← i64s_set]; simp only [List.set_set, Int.toNat_natCast]; congr 2; unfold pairF; first | (rw [if_pos (by omega)]; done) | (rw [if_neg (by omega), if_pos (by omega)]; done) | (rw [if_neg (by omega), if_neg (by omega)]; done) | (exfalso; omega))) ?_
                  exact PW.next (i + 1) (by omega) ⟨rfl, rfl, rfl, rfl, rfl, rfl, rfl, trivial⟩ (fun w h => h) (by omega)
              ·
                refine CW.skip ?_
                refine PW.go ?_
                refine CW.seq ?_
                refine CW.region ?_
                refine RW.y (.inl rfl) rfl (Yv.move rfl) ?_
                refine RW.y (.inl rfl) rfl (Yv.move rfl) ?_
                refine RW.y (.inl rfl) rfl (Yv.gt rfl rfl) ?_
                refine RW.nil ?_
                refine PW.go ?_
                refine CW.condD rfl (fun hc59 => ?_) (fun hc59 => ?_)
                ·
                  refine CW.region ?_
                  refine RW.y (.inl rfl) rfl (Yv.move rfl) ?_
                  refine RW.y (.inl rfl) rfl (Yv.move rfl) ?_
                  refine RW.y (.inl rfl) rfl (Yv.move rfl) ?_
                  refine RW.y (.inl rfl) rfl (Yv.sub rfl rfl (by omega)) ?_
                  refine RW.y (.inl rfl) rfl (Yv.index0 Try.underlying32 Try.sizeOf3 rfl rfl (by omega) (by omega)) ?_
                  refine RW.o _ (.inl rfl) rfl (Ow.storeRow 0 Try.sizeOf3 rfl rfl (rfl) rfl (by simp only [List.length_set, i64s_length]; omega)) ?_
                  rintro _ _ ⟨rfl, rfl⟩
                  refine RW.nil ?_
                  refine PW.block ?_
                  refine PW.go ?_
                  refine CW.region ?_
                  refine RW.y (.inl rfl) rfl (Yv.add rfl rfl (by omega)) ?_
                  refine RW.y (.inl rfl) rfl (Yv.move rfl) ?_
                  refine RW.nil ?_
                  refine PW.mem _ (fun w h => h.row_eq (m' := n) (xs' := i64s (pairTo n u v (i + 1))) 0 rfl (rfl) (by rw [← pairTo_succ, ← i64s_set]; simp only [List.set_set, Int.toNat_natCast]; congr 2; unfold pairF; first | (rw [if_pos (by omega)]; done) | (rw [if_neg (by omega), if_pos (by omega)]; done) | (rw [if_neg (by omega), if_neg (by omega)]; done) | (exfalso; omega))) ?_
                  exact PW.next (i + 1) (by omega) ⟨rfl, rfl, rfl, rfl, rfl, rfl, rfl, trivial⟩ (fun w h => h) (by omega)
                ·
                  refine CW.skip ?_
                  refine PW.block ?_
                  refine PW.go ?_
                  refine CW.region ?_
                  refine RW.y (.inl rfl) rfl (Yv.add rfl rfl (by omega)) ?_
                  refine RW.y (.inl rfl) rfl (Yv.move rfl) ?_
                  refine RW.nil ?_
                  refine PW.mem _ (fun w h => h.row_eq (m' := n) (xs' := i64s (pairTo n u v (i + 1))) 0 rfl (rfl) (by rw [← pairTo_succ, ← i64s_set]; simp only [List.set_set, Int.toNat_natCast]; congr 2; unfold pairF; first | (rw [if_pos (by omega)]; done) | (rw [if_neg (by omega), if_pos (by omega)]; done) | (rw [if_neg (by omega), if_neg (by omega)]; done) | (exfalso; omega))) ?_
                  exact PW.next (i + 1) (by omega) ⟨rfl, rfl, rfl, rfl, rfl, rfl, rfl, trivial⟩ (fun w h => h) (by omega)
            ·
              refine CW.exit ?_
              refine PW.then_exit ?_
              refine PW.then_exit ?_
              refine PW.block_exit ?_
              refine PW.go ?_
              refine CW.seq ?_
              refine CW.mem _ (fun w h => h.row_eq (m' := n) (xs' := i64s (pairNm n u v)) 0 rfl (rfl) (by rw [show i = n by omega, pairTo_all])) ?_
              have hpe : (some ⟨b40, 0, none⟩ : Option Addr) = some ⟨b40, 0, none⟩ := rfl
              refine CW.region ?_
              refine RW.y (.inl rfl) rfl (Yv.move rfl) ?_
              refine RW.y (.inl rfl) rfl (Yv.move rfl) ?_
              refine RW.y (.inl rfl) rfl (Yv.sub rfl rfl (by omega)) ?_
              refine RW.y (.inl rfl) rfl (Yv.move rfl) ?_
              refine RW.o _ (.inl rfl) rfl (Ow.call e28 rfl (C.new (val := fun (b : Nat) => .tuple #[.pointer (some ⟨b, 0, none⟩), .int .i64 0]) (φ := fun _ => True) (Ψ := fun b => nowA (fun w' => IsNet w' b (netOf ((n : Int) - 1) (splitL (mergeL (renL (pairNm n u v) l)))))) (fun w2 hs => by
                  have h := contractOf p n l hok hll hlt ((n : Int) - 1) (some ⟨b40, 0, none⟩) n (pairNm n u v) w2 (by rw [hpn]; exact hs.row_Rd 0 rfl (by omega)) (fun w' hg => hN w' (hs.mod.below.trans hg)) (fun w' hg => hE w' (hs.mod.below.trans hg)) ⟨hpn, hnb⟩
                  rw [hpn] at h
                  exact h))) ?_
              rintro _ _ ⟨bg, -, rfl, rfl⟩
              refine RW.y (.inl rfl) rfl (Yv.move rfl) ?_
              refine RW.y (.inl rfl) rfl (Yv.extract rfl rfl) ?_
              refine RW.y (.inl rfl) rfl (Yv.extract rfl rfl) ?_
              refine RW.y (.inl rfl) rfl (Yv.assign rfl) ?_
              refine RW.y (.inl rfl) rfl (Yv.assign rfl) ?_
              refine RW.nil ?_
              refine PW.go ?_
              refine CW.seq ?_
              refine CW.region ?_
              refine RW.y (.inl rfl) rfl (Yv.move rfl) ?_
              refine RW.y (.inl rfl) rfl (Yv.move rfl) ?_
              refine RW.y (.inl rfl) rfl (Yv.move rfl) ?_
              refine RW.y (.inl rfl) rfl (Yv.assign rfl) ?_
              refine RW.y (.inl rfl) rfl (Yv.assign rfl) ?_
              refine RW.y (.inl rfl) rfl (Yv.assign rfl) ?_
              refine RW.nil ?_
              refine PW.go ?_
              refine CW.ret ?_
              refine PW.ret3 Try.results29 rfl rfl rfl (fun w1 hs => ?_)
              obtain ⟨F, hF, hk⟩ := hs.join.out 0 rfl
              exact ⟨(bg, .slice (some ⟨b40, 0, none⟩) n n), trivial, rfl, hs.mod.below, F, hF, hk⟩

set_option maxRecDepth 100000 in
theorem contractPair_err (p : Value) (n : Nat) (u v : Int) (hu : -9223372036854775808 ≤ u ∧ u ≤ 9223372036854775807) (hv : -9223372036854775808 ≤ v ∧ v ≤ 9223372036854775807) (w : World) (hN : ∀ w', Gr w w' → Calls Try.prog 31 #[p] w' fun e w1 => e = .returned (.int .i64 n) ∧ Gr w' w1) (hb : u < 0 ∨ n ≤ u ∨ v < 0 ∨ n ≤ v ∨ u = v) : Calls Try.prog 29 #[p, .int .i64 u, .int .i64 v] w fun e w1 => e = .returned (.tuple #[.pointer none, .slice none 0 0, .int .i64 (pairErr n u v)]) ∧ Gr w w1 := by
  refine CW.enter (P := Try.prog) (F0 := none0) (L := [(0, _), (1, _), (2, _)]) 77 [] Try.func29 rfl Try.ntmps29 (Nat.le_of_ble_eq_true rfl) (St.start w none0) rfl ?_
  refine CW.seq ?_
  refine CW.region ?_
  refine RW.y (.inl rfl) rfl (Yv.assign rfl) ?_
  refine RW.y (.inl rfl) rfl (Yv.assign rfl) ?_
  refine RW.y (.inl rfl) rfl (Yv.assign rfl) ?_
  refine RW.nil ?_
  refine PW.go ?_
  refine CW.seq ?_
  refine CW.region ?_
  refine RW.y (.inl rfl) rfl (Yv.move rfl) ?_
  refine RW.o _ (.inl rfl) rfl (Ow.call e31 rfl (C.val (fun w hs => hN _ hs.mod.below))) ?_
  rintro _ _ ⟨rfl, rfl⟩
  refine RW.y (.inl rfl) rfl (Yv.assign rfl) ?_
  refine RW.nil ?_
  refine PW.go ?_
  refine CW.seq ?_
  refine CW.block ?_
  refine CW.seq ?_
  refine CW.seq ?_
  refine CW.region ?_
  refine RW.y (.inl rfl) rfl (Yv.move rfl) ?_
  refine RW.y (.inl rfl) rfl (Yv.lt rfl rfl) ?_
  refine RW.y (.inl rfl) rfl (Yv.assign rfl) ?_
  refine RW.nil ?_
  refine PW.go ?_
  refine CW.condD rfl (fun hc18 => ?_) (fun hc18 => ?_)
  ·
    refine CW.skip ?_
    refine PW.go ?_
    refine CW.condD rfl (fun hc18 => ?_) (fun hc18 => ?_)
    ·
      refine CW.seq ?_
      refine CW.region ?_
      refine RW.y (.inl rfl) rfl (Yv.assign rfl) ?_
      refine RW.y (.inl rfl) rfl (Yv.assign rfl) ?_
      refine RW.y (.inl rfl) rfl (Yv.assign rfl) ?_
      refine RW.nil ?_
      refine PW.go ?_
      refine CW.ret ?_
      refine PW.block_ret ?_
      refine PW.then_ret ?_
      refine PW.ret3 Try.results29 rfl rfl rfl (fun w1 hs => ?_)
      refine ⟨?_, hs.mod.below⟩
      unfold pairErr
      first
      | (rw [if_pos (by omega)]; done)
      | (rw [if_neg (by omega), if_pos (by omega)]; done)
      | (exfalso; omega)
    ·
      refine CW.seq ?_
      refine CW.region ?_
      refine RW.y (.inl rfl) rfl (Yv.move rfl) ?_
      refine RW.y (.inl rfl) rfl (Yv.move rfl) ?_
      refine RW.y (.inl rfl) rfl (Yv.eq rfl rfl) ?_
      refine RW.y (.inl rfl) rfl (Yv.assign rfl) ?_
      refine RW.nil ?_
      refine PW.go ?_
      refine CW.condD rfl (fun hc29 => ?_) (fun hc29 => ?_)
      ·
        refine CW.seq ?_
        refine CW.region ?_
        refine RW.y (.inl rfl) rfl (Yv.assign rfl) ?_
        refine RW.y (.inl rfl) rfl (Yv.assign rfl) ?_
        refine RW.y (.inl rfl) rfl (Yv.assign rfl) ?_
        refine RW.nil ?_
        refine PW.go ?_
        refine CW.ret ?_
        refine PW.block_ret ?_
        refine PW.then_ret ?_
        refine PW.ret3 Try.results29 rfl rfl rfl (fun w1 hs => ?_)
        refine ⟨?_, hs.mod.below⟩
        unfold pairErr
        first
        | (rw [if_pos (by omega)]; done)
        | (rw [if_neg (by omega), if_pos (by omega)]; done)
        | (exfalso; omega)
      ·
        omega
  ·
    refine CW.seq ?_
    refine CW.region ?_
    refine RW.y (.inl rfl) rfl (Yv.move rfl) ?_
    refine RW.y (.inl rfl) rfl (Yv.lt rfl rfl) ?_
    refine RW.y (.inl rfl) rfl (Yv.assign rfl) ?_
    refine RW.nil ?_
    refine PW.go ?_
    refine CW.condD rfl (fun hc18 => ?_) (fun hc18 => ?_)
    ·
      refine CW.skip ?_
      refine PW.go ?_
      refine CW.condD rfl (fun hc18 => ?_) (fun hc18 => ?_)
      ·
        refine CW.seq ?_
        refine CW.region ?_
        refine RW.y (.inl rfl) rfl (Yv.assign rfl) ?_
        refine RW.y (.inl rfl) rfl (Yv.assign rfl) ?_
        refine RW.y (.inl rfl) rfl (Yv.assign rfl) ?_
        refine RW.nil ?_
        refine PW.go ?_
        refine CW.ret ?_
        refine PW.block_ret ?_
        refine PW.then_ret ?_
        refine PW.ret3 Try.results29 rfl rfl rfl (fun w1 hs => ?_)
        refine ⟨?_, hs.mod.below⟩
        unfold pairErr
        first
        | (rw [if_pos (by omega)]; done)
        | (rw [if_neg (by omega), if_pos (by omega)]; done)
        | (exfalso; omega)
      ·
        refine CW.seq ?_
        refine CW.region ?_
        refine RW.y (.inl rfl) rfl (Yv.move rfl) ?_
        refine RW.y (.inl rfl) rfl (Yv.move rfl) ?_
        refine RW.y (.inl rfl) rfl (Yv.eq rfl rfl) ?_
        refine RW.y (.inl rfl) rfl (Yv.assign rfl) ?_
        refine RW.nil ?_
        refine PW.go ?_
        refine CW.condD rfl (fun hc29 => ?_) (fun hc29 => ?_)
        ·
          refine CW.seq ?_
          refine CW.region ?_
          refine RW.y (.inl rfl) rfl (Yv.assign rfl) ?_
          refine RW.y (.inl rfl) rfl (Yv.assign rfl) ?_
          refine RW.y (.inl rfl) rfl (Yv.assign rfl) ?_
          refine RW.nil ?_
          refine PW.go ?_
          refine CW.ret ?_
          refine PW.block_ret ?_
          refine PW.then_ret ?_
          refine PW.ret3 Try.results29 rfl rfl rfl (fun w1 hs => ?_)
          refine ⟨?_, hs.mod.below⟩
          unfold pairErr
          first
          | (rw [if_pos (by omega)]; done)
          | (rw [if_neg (by omega), if_pos (by omega)]; done)
          | (exfalso; omega)
        ·
          omega
    ·
      refine CW.seq ?_
      refine CW.region ?_
      refine RW.y (.inl rfl) rfl (Yv.move rfl) ?_
      refine RW.y (.inl rfl) rfl (Yv.move rfl) ?_
      refine RW.y (.inl rfl) rfl (Yv.ge rfl rfl) ?_
      refine RW.y (.inl rfl) rfl (Yv.assign rfl) ?_
      refine RW.nil ?_
      refine PW.go ?_
      refine CW.condD rfl (fun hc18 => ?_) (fun hc18 => ?_)
      ·
        refine CW.skip ?_
        refine PW.go ?_
        refine CW.condD rfl (fun hc18 => ?_) (fun hc18 => ?_)
        ·
          refine CW.seq ?_
          refine CW.region ?_
          refine RW.y (.inl rfl) rfl (Yv.assign rfl) ?_
          refine RW.y (.inl rfl) rfl (Yv.assign rfl) ?_
          refine RW.y (.inl rfl) rfl (Yv.assign rfl) ?_
          refine RW.nil ?_
          refine PW.go ?_
          refine CW.ret ?_
          refine PW.block_ret ?_
          refine PW.then_ret ?_
          refine PW.ret3 Try.results29 rfl rfl rfl (fun w1 hs => ?_)
          refine ⟨?_, hs.mod.below⟩
          unfold pairErr
          first
          | (rw [if_pos (by omega)]; done)
          | (rw [if_neg (by omega), if_pos (by omega)]; done)
          | (exfalso; omega)
        ·
          refine CW.seq ?_
          refine CW.region ?_
          refine RW.y (.inl rfl) rfl (Yv.move rfl) ?_
          refine RW.y (.inl rfl) rfl (Yv.move rfl) ?_
          refine RW.y (.inl rfl) rfl (Yv.eq rfl rfl) ?_
          refine RW.y (.inl rfl) rfl (Yv.assign rfl) ?_
          refine RW.nil ?_
          refine PW.go ?_
          refine CW.condD rfl (fun hc29 => ?_) (fun hc29 => ?_)
          ·
            refine CW.seq ?_
            refine CW.region ?_
            refine RW.y (.inl rfl) rfl (Yv.assign rfl) ?_
            refine RW.y (.inl rfl) rfl (Yv.assign rfl) ?_
            refine RW.y (.inl rfl) rfl (Yv.assign rfl) ?_
            refine RW.nil ?_
            refine PW.go ?_
            refine CW.ret ?_
            refine PW.block_ret ?_
            refine PW.then_ret ?_
            refine PW.ret3 Try.results29 rfl rfl rfl (fun w1 hs => ?_)
            refine ⟨?_, hs.mod.below⟩
            unfold pairErr
            first
            | (rw [if_pos (by omega)]; done)
            | (rw [if_neg (by omega), if_pos (by omega)]; done)
            | (exfalso; omega)
          ·
            omega
      ·
        refine CW.region ?_
        refine RW.y (.inl rfl) rfl (Yv.move rfl) ?_
        refine RW.y (.inl rfl) rfl (Yv.move rfl) ?_
        refine RW.y (.inl rfl) rfl (Yv.ge rfl rfl) ?_
        refine RW.y (.inl rfl) rfl (Yv.assign rfl) ?_
        refine RW.nil ?_
        refine PW.go ?_
        refine CW.condD rfl (fun hc18 => ?_) (fun hc18 => ?_)
        ·
          refine CW.seq ?_
          refine CW.region ?_
          refine RW.y (.inl rfl) rfl (Yv.assign rfl) ?_
          refine RW.y (.inl rfl) rfl (Yv.assign rfl) ?_
          refine RW.y (.inl rfl) rfl (Yv.assign rfl) ?_
          refine RW.nil ?_
          refine PW.go ?_
          refine CW.ret ?_
          refine PW.block_ret ?_
          refine PW.then_ret ?_
          refine PW.ret3 Try.results29 rfl rfl rfl (fun w1 hs => ?_)
          refine ⟨?_, hs.mod.below⟩
          unfold pairErr
          first
          | (rw [if_pos (by omega)]; done)
          | (rw [if_neg (by omega), if_pos (by omega)]; done)
          | (exfalso; omega)
        ·
          refine CW.seq ?_
          refine CW.region ?_
          refine RW.y (.inl rfl) rfl (Yv.move rfl) ?_
          refine RW.y (.inl rfl) rfl (Yv.move rfl) ?_
          refine RW.y (.inl rfl) rfl (Yv.eq rfl rfl) ?_
          refine RW.y (.inl rfl) rfl (Yv.assign rfl) ?_
          refine RW.nil ?_
          refine PW.go ?_
          refine CW.condD rfl (fun hc29 => ?_) (fun hc29 => ?_)
          ·
            refine CW.seq ?_
            refine CW.region ?_
            refine RW.y (.inl rfl) rfl (Yv.assign rfl) ?_
            refine RW.y (.inl rfl) rfl (Yv.assign rfl) ?_
            refine RW.y (.inl rfl) rfl (Yv.assign rfl) ?_
            refine RW.nil ?_
            refine PW.go ?_
            refine CW.ret ?_
            refine PW.block_ret ?_
            refine PW.then_ret ?_
            refine PW.ret3 Try.results29 rfl rfl rfl (fun w1 hs => ?_)
            refine ⟨?_, hs.mod.below⟩
            unfold pairErr
            first
            | (rw [if_pos (by omega)]; done)
            | (rw [if_neg (by omega), if_pos (by omega)]; done)
            | (exfalso; omega)
          ·
            omega

end Go.Proofs.Ytipoblpnkkcpgaa
