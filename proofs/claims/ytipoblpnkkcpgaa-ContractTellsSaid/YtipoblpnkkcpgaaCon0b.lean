/- Walks, written by a program of this session (gen.py) out of a spec. -/
import Derived.Test.YtipoblpnkkcpgaaConP
import Derived.Test.YtipoblpnkkcpgaaRef0
set_option linter.unusedVariables false
set_option linter.unusedSimpArgs false
namespace Go.Proofs.Ytipoblpnkkcpgaa
open Go Go.RowKit Go.Proofs.Ytipoblpnkkcpgaa.B

theorem namB_false1 {k : Int} {name : List Int} (h : ¬ (0 ≤ k ∧ k ≤ 4096 ∧ name.length ≤ 4096)) : namB k name = false := by
  cases hb : namB k name with
  | false => rfl
  | true => exact absurd ((namB_iff k name).1 hb).1 h
theorem namB_false2 {k x : Int} {name : List Int} (hx : x ∈ name) (h : ¬ (0 ≤ x ∧ x < k)) : namB k name = false := by
  cases hb : namB k name with
  | false => rfl
  | true => exact absurd (((namB_iff k name).1 hb).2.1 x hx) h
theorem namB_last {K : Nat} {name : List Int} (h : K ≤ 4096 ∧ name.length ≤ 4096) (hr : ∀ v ∈ name, 0 ≤ v ∧ v < (K : Int)) : namB K name = decide (((leftC K name : Nat) : Int) = 0) := by
  have hz := leftC_zero (k := K) (xs := name)
  by_cases h0 : leftC K name = 0
  · rw [decide_eq_true (by omega)]
    exact (namB_iff _ _).2 ⟨⟨by omega, by omega, h.2⟩, hr, fun j hj => hz.1 h0 j (by omega)⟩
  · rw [decide_eq_false (by omega)]
    cases hb : namB K name with
    | false => rfl
    | true => exact absurd (hz.2 (fun j hj => ((namB_iff _ _).1 hb).2.2 j (by omega))) h0
theorem see_step {K : Nat} {xs : List Int} {x : Int} (h : 0 ≤ x ∧ x < (K : Int)) : ((camB K xs).set x.toNat true, if (camB K xs).getD x.toNat false then ((leftC K xs : Nat) : Int) else (leftC K xs : Nat) - 1) = (camB K (xs ++ [x]), ((leftC K (xs ++ [x]) : Nat) : Int)) := by
  obtain ⟨t, rfl⟩ : ∃ t : Nat, x = t := ⟨x.toNat, by omega⟩
  rw [show ((t : Nat) : Int).toNat = t by omega, camB_set xs (by omega), getD_of (camB_get xs (show t < K by omega))]
  by_cases hm : (t : Int) ∈ xs
  · rw [decide_eq_true hm, if_pos rfl, leftC_same hm]
  · have := leftC_new (k := K) (t := t) (xs := xs) (by omega) hm
    rw [decide_eq_false hm, if_neg (by simp)]
    congr 1; omega

theorem list_set_same {l : List Bool} {k : Nat} {b : Bool} (h : l[k]? = some b) : l.set k b = l := by
  apply List.ext_getElem?
  intro j
  rw [List.getElem?_set]
  split
  · rename_i e; subst e; rw [if_pos (List.getElem?_eq_some_iff.1 h).1, h]
  · rfl

set_option maxRecDepth 100000 in
theorem namingSee (b2 b5 b6 bc k : Nat) (cs : List Bool) (left v : Int) (hlb : -10000 ≤ left ∧ left ≤ 10000) (hcs : cs.length = k) (w : World) (F : Nat → Prop) (h : (Ass.star (row (.slice (some ⟨bc, 0, none⟩) k k) 4 1 k (bools (cs))) (blk b6 [.int .i64 (left)] 3)).holds w F) (hF : ∀ q, F q → q < w.heap.size) (h2 : ∀ W, Mod F w W → W.heap[b2]? = some (.cells [Value.int .i64 (k : Int)].toArray 3 (0, 0))) (h5 : ∀ W, Mod F w W → W.heap[b5]? = some (.cells [Value.slice (some ⟨bc, 0, none⟩) k k].toArray 104 (0, 0))) : Calls Try.prog 79 #[.int .i64 v, .pointer (some ⟨b2, 0, none⟩), .pointer (some ⟨b5, 0, none⟩), .pointer (some ⟨b6, 0, none⟩)] w fun e w1 => ∃ x : List Bool × Int, (0 ≤ v ∧ v < (k : Int) → x = (cs.set v.toNat true, if cs.getD v.toNat false then left else left - 1)) ∧ e = .returned (.bool (decide (0 ≤ v ∧ v < (k : Int)))) ∧ Mod F w w1 ∧ ∃ F', (Ass.star (row (.slice (some ⟨bc, 0, none⟩) k k) 4 1 k (bools (x.1))) (blk b6 [.int .i64 (x.2)] 3)).holds w1 F' ∧ ∀ q, F' q → F q ∨ (w.heap.size ≤ q ∧ q < w1.heap.size) := by
  refine CW.enter (P := Try.prog) (F0 := F) (L := [(0, _), (1, _), (2, _), (3, _)]) 23 [Ass.star (row (.slice (some ⟨bc, 0, none⟩) k k) 4 1 k (bools (cs))) (blk b6 [.int .i64 (left)] 3)] Try.func79 rfl Try.ntmps79 (Nat.le_of_ble_eq_true rfl) (St.start1 w h hF) rfl ?_
  refine CW.seq ?_
  refine CW.mem _ (fun w h => h.split) ?_
  refine CW.region ?_
  refine RW.y (.inl rfl) rfl (Yv.assign rfl) ?_
  refine RW.nil ?_
  refine PW.go ?_
  refine CW.seq ?_
  refine CW.seq ?_
  refine CW.region ?_
  refine RW.y (.inl rfl) rfl (Yv.move rfl) ?_
  refine RW.y (.inl rfl) rfl (Yv.lt rfl rfl) ?_
  refine RW.y (.inl rfl) rfl (Yv.move rfl) ?_
  refine RW.splitD 8 rfl (fun hc8 => ?_) (fun hc8 => ?_)
  ·
    refine RW.no ⟨_, _, 8, _, rfl, rfl, rfl, fun h => by simp [undef] at h⟩ rfl ?_
    refine RW.no ⟨_, _, 8, _, rfl, rfl, rfl, fun h => by simp [undef] at h⟩ rfl ?_
    refine RW.no ⟨_, _, 8, _, rfl, rfl, rfl, fun h => by simp [undef] at h⟩ rfl ?_
    refine RW.y (.inl rfl) rfl (Yv.pickT rfl rfl) ?_
    refine RW.nil ?_
    refine PW.go ?_
    refine CW.condT rfl ?_
    refine CW.seq ?_
    refine CW.region ?_
    refine RW.y (.inl rfl) rfl (Yv.assign rfl) ?_
    refine RW.nil ?_
    refine PW.go ?_
    refine CW.ret ?_
    refine PW.then_ret ?_
    refine PW.ret1 Try.results79 rfl (fun w1 hs => ?_)
    obtain ⟨F', h', hk⟩ := hs.join.outMut 0 rfl
    exact ⟨(cs, left), fun h => absurd h (by omega), by rw [decide_eq_false (by omega)], hs.mod, F', h', hk⟩
  ·
    refine RW.y (.inr ⟨_, _, 8, rfl, rfl, rfl⟩) rfl (Yv.move rfl) ?_
    refine RW.y (.inr ⟨_, _, 8, rfl, rfl, rfl⟩) rfl (Yv.load1 Try.isAgg3 rfl (CF.keepB h2 rfl)) ?_
    refine RW.y (.inr ⟨_, _, 8, rfl, rfl, rfl⟩) rfl (Yv.ge rfl rfl) ?_
    refine RW.y (.inl rfl) rfl (Yv.pickF rfl rfl) ?_
    refine RW.nil ?_
    refine PW.go ?_
    refine CW.condD rfl (fun hc12 => ?_) (fun hc12 => ?_)
    ·
      refine CW.seq ?_
      refine CW.region ?_
      refine RW.y (.inl rfl) rfl (Yv.assign rfl) ?_
      refine RW.nil ?_
      refine PW.go ?_
      refine CW.ret ?_
      refine PW.then_ret ?_
      refine PW.ret1 Try.results79 rfl (fun w1 hs => ?_)
      obtain ⟨F', h', hk⟩ := hs.join.outMut 0 rfl
      exact ⟨(cs, left), fun h => absurd h (by omega), by rw [decide_eq_false (by omega)], hs.mod, F', h', hk⟩
    ·
      refine CW.skip ?_
      refine PW.go ?_
      refine CW.seq ?_
      refine CW.seq ?_
      obtain ⟨b0, hb0⟩ : ∃ b, cs[v.toNat]? = some b := ⟨_, List.getElem?_eq_getElem (by omega)⟩
      refine CW.region ?_
      refine RW.y (.inl rfl) rfl (Yv.load1 Try.isAgg104 rfl (CF.keepB h5 rfl)) ?_
      refine RW.y (.inl rfl) rfl (Yv.move rfl) ?_
      refine RW.y (.inl rfl) rfl (Yv.index0 Try.underlying104 Try.sizeOf4 rfl rfl (by omega) (by omega)) ?_
      refine RW.y (.inl rfl) rfl (Yv.load1 Try.isAgg4 rfl (CF.row 0 rfl (bools_at rfl hb0))) ?_
      refine RW.y (.inl rfl) rfl (Yv.not rfl) ?_
      refine RW.nil ?_
      refine PW.go ?_
      refine CW.cond rfl (fun hc17 => ?_) (fun hc17 => ?_)
      ·
        refine CW.seq ?_
        refine CW.region ?_
        refine RW.y (.inl rfl) rfl (Yv.load1 Try.isAgg104 rfl (CF.keepB h5 rfl)) ?_
        refine RW.y (.inl rfl) rfl (Yv.move rfl) ?_
        refine RW.y (.inl rfl) rfl (Yv.index0 Try.underlying104 Try.sizeOf4 rfl rfl (by omega) (by omega)) ?_
        refine RW.o _ (.inl rfl) rfl (Ow.storeRow 0 Try.sizeOf4 rfl rfl (rfl) rfl (by rw [bools_length]; omega)) ?_
        rintro _ _ ⟨rfl, rfl⟩
        refine RW.nil ?_
        refine PW.go ?_
        refine CW.region ?_
        refine RW.y (.inl rfl) rfl (Yv.load1 Try.isAgg3 rfl (CF.blk 1 rfl rfl)) ?_
        refine RW.y (.inl rfl) rfl (Yv.sub rfl rfl (by omega)) ?_
        refine RW.o _ (.inl rfl) rfl (Ow.store1 1 Try.sizeOf3 rfl rfl (rfl) rfl (Nat.le_of_ble_eq_true rfl)) ?_
        rintro _ _ ⟨rfl, rfl⟩
        refine RW.nil ?_
        refine PW.go ?_
        refine CW.seq ?_
        refine CW.region ?_
        refine RW.y (.inl rfl) rfl (Yv.assign rfl) ?_
        refine RW.nil ?_
        refine PW.go ?_
        refine CW.ret ?_
        refine PW.mem _ (fun w h => h.row_eq (m' := k) (xs' := bools (cs.set v.toNat true)) 0 rfl (rfl) (bools_set _ _ _)) ?_
        refine PW.ret1 Try.results79 rfl (fun w1 hs => ?_)
        obtain ⟨F', h', hk⟩ := hs.join.outMut 0 rfl
        exact ⟨(cs.set v.toNat true, left - 1), fun _ => by rw [getD_of hb0]; simp at hc17; rw [hc17]; rfl, by rw [decide_eq_true (by omega)], hs.mod, F', h', hk⟩
      ·
        refine CW.skip ?_
        refine PW.go ?_
        refine CW.seq ?_
        refine CW.region ?_
        refine RW.y (.inl rfl) rfl (Yv.assign rfl) ?_
        refine RW.nil ?_
        refine PW.go ?_
        refine CW.ret ?_
        refine PW.mem _ (fun w h => h.row_eq (m' := k) (xs' := bools (cs.set v.toNat true)) 0 rfl (rfl) (by rw [list_set_same (by simp at hc17; subst hc17; exact hb0)])) ?_
        refine PW.ret1 Try.results79 rfl (fun w1 hs => ?_)
        obtain ⟨F', h', hk⟩ := hs.join.outMut 0 rfl
        exact ⟨(cs.set v.toNat true, left), fun _ => by rw [getD_of hb0]; simp at hc17; rw [hc17]; rfl, by rw [decide_eq_true (by omega)], hs.mod, F', h', hk⟩

set_option maxRecDepth 100000 in
theorem contractNaming (k : Int) (A : Option Addr) (c : Nat) (name : List Int) (w : World) (hr : Rd w A 1 name.length (i64s name)) : Calls Try.prog 58 #[.int .i64 k, .slice A name.length c] w fun e w1 => e = .returned (.bool (namB k name)) ∧ Gr w w1 := by
  have hnl := hr.2.1
  refine CW.enter (P := Try.prog) (F0 := none0) (L := [(0, _), (1, _)]) 38 [] Try.func58 rfl Try.ntmps58 (Nat.le_of_ble_eq_true rfl) (St.start w none0) rfl ?_
  refine CW.seq ?_
  refine CW.region ?_
  refine RW.o _ (.inl rfl) rfl (Ow.box (cs := [_]) rfl rfl) ?_
  rintro _ _ ⟨b2, rfl, rfl⟩
  refine RW.y (.inl rfl) rfl (Yv.assign rfl) ?_
  refine RW.nil ?_
  refine PW.go ?_
  refine CW.seq ?_
  refine CW.seq ?_
  refine CW.region ?_
  refine RW.y (.inl rfl) rfl (Yv.load1 Try.isAgg3 rfl (CF.blk 0 rfl rfl)) ?_
  refine RW.y (.inl rfl) rfl (Yv.lt rfl rfl) ?_
  refine RW.y (.inl rfl) rfl (Yv.move rfl) ?_
  refine RW.splitD 12 rfl (fun hc12 => ?_) (fun hc12 => ?_)
  ·
    refine RW.no ⟨_, _, 12, _, rfl, rfl, rfl, fun h => by simp [undef] at h⟩ rfl ?_
    refine RW.no ⟨_, _, 12, _, rfl, rfl, rfl, fun h => by simp [undef] at h⟩ rfl ?_
    refine RW.y (.inl rfl) rfl (Yv.pickT rfl rfl) ?_
    refine RW.y (.inl rfl) rfl (Yv.move rfl) ?_
    refine RW.no ⟨_, _, 16, _, rfl, rfl, rfl, fun h => by simp [undef] at h⟩ rfl ?_
    refine RW.no ⟨_, _, 16, _, rfl, rfl, rfl, fun h => by simp [undef] at h⟩ rfl ?_
    refine RW.no ⟨_, _, 16, _, rfl, rfl, rfl, fun h => by simp [undef] at h⟩ rfl ?_
    refine RW.y (.inl rfl) rfl (Yv.pickT rfl rfl) ?_
    refine RW.nil ?_
    refine PW.go ?_
    refine CW.condT rfl ?_
    refine CW.seq ?_
    refine CW.region ?_
    refine RW.y (.inl rfl) rfl (Yv.assign rfl) ?_
    refine RW.nil ?_
    refine PW.go ?_
    refine CW.ret ?_
    refine PW.then_ret ?_
    refine PW.ret1 Try.results58 rfl (fun w1 hs => ?_)
    exact ⟨by rw [namB_false1 (by omega)], hs.mod.below⟩
  ·
    refine RW.y (.inr ⟨_, _, 12, rfl, rfl, rfl⟩) rfl (Yv.load1 Try.isAgg3 rfl (CF.blk 0 rfl rfl)) ?_
    refine RW.y (.inr ⟨_, _, 12, rfl, rfl, rfl⟩) rfl (Yv.gt rfl rfl) ?_
    refine RW.y (.inl rfl) rfl (Yv.pickF rfl rfl) ?_
    refine RW.y (.inl rfl) rfl (Yv.move rfl) ?_
    refine RW.splitD 16 rfl (fun hc16 => ?_) (fun hc16 => ?_)
    ·
      refine RW.no ⟨_, _, 16, _, rfl, rfl, rfl, fun h => by simp [undef] at h⟩ rfl ?_
      refine RW.no ⟨_, _, 16, _, rfl, rfl, rfl, fun h => by simp [undef] at h⟩ rfl ?_
      refine RW.no ⟨_, _, 16, _, rfl, rfl, rfl, fun h => by simp [undef] at h⟩ rfl ?_
      refine RW.y (.inl rfl) rfl (Yv.pickT rfl rfl) ?_
      refine RW.nil ?_
      refine PW.go ?_
      refine CW.condT rfl ?_
      refine CW.seq ?_
      refine CW.region ?_
      refine RW.y (.inl rfl) rfl (Yv.assign rfl) ?_
      refine RW.nil ?_
      refine PW.go ?_
      refine CW.ret ?_
      refine PW.then_ret ?_
      refine PW.ret1 Try.results58 rfl (fun w1 hs => ?_)
      exact ⟨by rw [namB_false1 (by omega)], hs.mod.below⟩
    ·
      refine RW.y (.inr ⟨_, _, 16, rfl, rfl, rfl⟩) rfl (Yv.move rfl) ?_
      refine RW.y (.inr ⟨_, _, 16, rfl, rfl, rfl⟩) rfl (Yv.len Try.underlying32 rfl) ?_
      refine RW.y (.inr ⟨_, _, 16, rfl, rfl, rfl⟩) rfl (Yv.gt rfl rfl) ?_
      refine RW.y (.inl rfl) rfl (Yv.pickF rfl rfl) ?_
      refine RW.nil ?_
      refine PW.go ?_
      refine CW.condD rfl (fun hc20 => ?_) (fun hc20 => ?_)
      ·
        refine CW.seq ?_
        refine CW.region ?_
        refine RW.y (.inl rfl) rfl (Yv.assign rfl) ?_
        refine RW.nil ?_
        refine PW.go ?_
        refine CW.ret ?_
        refine PW.then_ret ?_
        refine PW.ret1 Try.results58 rfl (fun w1 hs => ?_)
        exact ⟨by rw [namB_false1 (by omega)], hs.mod.below⟩
      ·
        refine CW.skip ?_
        refine PW.go ?_
        refine CW.seq ?_
        obtain ⟨K, rfl⟩ : ∃ K : Nat, k = K := ⟨k.toNat, by omega⟩
        refine CW.region ?_
        refine RW.y (.inl rfl) rfl (Yv.load1 Try.isAgg3 rfl (CF.blk 0 rfl rfl)) ?_
        refine RW.o _ (.inl rfl) rfl (Ow.make (m := K) Try.underlying104 info4 rfl rfl rfl (by omega) (by omega) (by omega) (by omega)) ?_
        rintro _ _ ⟨b22, rfl, rfl⟩
        refine RW.o _ (.inl rfl) rfl (Ow.alloc (cs := [_]) Try.zeroValue104 rfl) ?_
        rintro _ _ ⟨b5, rfl, rfl⟩
        refine RW.o _ (.inl rfl) rfl (Ow.store1 0 Try.sizeOf104 rfl rfl (rfl) rfl (Nat.le_of_ble_eq_true rfl)) ?_
        rintro _ _ ⟨rfl, rfl⟩
        refine RW.nil ?_
        refine PW.go ?_
        refine CW.seq ?_
        refine CW.region ?_
        refine RW.y (.inl rfl) rfl (Yv.load1 Try.isAgg3 rfl (CF.blk 2 rfl rfl)) ?_
        refine RW.o _ (.inl rfl) rfl (Ow.alloc (cs := [_]) Try.zeroValue3 rfl) ?_
        rintro _ _ ⟨b6, rfl, rfl⟩
        refine RW.o _ (.inl rfl) rfl (Ow.store1 0 Try.sizeOf3 rfl rfl (rfl) rfl (Nat.le_of_ble_eq_true rfl)) ?_
        rintro _ _ ⟨rfl, rfl⟩
        refine RW.nil ?_
        refine PW.go ?_
        refine CW.seq ?_
        refine CW.region ?_
        refine RW.y (.inl rfl) rfl (Yv.makeFunc rfl) ?_
        refine RW.y (.inl rfl) rfl (Yv.assign rfl) ?_
        refine RW.nil ?_
        refine PW.go ?_
        refine CW.seq ?_
        refine CW.seq ?_
        refine CW.mem _ (fun w h => h.row_eq (m' := K) (xs' := bools (camB K (name.take 0))) 2 rfl (rfl) (by rw [List.take_zero, camB_nil]; simp [bools])) ?_
        refine CW.mem _ (fun w h => h.blk_eq (cs' := [.int .i64 ((leftC K (name.take 0) : Nat) : Int)]) 0 rfl (by simp [leftC_nil])) ?_
        refine CW.mem _ (fun w h => h.front 0 rfl) ?_
        refine CW.mem _ (fun w h => h.front 2 rfl) ?_
        refine CW.mem _ (fun w h => h.join) ?_
        refine CW.region ?_
        refine RW.y (.inl rfl) rfl (Yv.move rfl) ?_
        refine RW.y (.inl rfl) rfl (Yv.len Try.underlying32 rfl) ?_
        refine RW.y (.inl rfl) rfl (Yv.move rfl) ?_
        refine RW.nil ?_
        refine PW.go ?_
        refine CW.block ?_
        refine CW.loop (σ := Nat) (fun i => i ≤ name.length ∧ ∀ v ∈ name.take i, 0 ≤ v ∧ v < (K : Int)) (fun i => [(6, .pointer (some ⟨b6, 0, none⟩)), (7, .func (.func 79) #[] #[.pointer (some ⟨b2, 0, none⟩), .pointer (some ⟨b5, 0, none⟩), .pointer (some ⟨b6, 0, none⟩)]), (25, .slice A name.length c), (26, .int .i64 name.length), (27, .int .i64 (i : Nat))]) (fun i => [Ass.star (row (.slice (some ⟨b22, 0, none⟩) K K) 4 1 K (bools (camB K (name.take i)))) (blk b6 [.int .i64 ((leftC K (name.take i) : Nat))] 3), blk b5 [.slice (some ⟨b22, 0, none⟩) K K] 104, blk b2 [.int .i64 (K : Int)] 3]) (fun i => name.length - i) 0 (⟨by omega, by simp⟩) ⟨rfl, rfl, rfl, rfl, rfl, trivial⟩ (fun w h => h) ?_
        intro i sg
        obtain ⟨hi, hall⟩ := sg
        refine CW.seq ?_
        refine CW.region ?_
        refine RW.y (.inl rfl) rfl (Yv.lt rfl rfl) ?_
        refine RW.nil ?_
        refine PW.go ?_
        refine CW.seq ?_
        refine CW.condD rfl (fun hc28 => ?_) (fun hc28 => ?_)
        ·
          refine CW.skip ?_
          refine PW.go ?_
          refine CW.seq ?_
          refine CW.block ?_
          refine CW.seq ?_
          have hil : i < name.length := by omega
          obtain ⟨b, o, rfl, hb, hc⟩ := hr.2.2 (by omega)
          obtain ⟨x, hx⟩ : ∃ x, name[i]? = some x := ⟨_, List.getElem?_eq_getElem hil⟩
          have hle := leftC_le K (name.take i)
          refine CW.region ?_
          refine RW.y (.inl rfl) rfl (Yv.index1 Try.underlying32 Try.sizeOf3 rfl rfl (by omega) (by omega)) ?_
          refine RW.y (.inl rfl) rfl (Yv.load1 Try.isAgg3 rfl (CF.old (hc _ _ (i64s_get _ _ _ hx)) (not_none0 _))) ?_
          refine RW.y (.inl rfl) rfl (Yv.assign rfl) ?_
          refine RW.nil ?_
          refine PW.go ?_
          refine CW.seq ?_
          refine CW.region ?_
          refine RW.y (.inl rfl) rfl (Yv.move rfl) ?_
          refine RW.y (.inl rfl) rfl (Yv.move rfl) ?_
          refine RW.o _ (.inl rfl) rfl (Ow.callv e79 rfl rfl (C.mut0 (val := fun _ : List Bool × Int => .bool (decide (0 ≤ x ∧ x < (K : Int)))) (Ψ := fun p => Ass.star (row (.slice (some ⟨b22, 0, none⟩) K K) 4 1 K (bools (p.1))) (blk b6 [.int .i64 (p.2)] 3)) (φ := fun p => 0 ≤ x ∧ x < (K : Int) → p = ((camB K (name.take i)).set x.toNat true, if (camB K (name.take i)).getD x.toNat false then ((leftC K (name.take i) : Nat) : Int) else (leftC K (name.take i) : Nat) - 1)) (fun w2 F2 h2 h3 h4 => namingSee b2 b5 b6 b22 K _ _ x (by omega) (camB_length _ _) w2 F2 h2 h3 (fun W hM => blk_at (h4 W hM 1 _ rfl)) (fun W hM => blk_at (h4 W hM 0 _ rfl))))) ?_
          rintro _ _ ⟨⟨cs', lf'⟩, hp, rfl, rfl⟩
          refine RW.y (.inl rfl) rfl (Yv.not rfl) ?_
          refine RW.nil ?_
          refine PW.go ?_
          refine CW.cond rfl (fun hc34 => ?_) (fun hc34 => ?_)
          ·
            have hnin : ¬ (0 ≤ x ∧ x < (K : Int)) := by simp at hc34; omega
            refine CW.seq ?_
            refine CW.region ?_
            refine RW.y (.inl rfl) rfl (Yv.assign rfl) ?_
            refine RW.nil ?_
            refine PW.go ?_
            refine CW.ret ?_
            refine PW.block_ret ?_
            refine PW.then_ret ?_
            refine PW.then_ret ?_
            refine PW.block_ret ?_
            refine PW.then_ret ?_
            refine PW.ret1 Try.results58 rfl (fun w1 hs => ?_)
            exact ⟨by rw [namB_false2 (List.mem_of_getElem? hx) hnin], hs.mod.below⟩
          ·
            have hin : 0 ≤ x ∧ x < (K : Int) := by simpa using hc34
            refine CW.skip ?_
            refine PW.block ?_
            refine PW.go ?_
            refine CW.region ?_
            refine RW.y (.inl rfl) rfl (Yv.add rfl rfl (by omega)) ?_
            refine RW.y (.inl rfl) rfl (Yv.move rfl) ?_
            refine RW.nil ?_
            have htk := take_snocN hx
            have hst := hp hin
            rw [see_step hin, ← htk] at hst
            obtain ⟨rfl, rfl⟩ := Prod.mk.inj hst
            exact PW.next (i + 1) (⟨by omega, by rw [htk]; intro v hv; rcases List.mem_append.1 hv with h | h; exact hall v h; simp at h; subst h; exact hin⟩) ⟨rfl, rfl, rfl, rfl, rfl, trivial⟩ (fun w h => h) (by omega)
        ·
          refine CW.exit ?_
          refine PW.then_exit ?_
          refine PW.then_exit ?_
          refine PW.block_exit ?_
          refine PW.go ?_
          refine CW.seq ?_
          have hie : i = name.length := by omega
          subst hie
          rw [List.take_length] at *
          refine CW.mem _ (fun w h => h.split) ?_
          refine CW.region ?_
          refine RW.y (.inl rfl) rfl (Yv.load1 Try.isAgg3 rfl (CF.blk 1 rfl rfl)) ?_
          refine RW.y (.inl rfl) rfl (Yv.eq rfl rfl) ?_
          refine RW.y (.inl rfl) rfl (Yv.assign rfl) ?_
          refine RW.nil ?_
          refine PW.go ?_
          refine CW.ret ?_
          refine PW.ret1 Try.results58 rfl (fun w1 hs => ?_)
          exact ⟨by rw [namB_last (by omega) hall], hs.mod.below⟩

end Go.Proofs.Ytipoblpnkkcpgaa
