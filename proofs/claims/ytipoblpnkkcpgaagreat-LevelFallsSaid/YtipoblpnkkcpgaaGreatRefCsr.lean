/- Walks, written by a program of this session (gen.py) out of a spec. -/
import Derived.Test.YtipoblpnkkcpgaaGreatModel
set_option linter.unusedVariables false
set_option linter.unusedSimpArgs false
namespace Go.Proofs.YtipoblpnkkcpgaaGreat
open Go Go.RowKit Go.Proofs.YtipoblpnkkcpgaaGreat.B

theorem arcsOf_get : ∀ (l : List Edg) (k : Nat) (e : Edg), l[k]? = some e → (arcsOf l)[2 * k]? = some (e.v, e.w) ∧ (arcsOf l)[2 * k + 1]? = some (e.u, e.w)
  | [], k, e, h => by simp at h
  | x :: l, 0, e, h => by simp at h; subst h; exact ⟨rfl, rfl⟩
  | x :: l, k + 1, e, h => by
    have ih := arcsOf_get l k e (by simpa using h)
    rw [show arcsOf (x :: l) = (x.v, x.w) :: (x.u, x.w) :: arcsOf l from rfl, show 2 * (k + 1) = 2 * k + 1 + 1 by omega]
    simpa using ih
theorem headOf_even {l : List Edg} {k : Nat} {e : Edg} (h : l[k]? = some e) {i : Int} (hi : i = 2 * k) : headOf l i = e.v := by
  subst hi; unfold headOf; rw [if_pos (by omega), show (2 * (k : Int)).toNat = 2 * k by omega, (arcsOf_get l k e h).1]; rfl
theorem headOf_odd {l : List Edg} {k : Nat} {e : Edg} (h : l[k]? = some e) {i : Int} (hi : i = 2 * k + 1) : headOf l i = e.u := by
  subst hi; unfold headOf; rw [if_pos (by omega), show (2 * (k : Int) + 1).toNat = 2 * k + 1 by omega, (arcsOf_get l k e h).2]; rfl
theorem capOf_half {l : List Edg} {k : Nat} {e : Edg} (h : l[k]? = some e) {i : Int} (hi : i = 2 * k ∨ i = 2 * k + 1) : capOf l i = e.w := by
  rcases hi with rfl | rfl
  · unfold capOf; rw [if_pos (by omega), show (2 * (k : Int)).toNat = 2 * k by omega, (arcsOf_get l k e h).1]; rfl
  · unfold capOf; rw [if_pos (by omega), show (2 * (k : Int) + 1).toNat = 2 * k + 1 by omega, (arcsOf_get l k e h).2]; rfl
theorem headOf_out {l : List Edg} {i : Int} (h : i < 0 ∨ 2 * (l.length : Int) ≤ i) : headOf l i = -1 := by
  unfold headOf
  have := arcsOf_length l
  by_cases h0 : 0 ≤ i
  · rw [if_pos h0, List.getElem?_eq_none (by omega)]; rfl
  · rw [if_neg h0]
theorem capOf_out {l : List Edg} {i : Int} (h : i < 0 ∨ 2 * (l.length : Int) ≤ i) : capOf l i = 0 := by
  unfold capOf
  have := arcsOf_length l
  by_cases h0 : 0 ≤ i
  · rw [if_pos h0, List.getElem?_eq_none (by omega)]; rfl
  · rw [if_neg h0]
theorem backOf_even {i : Int} {k : Nat} (h : i = 2 * k) : backOf i = 2 * k + 1 := by subst h; unfold backOf; rw [if_neg (by omega), if_pos (by omega)]
theorem backOf_odd {i : Int} {k : Nat} (h : i = 2 * k + 1) : backOf i = 2 * k := by subst h; unfold backOf; rw [if_neg (by omega), if_neg (by omega)]; omega
theorem backOf_bd {i : Int} (hi : -9223372036854775808 ≤ i ∧ i ≤ 9223372036854775807) : -9223372036854775808 ≤ backOf i ∧ backOf i ≤ 9223372036854775807 := by
  unfold backOf
  by_cases h : i < 0
  · rw [if_pos h]; omega
  · rw [if_neg h]
    by_cases h2 : i % 2 = 0
    · rw [if_pos h2]; omega
    · rw [if_neg h2]; omega
theorem tailOf_even {l : List Edg} {k : Nat} {e : Edg} (h : l[k]? = some e) {i : Int} (hi : i = 2 * k) : tailOf l i = e.u := by unfold tailOf; exact headOf_odd h (backOf_even hi)
theorem tailOf_odd {l : List Edg} {k : Nat} {e : Edg} (h : l[k]? = some e) {i : Int} (hi : i = 2 * k + 1) : tailOf l i = e.v := by unfold tailOf; exact headOf_even h (backOf_odd hi)
theorem tailOf_out {l : List Edg} {i : Int} (h : i < 0 ∨ 2 * (l.length : Int) ≤ i) : tailOf l i = -1 := by
  unfold tailOf
  refine headOf_out ?_
  unfold backOf
  split
  · omega
  · split <;> omega

set_option maxRecDepth 100000 in
theorem ref19Back (i : Int) (hi : -9223372036854775808 ≤ i ∧ i ≤ 9223372036854775807) (w : World) : Calls Tryz.prog 127 #[.int .i64 i] w fun e w1 => e = .returned (.int .i64 (backOf i)) ∧ Gr w w1 := by
  refine CW.enter (P := Tryz.prog) (F0 := none0) (L := [(0, _)]) 12 [] Tryz.func127 rfl Tryz.ntmps127 (Nat.le_of_ble_eq_true rfl) (St.start w none0) rfl ?_
  refine CW.seq ?_
  refine CW.region ?_
  refine RW.y (.inl rfl) rfl (Yv.assign rfl) ?_
  refine RW.nil ?_
  refine PW.go ?_
  refine CW.seq ?_
  refine CW.seq ?_
  refine CW.region ?_
  refine RW.y (.inl rfl) rfl (Yv.move rfl) ?_
  refine RW.y (.inl rfl) rfl (Yv.lt rfl rfl) ?_
  refine RW.nil ?_
  refine PW.go ?_
  refine CW.condD rfl (fun hc4 => ?_) (fun hc4 => ?_)
  ·
    refine CW.seq ?_
    refine CW.region ?_
    refine RW.y (.inl rfl) rfl (Yv.assign rfl) ?_
    refine RW.nil ?_
    refine PW.go ?_
    refine CW.ret ?_
    refine PW.then_ret ?_
    refine PW.ret1 Tryz.results127 rfl (fun w1 hs => ?_)
    refine ⟨?_, hs.mod.below⟩
    unfold backOf
    first
    | (rw [if_pos (by omega)]; done)
    | (rw [if_neg (by omega), if_pos (by omega)]; done)
    | (rw [if_neg (by omega), if_neg (by omega)]; done)
  ·
    refine CW.skip ?_
    refine PW.go ?_
    refine CW.seq ?_
    refine CW.seq ?_
    refine CW.region ?_
    refine RW.y (.inl rfl) rfl (Yv.move rfl) ?_
    refine RW.y (.inl rfl) rfl (Yv.rem rfl rfl (by omega) (by omega)) ?_
    refine RW.y (.inl rfl) rfl (Yv.eq rfl rfl) ?_
    refine RW.nil ?_
    refine PW.go ?_
    refine CW.condD rfl (fun hc7 => ?_) (fun hc7 => ?_)
    ·
      refine CW.seq ?_
      refine CW.region ?_
      refine RW.y (.inl rfl) rfl (Yv.move rfl) ?_
      refine RW.y (.inl rfl) rfl (Yv.add rfl rfl (by omega)) ?_
      refine RW.y (.inl rfl) rfl (Yv.assign rfl) ?_
      refine RW.nil ?_
      refine PW.go ?_
      refine CW.ret ?_
      refine PW.then_ret ?_
      refine PW.ret1 Tryz.results127 rfl (fun w1 hs => ?_)
      refine ⟨?_, hs.mod.below⟩
      unfold backOf
      first
      | (rw [if_pos (by omega)]; done)
      | (rw [if_neg (by omega), if_pos (by omega)]; done)
      | (rw [if_neg (by omega), if_neg (by omega)]; done)
    ·
      refine CW.skip ?_
      refine PW.go ?_
      refine CW.seq ?_
      refine CW.region ?_
      refine RW.y (.inl rfl) rfl (Yv.move rfl) ?_
      refine RW.y (.inl rfl) rfl (Yv.sub rfl rfl (by omega)) ?_
      refine RW.y (.inl rfl) rfl (Yv.assign rfl) ?_
      refine RW.nil ?_
      refine PW.go ?_
      refine CW.ret ?_
      refine PW.ret1 Tryz.results127 rfl (fun w1 hs => ?_)
      refine ⟨?_, hs.mod.below⟩
      unfold backOf
      first
      | (rw [if_pos (by omega)]; done)
      | (rw [if_neg (by omega), if_pos (by omega)]; done)
      | (rw [if_neg (by omega), if_neg (by omega)]; done)

set_option maxRecDepth 100000 in
theorem ref19Tail (n : Int) (A : Option Addr) (c : Nat) (l : List Edg) (i : Int) (hi : -9223372036854775808 ≤ i ∧ i ≤ 9223372036854775807) (w : World) (hr : Rd w A 3 l.length (cellsE l)) : Calls Tryz.prog 52 #[.agg #[.int .i64 n, .slice A l.length c], .int .i64 i] w fun e w1 => e = .returned (.int .i64 (tailOf l i)) ∧ Gr w w1 := by
  have hlen := hr.2.1
  refine CW.enter (P := Tryz.prog) (F0 := none0) (L := [(0, _), (1, _)]) 32 [] Tryz.func52 rfl Tryz.ntmps52 (Nat.le_of_ble_eq_true rfl) (St.start w none0) rfl ?_
  refine CW.seq ?_
  refine CW.region ?_
  refine RW.o _ (.inl rfl) rfl (Ow.box (cs := [_, _]) rfl rfl) ?_
  rintro _ _ ⟨b2, rfl, rfl⟩
  refine RW.y (.inl rfl) rfl (Yv.assign rfl) ?_
  refine RW.nil ?_
  refine PW.go ?_
  refine CW.seq ?_
  refine CW.seq ?_
  refine CW.region ?_
  refine RW.y (.inl rfl) rfl (Yv.move rfl) ?_
  refine RW.y (.inl rfl) rfl (Yv.lt rfl rfl) ?_
  refine RW.y (.inl rfl) rfl (Yv.move rfl) ?_
  refine RW.splitD 7 rfl (fun hc7 => ?_) (fun hc7 => ?_)
  ·
    refine RW.no ⟨_, _, 7, _, rfl, rfl, rfl, fun h => by simp [undef] at h⟩ rfl ?_
    refine RW.no ⟨_, _, 7, _, rfl, rfl, rfl, fun h => by simp [undef] at h⟩ rfl ?_
    refine RW.no ⟨_, _, 7, _, rfl, rfl, rfl, fun h => by simp [undef] at h⟩ rfl ?_
    refine RW.no ⟨_, _, 7, _, rfl, rfl, rfl, fun h => by simp [undef] at h⟩ rfl ?_
    refine RW.no ⟨_, _, 7, _, rfl, rfl, rfl, fun h => by simp [undef] at h⟩ rfl ?_
    refine RW.no ⟨_, _, 7, _, rfl, rfl, rfl, fun h => by simp [undef] at h⟩ rfl ?_
    refine RW.y (.inl rfl) rfl (Yv.pickT rfl rfl) ?_
    refine RW.nil ?_
    refine PW.go ?_
    refine CW.condT rfl ?_
    refine CW.seq ?_
    refine CW.region ?_
    refine RW.y (.inl rfl) rfl (Yv.assign rfl) ?_
    refine RW.nil ?_
    refine PW.go ?_
    refine CW.ret ?_
    refine PW.then_ret ?_
    refine PW.ret1 Tryz.results52 rfl (fun w1 hs => ?_)
    exact ⟨by rw [tailOf_out (by omega)], hs.mod.below⟩
  ·
    refine RW.y (.inr ⟨_, _, 7, rfl, rfl, rfl⟩) rfl (Yv.move rfl) ?_
    refine RW.y (.inr ⟨_, _, 7, rfl, rfl, rfl⟩) rfl (Yv.quo rfl rfl (by omega) (by omega)) ?_
    refine RW.y (.inr ⟨_, _, 7, rfl, rfl, rfl⟩) rfl (Yv.fieldAddr Tryz.underlying32 rfl Tryz.sizeOf22 rfl rfl) ?_
    refine RW.y (.inr ⟨_, _, 7, rfl, rfl, rfl⟩) rfl (Yv.load1 Tryz.isAgg22 rfl (CF.blk 0 rfl rfl)) ?_
    refine RW.y (.inr ⟨_, _, 7, rfl, rfl, rfl⟩) rfl (Yv.len Tryz.underlying22 rfl) ?_
    refine RW.y (.inr ⟨_, _, 7, rfl, rfl, rfl⟩) rfl (Yv.ge rfl rfl) ?_
    refine RW.y (.inl rfl) rfl (Yv.pickF rfl rfl) ?_
    refine RW.nil ?_
    refine PW.go ?_
    refine CW.condD rfl (fun hc14 => ?_) (fun hc14 => ?_)
    ·
      refine CW.seq ?_
      refine CW.region ?_
      refine RW.y (.inl rfl) rfl (Yv.assign rfl) ?_
      refine RW.nil ?_
      refine PW.go ?_
      refine CW.ret ?_
      refine PW.then_ret ?_
      refine PW.ret1 Tryz.results52 rfl (fun w1 hs => ?_)
      exact ⟨by rw [tailOf_out (by omega)], hs.mod.below⟩
    ·
      refine CW.skip ?_
      refine PW.go ?_
      refine CW.seq ?_
      refine CW.seq ?_
      obtain ⟨k, hk⟩ : ∃ k : Nat, (k : Int) = i / 2 := ⟨(i / 2).toNat, by omega⟩
      have hkl : k < l.length := by omega
      obtain ⟨b, o, rfl, hb, hc⟩ := hr.2.2 (by omega)
      obtain ⟨x, hx⟩ : ∃ x, l[k]? = some x := ⟨_, List.getElem?_eq_getElem hkl⟩
      refine CW.region ?_
      refine RW.y (.inl rfl) rfl (Yv.move rfl) ?_
      refine RW.y (.inl rfl) rfl (Yv.rem rfl rfl (by omega) (by omega)) ?_
      refine RW.y (.inl rfl) rfl (Yv.eq rfl rfl) ?_
      refine RW.nil ?_
      refine PW.go ?_
      refine CW.condD rfl (fun hc17 => ?_) (fun hc17 => ?_)
      ·
        refine CW.seq ?_
        refine CW.region ?_
        refine RW.y (.inl rfl) rfl (Yv.fieldAddr Tryz.underlying32 rfl Tryz.sizeOf22 rfl rfl) ?_
        refine RW.y (.inl rfl) rfl (Yv.load1 Tryz.isAgg22 rfl (CF.blk 0 rfl rfl)) ?_
        refine RW.y (.inl rfl) rfl (Yv.move rfl) ?_
        refine RW.y (.inl rfl) rfl (Yv.quo rfl rfl (by omega) (by omega)) ?_
        refine RW.y (.inl rfl) rfl (Yv.indexK Tryz.underlying22 Tryz.sizeOf79 rfl rfl (by omega) (by omega)) ?_
        refine RW.y (.inl rfl) rfl (Yv.fieldAddr Tryz.underlying79 rfl Tryz.sizeOf3 rfl rfl) ?_
        refine RW.y (.inl rfl) rfl (Yv.load1 Tryz.isAgg3 rfl (CF.old (by rw [show (i / 2).toNat = k by omega, Nat.add_assoc]; exact hc _ _ (cellsE_get l k x hx 0 _ rfl)) (not_none0 _))) ?_
        refine RW.y (.inl rfl) rfl (Yv.assign rfl) ?_
        refine RW.nil ?_
        refine PW.go ?_
        refine CW.ret ?_
        refine PW.then_ret ?_
        refine PW.ret1 Tryz.results52 rfl (fun w1 hs => ?_)
        exact ⟨by rw [tailOf_even hx (by omega)], hs.mod.below⟩
      ·
        refine CW.skip ?_
        refine PW.go ?_
        refine CW.seq ?_
        refine CW.region ?_
        refine RW.y (.inl rfl) rfl (Yv.fieldAddr Tryz.underlying32 rfl Tryz.sizeOf22 rfl rfl) ?_
        refine RW.y (.inl rfl) rfl (Yv.load1 Tryz.isAgg22 rfl (CF.blk 0 rfl rfl)) ?_
        refine RW.y (.inl rfl) rfl (Yv.move rfl) ?_
        refine RW.y (.inl rfl) rfl (Yv.quo rfl rfl (by omega) (by omega)) ?_
        refine RW.y (.inl rfl) rfl (Yv.indexK Tryz.underlying22 Tryz.sizeOf79 rfl rfl (by omega) (by omega)) ?_
        refine RW.y (.inl rfl) rfl (Yv.fieldAddr Tryz.underlying79 rfl Tryz.sizeOf3 rfl rfl) ?_
        refine RW.y (.inl rfl) rfl (Yv.load1 Tryz.isAgg3 rfl (CF.old (by rw [show (i / 2).toNat = k by omega, Nat.add_assoc]; exact hc _ _ (cellsE_get l k x hx 1 _ rfl)) (not_none0 _))) ?_
        refine RW.y (.inl rfl) rfl (Yv.assign rfl) ?_
        refine RW.nil ?_
        refine PW.go ?_
        refine CW.ret ?_
        refine PW.ret1 Tryz.results52 rfl (fun w1 hs => ?_)
        exact ⟨by rw [tailOf_odd hx (by omega)], hs.mod.below⟩

set_option maxRecDepth 100000 in
theorem ref19Head (n : Int) (A : Option Addr) (c : Nat) (l : List Edg) (i : Int) (hi : -9223372036854775808 ≤ i ∧ i ≤ 9223372036854775807) (w : World) (hr : Rd w A 3 l.length (cellsE l)) : Calls Tryz.prog 97 #[.agg #[.int .i64 n, .slice A l.length c], .int .i64 i] w fun e w1 => e = .returned (.int .i64 (headOf l i)) ∧ Gr w w1 := by
  refine CW.enter (P := Tryz.prog) (F0 := none0) (L := [(0, _), (1, _)]) 9 [] Tryz.func97 rfl Tryz.ntmps97 (Nat.le_of_ble_eq_true rfl) (St.start w none0) rfl ?_
  refine CW.seq ?_
  refine CW.region ?_
  refine RW.o _ (.inl rfl) rfl (Ow.box (cs := [_, _]) rfl rfl) ?_
  rintro _ _ ⟨b2, rfl, rfl⟩
  refine RW.y (.inl rfl) rfl (Yv.assign rfl) ?_
  refine RW.nil ?_
  refine PW.go ?_
  refine CW.seq ?_
  refine CW.draw0 mixed ?_
  refine HW.take 0 rfl (by kernel_rfl) (by kernel_rfl) (by kernel_rfl) (fun _ _ _ h => h) (.inl rfl) rfl (fun _ h => h) (Yv.loadK (vs := [_, _]) Tryz.isAgg32 Tryz.sizeOf32 rfl (CFs.whole 0 rfl)) ?_
  refine HW.take 1 rfl (by kernel_rfl) (by kernel_rfl) (by kernel_rfl) (fun _ _ _ h => h) (.inl rfl) rfl (fun _ h => h) (Yv.move rfl) ?_
  refine HW.run 2 rfl (by kernel_rfl) _ (.inl rfl) rfl (Ow.call e127 rfl (C.val (fun w hs => ref19Back i hi _))) (by rintro _ _ ⟨rfl, rfl⟩ w h; exact h) ?_
  rintro _ _ ⟨rfl, rfl⟩
  refine HW.run 3 rfl (by kernel_rfl) _ (.inl rfl) rfl (Ow.call e52 rfl (C.val (fun w hs => ref19Tail n A c l (backOf i) (backOf_bd hi) _ (hr.below hs.mod.below)))) (by rintro _ _ ⟨rfl, rfl⟩ w h; exact h) ?_
  rintro _ _ ⟨rfl, rfl⟩
  refine HW.take 4 rfl (by kernel_rfl) (by kernel_rfl) (by kernel_rfl) (fun _ _ _ h => h) (.inl rfl) rfl (fun _ h => h) (Yv.assign rfl) ?_
  refine HW.done (by kernel_rfl) ?_
  refine PW.go ?_
  refine CW.ret ?_
  refine PW.ret1 Tryz.results97 rfl (fun w1 hs => ?_)
  refine ⟨?_, hs.mod.below⟩
  have e : tailOf l (backOf i) = headOf l i := by
    unfold tailOf
    by_cases h : i < 0
    · rw [headOf_out (i := i) (by omega), headOf_out (by unfold backOf; rw [if_pos h, if_pos (by omega)]; omega)]
    · congr 1
      unfold backOf
      rw [if_neg h]
      split
      · rw [if_neg (by omega), if_neg (by omega)]; omega
      · rw [if_neg (by omega), if_pos (by omega)]; omega
  rw [e]

end Go.Proofs.YtipoblpnkkcpgaaGreat
