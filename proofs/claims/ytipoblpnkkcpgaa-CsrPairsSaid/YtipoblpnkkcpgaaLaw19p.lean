/- Walks, written by a program of this session (gen.py) out of a spec. -/
import Derived.Test.YtipoblpnkkcpgaaLaw19
set_option linter.unusedVariables false
set_option linter.unusedSimpArgs false
namespace Go.Proofs.Ytipoblpnkkcpgaa
open Go Go.RowKit Go.Proofs.Ytipoblpnkkcpgaa.B

def cameL (l : List Edg) (v : Nat) (xs : List Int) : List Int := (List.range (2 * l.length)).map fun (i : Nat) => if tailOf l (i : Int) < v ∨ (i : Int) ∈ xs then 1 else 0
theorem cameL_length (l : List Edg) (v : Nat) (xs : List Int) : (cameL l v xs).length = 2 * l.length := by simp [cameL]
theorem cameL_zero {n : Nat} {l : List Edg} (h : ArcsOk n l) : cameL l 0 [] = List.replicate (2 * l.length) 0 := by
  apply List.ext_getElem?
  intro i
  unfold cameL
  rw [map_range_get, List.getElem?_replicate]
  by_cases hi : i < 2 * l.length
  · have := head_rng h (i := (i : Int)) (by omega) (by omega)
    rw [if_pos hi, if_pos hi, if_neg (by simp; omega)]
  · rw [if_neg hi, if_neg hi]
theorem cameL_step {l : List Edg} {v : Nat} {xs : List Int} {x : Int} (h0 : 0 ≤ x) (h1 : x < 2 * (l.length : Int)) (hx : ¬ x ∈ xs) (ht : tailOf l x = v) :
    (cameL l v xs)[x.toNat]? = some 0 ∧ (cameL l v xs).set x.toNat 1 = cameL l v (xs ++ [x]) := by
  have e : ((x.toNat : Nat) : Int) = x := by omega
  constructor
  · unfold cameL
    rw [map_range_get, if_pos (by omega), e, if_neg (by intro h; rcases h with h | h; omega; exact hx h)]
  · unfold cameL
    refine map_range_set _ _ _ _ _ (fun j hj hne => ?_) (fun hk => ?_)
    · have : ¬ (j : Int) = x := by omega
      simp [this]
    · rw [e, if_pos (by simp)]
theorem cameL_next {n : Nat} {l : List Edg} (h : ArcsOk n l) (v : Nat) : cameL l v (outOf n l v) = cameL l (v + 1) [] := by
  unfold cameL
  apply List.map_congr_left
  intro i hi
  have hi' := List.mem_range.1 hi
  have hm := mem_outOf h (v := (v : Int)) (by omega) (i : Int)
  by_cases h1 : tailOf l (i : Int) < v
  · rw [if_pos (.inl h1), if_pos (.inl (by omega))]
  · by_cases h2 : tailOf l (i : Int) = v
    · rw [if_pos (.inr (hm.2 ⟨by omega, by omega, h2⟩)), if_pos (.inl (by omega))]
    · rw [if_neg (by rintro (h3 | h3); omega; exact h2 (hm.1 h3).2.2), if_neg (by rintro (h3 | h3); omega; simp at h3)]
theorem cameL_all {n : Nat} {l : List Edg} (h : ArcsOk n l) : cameL l n [] = List.replicate (2 * l.length) 1 := by
  apply List.ext_getElem?
  intro i
  unfold cameL
  rw [map_range_get, List.getElem?_replicate]
  by_cases hi : i < 2 * l.length
  · have := head_rng h (i := (i : Int)) (by omega) (by omega)
    rw [if_pos hi, if_pos hi, if_pos (.inl (by omega))]
  · rw [if_neg hi, if_neg hi]
theorem back_back {x : Int} (h : 0 ≤ x) : backOf (backOf x) = x := by
  have h2 : ¬ x < 0 := by omega
  by_cases h1 : x % 2 = 0
  · have e : backOf x = x + 1 := by unfold backOf; rw [if_neg h2, if_pos h1]
    rw [e]; unfold backOf; rw [if_neg (by omega), if_neg (by omega)]; omega
  · have e : backOf x = x - 1 := by unfold backOf; rw [if_neg h2, if_neg h1]
    rw [e]; unfold backOf; rw [if_neg (by omega), if_pos (by omega)]; omega
theorem cap_back {l : List Edg} {x : Int} (h0 : 0 ≤ x) (h1 : x < 2 * (l.length : Int)) : capOf l x = capOf l (backOf x) := by
  obtain ⟨k, e, he, hk⟩ := arc_cases h0 h1
  rcases hk with hk | hk
  · rw [capOf_half he (.inl hk), backOf_even hk, capOf_half he (.inr rfl)]
  · rw [capOf_half he (.inr hk), backOf_odd hk, capOf_half he (.inl rfl)]
theorem i64s_at {l : List Int} {k : Nat} {x y : Int} (hx : x.toNat = k) (h : l[k]? = some y) : (i64s l)[x.toNat]? = some (.int .i64 y) := by rw [hx]; exact i64s_get _ _ _ h
theorem out_lt {n : Nat} {l : List Edg} (h : ArcsOk n l) {v : Int} {i j : Nat} {x y : Int} (hi : (outOf n l v)[i]? = some y) (hj : (outOf n l v)[j]? = some x) (hij : i < j) : headOf l y < headOf l x := by
  obtain ⟨a, ha⟩ := List.getElem?_eq_some_iff.1 hi
  obtain ⟨b, hb⟩ := List.getElem?_eq_some_iff.1 hj
  have := List.pairwise_iff_getElem.1 (outOf_sorted h v) i j a b hij
  rwa [ha, hb] at this
theorem out_not {n : Nat} {l : List Edg} (h : ArcsOk n l) {v : Int} {k : Nat} {x : Int} (hx : (outOf n l v)[k]? = some x) : ¬ x ∈ (outOf n l v).take k := by
  intro hm
  obtain ⟨i, hi⟩ := List.mem_iff_getElem?.1 hm
  have hik : i < k := by
    have := (List.getElem?_eq_some_iff.1 hi).1
    rw [List.length_take] at this; omega
  rw [List.getElem?_take_of_lt hik] at hi
  have := out_lt h hi hx hik
  omega

set_option maxRecDepth 100000 in
theorem csrPairs_long (n x0 : Int) (hx : -9223372036854775808 ≤ x0 ∧ x0 ≤ 9223372036854775807) (A : Option Addr) (c m : Nat) (w : World) (h : 60 < m) : Calls Try.prog 4 #[.int .u8 n, .slice A m c, .int .i64 x0] w fun e w1 => e = .returned (.bool true) ∧ Gr w w1 := by
  refine CW.enter (P := Try.prog) (F0 := none0) (L := [(0, _), (1, _), (2, _)]) 174 [] Try.func4 rfl Try.ntmps4 (Nat.le_of_ble_eq_true rfl) (St.start w none0) rfl ?_
  refine CW.seq ?_
  refine CW.region ?_
  refine RW.y (.inl rfl) rfl (Yv.assign rfl) ?_
  refine RW.nil ?_
  refine PW.go ?_
  refine CW.seq ?_
  refine CW.region ?_
  refine RW.y (.inl rfl) rfl (Yv.assign rfl) ?_
  refine RW.nil ?_
  refine PW.go ?_
  refine CW.seq ?_
  refine CW.seq ?_
  refine CW.region ?_
  refine RW.y (.inl rfl) rfl (Yv.move rfl) ?_
  refine RW.o _ (.inl rfl) rfl (Ow.call e10 rfl (C.val (fun w hs => arcsN_nil _))) ?_
  rintro _ _ ⟨rfl, rfl⟩
  refine RW.y (.inl rfl) rfl (Yv.ne rfl rfl) ?_
  refine RW.y (.inl rfl) rfl (Yv.move rfl) ?_
  refine RW.isF 21 rfl (by simp) ?_
  refine RW.y (.inr ⟨_, _, 21, rfl, rfl, rfl⟩) rfl (Yv.move rfl) ?_
  refine RW.o _ (.inr ⟨_, _, 21, rfl, rfl, rfl⟩) rfl (Ow.call e11 rfl (C.val (fun w hs => arcsLen_nil _))) ?_
  rintro _ _ ⟨rfl, rfl⟩
  refine RW.y (.inr ⟨_, _, 21, rfl, rfl, rfl⟩) rfl (Yv.ne rfl rfl) ?_
  refine RW.y (.inl rfl) rfl (Yv.pickF rfl rfl) ?_
  refine RW.y (.inl rfl) rfl (Yv.move rfl) ?_
  refine RW.isF 26 rfl (by simp) ?_
  refine RW.y (.inr ⟨_, _, 26, rfl, rfl, rfl⟩) rfl (Yv.move rfl) ?_
  refine RW.o _ (.inr ⟨_, _, 26, rfl, rfl, rfl⟩) rfl (Ow.call e12 rfl (C.val (fun w hs => arcsOut_nil 0 _))) ?_
  rintro _ _ ⟨rfl, rfl⟩
  refine RW.y (.inr ⟨_, _, 26, rfl, rfl, rfl⟩) rfl (Yv.len Try.underlying32 rfl) ?_
  refine RW.y (.inr ⟨_, _, 26, rfl, rfl, rfl⟩) rfl (Yv.ne rfl rfl) ?_
  refine RW.y (.inl rfl) rfl (Yv.pickF rfl rfl) ?_
  refine RW.y (.inl rfl) rfl (Yv.move rfl) ?_
  refine RW.isF 32 rfl (by simp) ?_
  refine RW.y (.inr ⟨_, _, 32, rfl, rfl, rfl⟩) rfl (Yv.move rfl) ?_
  refine RW.y (.inr ⟨_, _, 32, rfl, rfl, rfl⟩) rfl (Yv.move rfl) ?_
  refine RW.o _ (.inr ⟨_, _, 32, rfl, rfl, rfl⟩) rfl (Ow.call e13 rfl (C.val (fun w hs => arcsTail_nil x0 hx _))) ?_
  rintro _ _ ⟨rfl, rfl⟩
  refine RW.y (.inr ⟨_, _, 32, rfl, rfl, rfl⟩) rfl (Yv.ne rfl rfl) ?_
  refine RW.y (.inl rfl) rfl (Yv.pickF rfl rfl) ?_
  refine RW.y (.inl rfl) rfl (Yv.move rfl) ?_
  refine RW.isF 38 rfl (by simp) ?_
  refine RW.y (.inr ⟨_, _, 38, rfl, rfl, rfl⟩) rfl (Yv.move rfl) ?_
  refine RW.y (.inr ⟨_, _, 38, rfl, rfl, rfl⟩) rfl (Yv.move rfl) ?_
  refine RW.o _ (.inr ⟨_, _, 38, rfl, rfl, rfl⟩) rfl (Ow.call e14 rfl (C.val (fun w hs => arcsHead_nil x0 _))) ?_
  rintro _ _ ⟨rfl, rfl⟩
  refine RW.y (.inr ⟨_, _, 38, rfl, rfl, rfl⟩) rfl (Yv.ne rfl rfl) ?_
  refine RW.y (.inl rfl) rfl (Yv.pickF rfl rfl) ?_
  refine RW.y (.inl rfl) rfl (Yv.move rfl) ?_
  refine RW.isF 44 rfl (by simp) ?_
  refine RW.y (.inr ⟨_, _, 44, rfl, rfl, rfl⟩) rfl (Yv.move rfl) ?_
  refine RW.y (.inr ⟨_, _, 44, rfl, rfl, rfl⟩) rfl (Yv.move rfl) ?_
  refine RW.o _ (.inr ⟨_, _, 44, rfl, rfl, rfl⟩) rfl (Ow.call e15 rfl (C.val (fun w hs => arcsCap_nil x0 _))) ?_
  rintro _ _ ⟨rfl, rfl⟩
  refine RW.y (.inr ⟨_, _, 44, rfl, rfl, rfl⟩) rfl (Yv.ne rfl rfl) ?_
  refine RW.y (.inl rfl) rfl (Yv.pickF rfl rfl) ?_
  refine RW.nil ?_
  refine PW.go ?_
  refine CW.condD rfl (fun hc49 => ?_) (fun hc49 => ?_)
  ·
    exact absurd rfl hc49
  ·
    refine CW.skip ?_
    refine PW.go ?_
    refine CW.seq ?_
    refine CW.seq ?_
    refine CW.region ?_
    refine RW.y (.inl rfl) rfl (Yv.move rfl) ?_
    refine RW.y (.inl rfl) rfl (Yv.len Try.underlying22 rfl) ?_
    refine RW.y (.inl rfl) rfl (Yv.gt rfl rfl) ?_
    refine RW.nil ?_
    refine PW.go ?_
    refine CW.condD rfl (fun hc52 => ?_) (fun hc52 => ?_)
    ·
      refine CW.seq ?_
      refine CW.region ?_
      refine RW.o _ (.inl rfl) rfl (Ow.call e7 rfl (C.val (fun w hs => awake19 _))) ?_
      rintro _ _ ⟨rfl, rfl⟩
      refine RW.y (.inl rfl) rfl (Yv.assign rfl) ?_
      refine RW.nil ?_
      refine PW.go ?_
      refine CW.ret ?_
      refine PW.then_ret ?_
      refine PW.ret1 Try.results4 rfl (fun w1 hs => ?_)
      exact ⟨rfl, hs.mod.below⟩
    ·
      omega

set_option maxRecDepth 100000 in
theorem csrPairs_err (n : Int) (hn : 0 ≤ n ∧ n ≤ 255) (A : Option Addr) (c : Nat) (l : List Edg) (x0 : Int) (hx : -9223372036854775808 ≤ x0 ∧ x0 ≤ 9223372036854775807) (w : World) (hr : Rd w A 3 l.length (cellsE l)) (hl60 : l.length ≤ 60) (k : Int) (i : Nat) (hk : k ≠ 0) (he : NewE n l k i) : Calls Try.prog 4 #[.int .u8 n, .slice A l.length c, .int .i64 x0] w fun e w1 => e = .returned (.bool true) ∧ Gr w w1 := by
  refine CW.enter (P := Try.prog) (F0 := none0) (L := [(0, _), (1, _), (2, _)]) 174 [] Try.func4 rfl Try.ntmps4 (Nat.le_of_ble_eq_true rfl) (St.start w none0) rfl ?_
  refine CW.seq ?_
  refine CW.region ?_
  refine RW.y (.inl rfl) rfl (Yv.assign rfl) ?_
  refine RW.nil ?_
  refine PW.go ?_
  refine CW.seq ?_
  refine CW.region ?_
  refine RW.y (.inl rfl) rfl (Yv.assign rfl) ?_
  refine RW.nil ?_
  refine PW.go ?_
  refine CW.seq ?_
  refine CW.seq ?_
  refine CW.region ?_
  refine RW.y (.inl rfl) rfl (Yv.move rfl) ?_
  refine RW.o _ (.inl rfl) rfl (Ow.call e10 rfl (C.val (fun w hs => arcsN_nil _))) ?_
  rintro _ _ ⟨rfl, rfl⟩
  refine RW.y (.inl rfl) rfl (Yv.ne rfl rfl) ?_
  refine RW.y (.inl rfl) rfl (Yv.move rfl) ?_
  refine RW.isF 21 rfl (by simp) ?_
  refine RW.y (.inr ⟨_, _, 21, rfl, rfl, rfl⟩) rfl (Yv.move rfl) ?_
  refine RW.o _ (.inr ⟨_, _, 21, rfl, rfl, rfl⟩) rfl (Ow.call e11 rfl (C.val (fun w hs => arcsLen_nil _))) ?_
  rintro _ _ ⟨rfl, rfl⟩
  refine RW.y (.inr ⟨_, _, 21, rfl, rfl, rfl⟩) rfl (Yv.ne rfl rfl) ?_
  refine RW.y (.inl rfl) rfl (Yv.pickF rfl rfl) ?_
  refine RW.y (.inl rfl) rfl (Yv.move rfl) ?_
  refine RW.isF 26 rfl (by simp) ?_
  refine RW.y (.inr ⟨_, _, 26, rfl, rfl, rfl⟩) rfl (Yv.move rfl) ?_
  refine RW.o _ (.inr ⟨_, _, 26, rfl, rfl, rfl⟩) rfl (Ow.call e12 rfl (C.val (fun w hs => arcsOut_nil 0 _))) ?_
  rintro _ _ ⟨rfl, rfl⟩
  refine RW.y (.inr ⟨_, _, 26, rfl, rfl, rfl⟩) rfl (Yv.len Try.underlying32 rfl) ?_
  refine RW.y (.inr ⟨_, _, 26, rfl, rfl, rfl⟩) rfl (Yv.ne rfl rfl) ?_
  refine RW.y (.inl rfl) rfl (Yv.pickF rfl rfl) ?_
  refine RW.y (.inl rfl) rfl (Yv.move rfl) ?_
  refine RW.isF 32 rfl (by simp) ?_
  refine RW.y (.inr ⟨_, _, 32, rfl, rfl, rfl⟩) rfl (Yv.move rfl) ?_
  refine RW.y (.inr ⟨_, _, 32, rfl, rfl, rfl⟩) rfl (Yv.move rfl) ?_
  refine RW.o _ (.inr ⟨_, _, 32, rfl, rfl, rfl⟩) rfl (Ow.call e13 rfl (C.val (fun w hs => arcsTail_nil x0 hx _))) ?_
  rintro _ _ ⟨rfl, rfl⟩
  refine RW.y (.inr ⟨_, _, 32, rfl, rfl, rfl⟩) rfl (Yv.ne rfl rfl) ?_
  refine RW.y (.inl rfl) rfl (Yv.pickF rfl rfl) ?_
  refine RW.y (.inl rfl) rfl (Yv.move rfl) ?_
  refine RW.isF 38 rfl (by simp) ?_
  refine RW.y (.inr ⟨_, _, 38, rfl, rfl, rfl⟩) rfl (Yv.move rfl) ?_
  refine RW.y (.inr ⟨_, _, 38, rfl, rfl, rfl⟩) rfl (Yv.move rfl) ?_
  refine RW.o _ (.inr ⟨_, _, 38, rfl, rfl, rfl⟩) rfl (Ow.call e14 rfl (C.val (fun w hs => arcsHead_nil x0 _))) ?_
  rintro _ _ ⟨rfl, rfl⟩
  refine RW.y (.inr ⟨_, _, 38, rfl, rfl, rfl⟩) rfl (Yv.ne rfl rfl) ?_
  refine RW.y (.inl rfl) rfl (Yv.pickF rfl rfl) ?_
  refine RW.y (.inl rfl) rfl (Yv.move rfl) ?_
  refine RW.isF 44 rfl (by simp) ?_
  refine RW.y (.inr ⟨_, _, 44, rfl, rfl, rfl⟩) rfl (Yv.move rfl) ?_
  refine RW.y (.inr ⟨_, _, 44, rfl, rfl, rfl⟩) rfl (Yv.move rfl) ?_
  refine RW.o _ (.inr ⟨_, _, 44, rfl, rfl, rfl⟩) rfl (Ow.call e15 rfl (C.val (fun w hs => arcsCap_nil x0 _))) ?_
  rintro _ _ ⟨rfl, rfl⟩
  refine RW.y (.inr ⟨_, _, 44, rfl, rfl, rfl⟩) rfl (Yv.ne rfl rfl) ?_
  refine RW.y (.inl rfl) rfl (Yv.pickF rfl rfl) ?_
  refine RW.nil ?_
  refine PW.go ?_
  refine CW.condD rfl (fun hc49 => ?_) (fun hc49 => ?_)
  ·
    exact absurd rfl hc49
  ·
    refine CW.skip ?_
    refine PW.go ?_
    refine CW.seq ?_
    refine CW.seq ?_
    refine CW.region ?_
    refine RW.y (.inl rfl) rfl (Yv.move rfl) ?_
    refine RW.y (.inl rfl) rfl (Yv.len Try.underlying22 rfl) ?_
    refine RW.y (.inl rfl) rfl (Yv.gt rfl rfl) ?_
    refine RW.nil ?_
    refine PW.go ?_
    refine CW.condD rfl (fun hc52 => ?_) (fun hc52 => ?_)
    ·
      omega
    ·
      refine CW.skip ?_
      refine PW.go ?_
      refine CW.seq ?_
      refine CW.region ?_
      refine RW.y (.inl rfl) rfl (Yv.move rfl) ?_
      refine RW.y (.inl rfl) rfl (Yv.conv64 Try.underlying5 Try.underlying3 rfl (by omega)) ?_
      refine RW.y (.inl rfl) rfl (Yv.move rfl) ?_
      refine RW.o _ (.inl rfl) rfl (Ow.call e8 rfl (C.val (fun w hs => netNew_err n A c l _ (hr.below hs.mod.below) k i hk he))) ?_
      rintro _ _ ⟨rfl, rfl⟩
      refine RW.y (.inl rfl) rfl (Yv.move rfl) ?_
      refine RW.y (.inl rfl) rfl (Yv.extract rfl rfl) ?_
      refine RW.y (.inl rfl) rfl (Yv.extract rfl rfl) ?_
      refine RW.y (.inl rfl) rfl (Yv.extract rfl rfl) ?_
      refine RW.y (.inl rfl) rfl (Yv.assign rfl) ?_
      refine RW.y (.inl rfl) rfl (Yv.assign rfl) ?_
      refine RW.y (.inl rfl) rfl (Yv.assign rfl) ?_
      refine RW.nil ?_
      refine PW.go ?_
      refine CW.seq ?_
      refine CW.seq ?_
      refine CW.region ?_
      refine RW.y (.inl rfl) rfl (Yv.move rfl) ?_
      refine RW.y (.inl rfl) rfl (Yv.ne rfl rfl) ?_
      refine RW.nil ?_
      refine PW.go ?_
      refine CW.condD rfl (fun hc63 => ?_) (fun hc63 => ?_)
      ·
        refine CW.seq ?_
        refine CW.region ?_
        refine RW.o _ (.inl rfl) rfl (Ow.call e7 rfl (C.val (fun w hs => awake19 _))) ?_
        rintro _ _ ⟨rfl, rfl⟩
        refine RW.y (.inl rfl) rfl (Yv.assign rfl) ?_
        refine RW.nil ?_
        refine PW.go ?_
        refine CW.ret ?_
        refine PW.then_ret ?_
        refine PW.ret1 Try.results4 rfl (fun w1 hs => ?_)
        exact ⟨rfl, hs.mod.below⟩
      ·
        exact absurd hk hc63

set_option maxRecDepth 100000 in
theorem csrPairs_ok (n : Int) (hn : 0 ≤ n ∧ n ≤ 255) (A : Option Addr) (c : Nat) (l : List Edg) (x0 : Int) (hx : -9223372036854775808 ≤ x0 ∧ x0 ≤ 9223372036854775807) (w : World) (hr : Rd w A 3 l.length (cellsE l)) (hl60 : l.length ≤ 60) (hok : NewOk n l) : Calls Try.prog 4 #[.int .u8 n, .slice A l.length c, .int .i64 x0] w fun e w1 => e = .returned (.bool true) ∧ Gr w w1 := by
  have hml := mergeL_length l
  have hao := hok.arcs
  refine CW.enter (P := Try.prog) (F0 := none0) (L := [(0, _), (1, _), (2, _)]) 174 [] Try.func4 rfl Try.ntmps4 (Nat.le_of_ble_eq_true rfl) (St.start w none0) rfl ?_
  refine CW.seq ?_
  refine CW.region ?_
  refine RW.y (.inl rfl) rfl (Yv.assign rfl) ?_
  refine RW.nil ?_
  refine PW.go ?_
  refine CW.seq ?_
  refine CW.region ?_
  refine RW.y (.inl rfl) rfl (Yv.assign rfl) ?_
  refine RW.nil ?_
  refine PW.go ?_
  refine CW.seq ?_
  refine CW.seq ?_
  refine CW.region ?_
  refine RW.y (.inl rfl) rfl (Yv.move rfl) ?_
  refine RW.o _ (.inl rfl) rfl (Ow.call e10 rfl (C.val (fun w hs => arcsN_nil _))) ?_
  rintro _ _ ⟨rfl, rfl⟩
  refine RW.y (.inl rfl) rfl (Yv.ne rfl rfl) ?_
  refine RW.y (.inl rfl) rfl (Yv.move rfl) ?_
  refine RW.isF 21 rfl (by simp) ?_
  refine RW.y (.inr ⟨_, _, 21, rfl, rfl, rfl⟩) rfl (Yv.move rfl) ?_
  refine RW.o _ (.inr ⟨_, _, 21, rfl, rfl, rfl⟩) rfl (Ow.call e11 rfl (C.val (fun w hs => arcsLen_nil _))) ?_
  rintro _ _ ⟨rfl, rfl⟩
  refine RW.y (.inr ⟨_, _, 21, rfl, rfl, rfl⟩) rfl (Yv.ne rfl rfl) ?_
  refine RW.y (.inl rfl) rfl (Yv.pickF rfl rfl) ?_
  refine RW.y (.inl rfl) rfl (Yv.move rfl) ?_
  refine RW.isF 26 rfl (by simp) ?_
  refine RW.y (.inr ⟨_, _, 26, rfl, rfl, rfl⟩) rfl (Yv.move rfl) ?_
  refine RW.o _ (.inr ⟨_, _, 26, rfl, rfl, rfl⟩) rfl (Ow.call e12 rfl (C.val (fun w hs => arcsOut_nil 0 _))) ?_
  rintro _ _ ⟨rfl, rfl⟩
  refine RW.y (.inr ⟨_, _, 26, rfl, rfl, rfl⟩) rfl (Yv.len Try.underlying32 rfl) ?_
  refine RW.y (.inr ⟨_, _, 26, rfl, rfl, rfl⟩) rfl (Yv.ne rfl rfl) ?_
  refine RW.y (.inl rfl) rfl (Yv.pickF rfl rfl) ?_
  refine RW.y (.inl rfl) rfl (Yv.move rfl) ?_
  refine RW.isF 32 rfl (by simp) ?_
  refine RW.y (.inr ⟨_, _, 32, rfl, rfl, rfl⟩) rfl (Yv.move rfl) ?_
  refine RW.y (.inr ⟨_, _, 32, rfl, rfl, rfl⟩) rfl (Yv.move rfl) ?_
  refine RW.o _ (.inr ⟨_, _, 32, rfl, rfl, rfl⟩) rfl (Ow.call e13 rfl (C.val (fun w hs => arcsTail_nil x0 hx _))) ?_
  rintro _ _ ⟨rfl, rfl⟩
  refine RW.y (.inr ⟨_, _, 32, rfl, rfl, rfl⟩) rfl (Yv.ne rfl rfl) ?_
  refine RW.y (.inl rfl) rfl (Yv.pickF rfl rfl) ?_
  refine RW.y (.inl rfl) rfl (Yv.move rfl) ?_
  refine RW.isF 38 rfl (by simp) ?_
  refine RW.y (.inr ⟨_, _, 38, rfl, rfl, rfl⟩) rfl (Yv.move rfl) ?_
  refine RW.y (.inr ⟨_, _, 38, rfl, rfl, rfl⟩) rfl (Yv.move rfl) ?_
  refine RW.o _ (.inr ⟨_, _, 38, rfl, rfl, rfl⟩) rfl (Ow.call e14 rfl (C.val (fun w hs => arcsHead_nil x0 _))) ?_
  rintro _ _ ⟨rfl, rfl⟩
  refine RW.y (.inr ⟨_, _, 38, rfl, rfl, rfl⟩) rfl (Yv.ne rfl rfl) ?_
  refine RW.y (.inl rfl) rfl (Yv.pickF rfl rfl) ?_
  refine RW.y (.inl rfl) rfl (Yv.move rfl) ?_
  refine RW.isF 44 rfl (by simp) ?_
  refine RW.y (.inr ⟨_, _, 44, rfl, rfl, rfl⟩) rfl (Yv.move rfl) ?_
  refine RW.y (.inr ⟨_, _, 44, rfl, rfl, rfl⟩) rfl (Yv.move rfl) ?_
  refine RW.o _ (.inr ⟨_, _, 44, rfl, rfl, rfl⟩) rfl (Ow.call e15 rfl (C.val (fun w hs => arcsCap_nil x0 _))) ?_
  rintro _ _ ⟨rfl, rfl⟩
  refine RW.y (.inr ⟨_, _, 44, rfl, rfl, rfl⟩) rfl (Yv.ne rfl rfl) ?_
  refine RW.y (.inl rfl) rfl (Yv.pickF rfl rfl) ?_
  refine RW.nil ?_
  refine PW.go ?_
  refine CW.condD rfl (fun hc49 => ?_) (fun hc49 => ?_)
  ·
    exact absurd rfl hc49
  ·
    refine CW.skip ?_
    refine PW.go ?_
    refine CW.seq ?_
    refine CW.seq ?_
    refine CW.region ?_
    refine RW.y (.inl rfl) rfl (Yv.move rfl) ?_
    refine RW.y (.inl rfl) rfl (Yv.len Try.underlying22 rfl) ?_
    refine RW.y (.inl rfl) rfl (Yv.gt rfl rfl) ?_
    refine RW.nil ?_
    refine PW.go ?_
    refine CW.condD rfl (fun hc52 => ?_) (fun hc52 => ?_)
    ·
      omega
    ·
      refine CW.skip ?_
      refine PW.go ?_
      refine CW.seq ?_
      refine CW.region ?_
      refine RW.y (.inl rfl) rfl (Yv.move rfl) ?_
      refine RW.y (.inl rfl) rfl (Yv.conv64 Try.underlying5 Try.underlying3 rfl (by omega)) ?_
      refine RW.y (.inl rfl) rfl (Yv.move rfl) ?_
      refine RW.o _ (.inl rfl) rfl (Ow.call e8 rfl (C.new (val := fun (b : Nat) => .tuple #[.pointer (some ⟨b, 0, none⟩), .int .i64 0, .int .i64 0]) (φ := fun _ => True) (Ψ := fun b => nowA (fun w' => IsNet w' b (netOf n l))) (fun w2 hs => (netNew_ok n A c l w2 (hr.below hs.mod.below) hok).mono (fun en w3 ⟨b, ht, he, hb, F, hF, hk⟩ => ⟨b, ht, he, hb, F, hF, hk⟩)))) ?_
      rintro _ _ ⟨bg, -, rfl, rfl⟩
      refine RW.y (.inl rfl) rfl (Yv.move rfl) ?_
      refine RW.y (.inl rfl) rfl (Yv.extract rfl rfl) ?_
      refine RW.y (.inl rfl) rfl (Yv.extract rfl rfl) ?_
      refine RW.y (.inl rfl) rfl (Yv.extract rfl rfl) ?_
      refine RW.y (.inl rfl) rfl (Yv.assign rfl) ?_
      refine RW.y (.inl rfl) rfl (Yv.assign rfl) ?_
      refine RW.y (.inl rfl) rfl (Yv.assign rfl) ?_
      refine RW.nil ?_
      refine PW.go ?_
      refine CW.seq ?_
      refine CW.seq ?_
      refine CW.region ?_
      refine RW.y (.inl rfl) rfl (Yv.move rfl) ?_
      refine RW.y (.inl rfl) rfl (Yv.ne rfl rfl) ?_
      refine RW.nil ?_
      refine PW.go ?_
      refine CW.condD rfl (fun hc63 => ?_) (fun hc63 => ?_)
      ·
        exact absurd rfl hc63
      ·
        refine CW.skip ?_
        refine PW.go ?_
        refine CW.seq ?_
        refine CW.region ?_
        refine RW.y (.inl rfl) rfl (Yv.move rfl) ?_
        refine RW.o _ (.inl rfl) rfl (Ow.call e9 rfl (C.new (val := fun (x : Nat × List Int) => .pointer (some ⟨x.1, 0, none⟩)) (φ := fun x => ∀ v, v < n.toNat → (csrD (n.toNat) (mergeL l) x.2).of v = outOf (n.toNat) (mergeL l) v) (Ψ := fun x => nowA (fun w' => IsArcs w' x.1 (csrD (n.toNat) (mergeL l) x.2))) (fun w2 hs => csrNewG bg n l hok w2 (hs.now 0 rfl)))) ?_
        rintro _ _ ⟨⟨ba, out⟩, hof, rfl, rfl⟩
        refine RW.y (.inl rfl) rfl (Yv.assign rfl) ?_
        refine RW.nil ?_
        refine PW.go ?_
        refine CW.seq ?_
        refine CW.region ?_
        refine RW.y (.inl rfl) rfl (Yv.move rfl) ?_
        refine RW.o _ (.inl rfl) rfl (Ow.call e11 rfl (C.val (fun w hs => arcsLen ba (csrD n.toNat (mergeL l) out) _ (hs.now 0 rfl)))) ?_
        rintro _ _ ⟨rfl, rfl⟩
        refine RW.o _ (.inl rfl) rfl (Ow.make (m := 2 * (mergeL l).length) Try.underlying32 info3 rfl rfl rfl (by show ((2 * (mergeL l).length : Nat) : Int) = _; rfl) (by show ((2 * (mergeL l).length : Nat) : Int) = _; rfl) (by omega) (by omega)) ?_
        rintro _ _ ⟨b69, rfl, rfl⟩
        refine RW.y (.inl rfl) rfl (Yv.assign rfl) ?_
        refine RW.nil ?_
        refine PW.go ?_
        refine CW.seq ?_
        refine CW.seq ?_
        refine CW.mem _ (fun w h => h.row_eq (m' := 2 * (mergeL l).length) (xs' := i64s (cameL (mergeL l) 0 [])) 0 rfl (rfl) (by rw [cameL_zero hao]; simp [i64s])) ?_
        refine CW.region ?_
        refine RW.y (.inl rfl) rfl (Yv.assign rfl) ?_
        refine RW.nil ?_
        refine PW.go ?_
        refine CW.block ?_
        refine CW.loop (σ := Nat) (fun v => v ≤ n.toNat) (fun v => [(8, .pointer (some ⟨bg, 0, none⟩)), (11, .pointer (some ⟨ba, 0, none⟩)), (12, .slice (some ⟨b69, 0, none⟩) (2 * (mergeL l).length) (2 * (mergeL l).length)), (13, .int .i64 (v : Nat))]) (fun v => [row (.slice (some ⟨b69, 0, none⟩) (2 * (mergeL l).length) (2 * (mergeL l).length)) 3 1 (2 * (mergeL l).length) (i64s (cameL (mergeL l) v [])), nowA (fun w' => IsArcs w' ba (csrD n.toNat (mergeL l) out)), nowA (fun w' => IsNet w' bg (netOf n l))]) (fun v => n.toNat - v) 0 (by simp) ⟨rfl, rfl, rfl, rfl, trivial⟩ (fun w h => h) ?_
        intro v hv
        refine CW.seq ?_
        refine CW.seq ?_
        refine CW.region ?_
        refine RW.y (.inl rfl) rfl (Yv.move rfl) ?_
        refine RW.y (.inl rfl) rfl (Yv.move rfl) ?_
        refine RW.o _ (.inl rfl) rfl (Ow.call e10 rfl (C.val (fun w hs => arcsN ba (csrD n.toNat (mergeL l) out) _ (hs.now 1 rfl)))) ?_
        rintro _ _ ⟨rfl, rfl⟩
        refine RW.y (.inl rfl) rfl (Yv.lt rfl rfl) ?_
        refine RW.nil ?_
        refine PW.go ?_
        refine CW.condD rfl (fun hc73 => ?_) (fun hc73 => ?_)
        ·
          have hvn : v < n.toNat := Int.ofNat_lt.1 hc73
          refine CW.skip ?_
          refine PW.go ?_
          refine CW.seq ?_
          refine CW.block ?_
          refine CW.seq ?_
          refine CW.region ?_
          refine RW.y (.inl rfl) rfl (Yv.move rfl) ?_
          refine RW.y (.inl rfl) rfl (Yv.move rfl) ?_
          refine RW.o _ (.inl rfl) rfl (Ow.call e12 rfl (C.new (val := id) (φ := fun _ => True) (Ψ := fun v_ => row v_ 3 1 ((outOf n.toNat (mergeL l) (v : Nat)).length) (i64s (outOf n.toNat (mergeL l) (v : Nat)))) (fun w2 hs => (arcsOutAll ba n.toNat (mergeL l) out (v : Nat) w2 hao hof (hs.now 1 rfl)).mono (fun e w3 ⟨v_, hv_, hb, F, hF, hk_⟩ => ⟨v_, trivial, hv_, hb, F, hF, hk_⟩)))) ?_
          rintro _ _ ⟨v_o, -, rfl, rfl⟩
          refine RW.y (.inl rfl) rfl (Yv.assign rfl) ?_
          refine RW.nil ?_
          refine PW.go ?_
          refine CW.seq ?_
          refine CW.facts _ (fun w h => h.row_slice 0 rfl) ?_
          rintro ⟨Ao, co, rfl⟩
          have hob := outOf_length (mergeL l) (v : Nat) n.toNat
          have hmm : n.toNat * (2 * (mergeL l).length) ≤ 255 * (2 * 60) := Nat.mul_le_mul (by omega) (by omega)
          refine CW.region ?_
          refine RW.y (.inl rfl) rfl (Yv.assign rfl) ?_
          refine RW.nil ?_
          refine PW.go ?_
          refine CW.block ?_
          refine CW.loop (σ := Nat) (fun k => k ≤ (outOf n.toNat (mergeL l) (v : Nat)).length) (fun k => [(8, .pointer (some ⟨bg, 0, none⟩)), (11, .pointer (some ⟨ba, 0, none⟩)), (12, .slice (some ⟨b69, 0, none⟩) (2 * (mergeL l).length) (2 * (mergeL l).length)), (13, .int .i64 (v : Nat)), (14, .slice Ao (outOf n.toNat (mergeL l) (v : Nat)).length co), (15, .int .i64 (k : Nat))]) (fun k => [row (.slice Ao (outOf n.toNat (mergeL l) (v : Nat)).length co) 3 1 (outOf n.toNat (mergeL l) (v : Nat)).length (i64s (outOf n.toNat (mergeL l) (v : Nat))), row (.slice (some ⟨b69, 0, none⟩) (2 * (mergeL l).length) (2 * (mergeL l).length)) 3 1 (2 * (mergeL l).length) (i64s (cameL (mergeL l) v ((outOf n.toNat (mergeL l) (v : Nat)).take k))), nowA (fun w' => IsArcs w' ba (csrD n.toNat (mergeL l) out)), nowA (fun w' => IsNet w' bg (netOf n l))]) (fun k => (outOf n.toNat (mergeL l) (v : Nat)).length - k) 0 (by simp) ⟨rfl, rfl, rfl, rfl, rfl, rfl, trivial⟩ (fun w h => by simpa using h) ?_
          intro k hk
          refine CW.seq ?_
          refine CW.seq ?_
          refine CW.region ?_
          refine RW.y (.inl rfl) rfl (Yv.move rfl) ?_
          refine RW.y (.inl rfl) rfl (Yv.move rfl) ?_
          refine RW.y (.inl rfl) rfl (Yv.len Try.underlying32 rfl) ?_
          refine RW.y (.inl rfl) rfl (Yv.lt rfl rfl) ?_
          refine RW.nil ?_
          refine PW.go ?_
          refine CW.condD rfl (fun hc82 => ?_) (fun hc82 => ?_)
          ·
            refine CW.skip ?_
            refine PW.go ?_
            refine CW.seq ?_
            refine CW.block ?_
            refine CW.seq ?_
            have hkl : k < (outOf n.toNat (mergeL l) (v : Nat)).length := by omega
            refine CW.facts _ (fun w h => h.row_some 0 rfl (by omega)) ?_
            rintro ⟨bo, rfl⟩
            obtain ⟨x, hxk⟩ : ∃ x, (outOf n.toNat (mergeL l) (v : Nat))[k]? = some x := ⟨_, List.getElem?_eq_getElem hkl⟩
            obtain ⟨hx0, hx1, hxt⟩ := (mem_outOf hao (by omega) x).1 (List.mem_of_getElem? hxk)
            obtain ⟨hst1, hst2⟩ := cameL_step hx0 hx1 (out_not hao hxk) hxt
            have hcl := cameL_length (mergeL l) v ((outOf n.toNat (mergeL l) (v : Nat)).take k)
            refine CW.region ?_
            refine RW.y (.inl rfl) rfl (Yv.move rfl) ?_
            refine RW.y (.inl rfl) rfl (Yv.move rfl) ?_
            refine RW.y (.inl rfl) rfl (Yv.index0 Try.underlying32 Try.sizeOf3 rfl rfl (by omega) (by omega)) ?_
            refine RW.y (.inl rfl) rfl (Yv.load1 Try.isAgg3 rfl (CF.row 0 rfl (i64s_at (by omega) hxk))) ?_
            refine RW.y (.inl rfl) rfl (Yv.assign rfl) ?_
            refine RW.nil ?_
            refine PW.go ?_
            refine CW.seq ?_
            refine CW.seq ?_
            refine CW.region ?_
            refine RW.y (.inl rfl) rfl (Yv.move rfl) ?_
            refine RW.y (.inl rfl) rfl (Yv.lt rfl rfl) ?_
            refine RW.y (.inl rfl) rfl (Yv.move rfl) ?_
            refine RW.isF 91 rfl (by omega) ?_
            refine RW.y (.inr ⟨_, _, 91, rfl, rfl, rfl⟩) rfl (Yv.move rfl) ?_
            refine RW.y (.inr ⟨_, _, 91, rfl, rfl, rfl⟩) rfl (Yv.move rfl) ?_
            refine RW.y (.inr ⟨_, _, 91, rfl, rfl, rfl⟩) rfl (Yv.len Try.underlying32 rfl) ?_
            refine RW.y (.inr ⟨_, _, 91, rfl, rfl, rfl⟩) rfl (Yv.ge rfl rfl) ?_
            refine RW.y (.inl rfl) rfl (Yv.pickF rfl rfl) ?_
            refine RW.y (.inl rfl) rfl (Yv.move rfl) ?_
            refine RW.isF 97 rfl (by omega) ?_
            refine RW.y (.inr ⟨_, _, 97, rfl, rfl, rfl⟩) rfl (Yv.move rfl) ?_
            refine RW.y (.inr ⟨_, _, 97, rfl, rfl, rfl⟩) rfl (Yv.move rfl) ?_
            refine RW.o _ (.inr ⟨_, _, 97, rfl, rfl, rfl⟩) rfl (Ow.call e13 rfl (C.val (fun w hs => arcsTail ba (csrD n.toNat (mergeL l) out) x (by omega) _ (hs.now 2 rfl)))) ?_
            rintro _ _ ⟨rfl, rfl⟩
            refine RW.y (.inr ⟨_, _, 97, rfl, rfl, rfl⟩) rfl (Yv.move rfl) ?_
            refine RW.y (.inr ⟨_, _, 97, rfl, rfl, rfl⟩) rfl (Yv.ne rfl rfl) ?_
            refine RW.y (.inl rfl) rfl (Yv.pickF rfl rfl) ?_
            refine RW.y (.inl rfl) rfl (Yv.move rfl) ?_
            refine RW.isF 104 rfl (fun h => h hxt) ?_
            refine RW.y (.inr ⟨_, _, 104, rfl, rfl, rfl⟩) rfl (Yv.move rfl) ?_
            refine RW.o _ (.inr ⟨_, _, 104, rfl, rfl, rfl⟩) rfl (Ow.call e22 rfl (C.val (fun w hs => csrBack x (by omega) _))) ?_
            rintro _ _ ⟨rfl, rfl⟩
            refine RW.o _ (.inr ⟨_, _, 104, rfl, rfl, rfl⟩) rfl (Ow.call e22 rfl (C.val (fun w hs => csrBack (backOf x) (backOf_bd (by omega)) _))) ?_
            rintro _ _ ⟨rfl, rfl⟩
            refine RW.y (.inr ⟨_, _, 104, rfl, rfl, rfl⟩) rfl (Yv.move rfl) ?_
            refine RW.y (.inr ⟨_, _, 104, rfl, rfl, rfl⟩) rfl (Yv.ne rfl rfl) ?_
            refine RW.y (.inl rfl) rfl (Yv.pickF rfl rfl) ?_
            refine RW.y (.inl rfl) rfl (Yv.move rfl) ?_
            refine RW.isF 111 rfl (fun h => h (back_back hx0)) ?_
            refine RW.y (.inr ⟨_, _, 111, rfl, rfl, rfl⟩) rfl (Yv.move rfl) ?_
            refine RW.y (.inr ⟨_, _, 111, rfl, rfl, rfl⟩) rfl (Yv.move rfl) ?_
            refine RW.o _ (.inr ⟨_, _, 111, rfl, rfl, rfl⟩) rfl (Ow.call e22 rfl (C.val (fun w hs => csrBack x (by omega) _))) ?_
            rintro _ _ ⟨rfl, rfl⟩
            refine RW.o _ (.inr ⟨_, _, 111, rfl, rfl, rfl⟩) rfl (Ow.call e14 rfl (C.val (fun w hs => arcsHead ba (csrD n.toNat (mergeL l) out) (backOf x) _ (hs.now 2 rfl)))) ?_
            rintro _ _ ⟨rfl, rfl⟩
            refine RW.y (.inr ⟨_, _, 111, rfl, rfl, rfl⟩) rfl (Yv.move rfl) ?_
            refine RW.y (.inr ⟨_, _, 111, rfl, rfl, rfl⟩) rfl (Yv.ne rfl rfl) ?_
            refine RW.y (.inl rfl) rfl (Yv.pickF rfl rfl) ?_
            refine RW.y (.inl rfl) rfl (Yv.move rfl) ?_
            refine RW.isF 119 rfl (fun h => h hxt) ?_
            refine RW.y (.inr ⟨_, _, 119, rfl, rfl, rfl⟩) rfl (Yv.move rfl) ?_
            refine RW.y (.inr ⟨_, _, 119, rfl, rfl, rfl⟩) rfl (Yv.move rfl) ?_
            refine RW.o _ (.inr ⟨_, _, 119, rfl, rfl, rfl⟩) rfl (Ow.call e15 rfl (C.val (fun w hs => arcsCap ba (csrD n.toNat (mergeL l) out) x _ (hs.now 2 rfl)))) ?_
            rintro _ _ ⟨rfl, rfl⟩
            refine RW.y (.inr ⟨_, _, 119, rfl, rfl, rfl⟩) rfl (Yv.move rfl) ?_
            refine RW.y (.inr ⟨_, _, 119, rfl, rfl, rfl⟩) rfl (Yv.move rfl) ?_
            refine RW.o _ (.inr ⟨_, _, 119, rfl, rfl, rfl⟩) rfl (Ow.call e22 rfl (C.val (fun w hs => csrBack x (by omega) _))) ?_
            rintro _ _ ⟨rfl, rfl⟩
            refine RW.o _ (.inr ⟨_, _, 119, rfl, rfl, rfl⟩) rfl (Ow.call e15 rfl (C.val (fun w hs => arcsCap ba (csrD n.toNat (mergeL l) out) (backOf x) _ (hs.now 2 rfl)))) ?_
            rintro _ _ ⟨rfl, rfl⟩
            refine RW.y (.inr ⟨_, _, 119, rfl, rfl, rfl⟩) rfl (Yv.ne rfl rfl) ?_
            refine RW.y (.inl rfl) rfl (Yv.pickF rfl rfl) ?_
            refine RW.y (.inl rfl) rfl (Yv.move rfl) ?_
            refine RW.isF 129 rfl (fun h => h (cap_back hx0 hx1)) ?_
            refine RW.y (.inr ⟨_, _, 129, rfl, rfl, rfl⟩) rfl (Yv.move rfl) ?_
            refine RW.y (.inr ⟨_, _, 129, rfl, rfl, rfl⟩) rfl (Yv.gt rfl rfl) ?_
            refine RW.y (.inr ⟨_, _, 129, rfl, rfl, rfl⟩) rfl (Yv.move rfl) ?_
            refine RW.splitD 132 rfl (fun hc132 => ?_) (fun hc132 => ?_)
            ·
              obtain ⟨y, hyk⟩ : ∃ y, (outOf n.toNat (mergeL l) (v : Nat))[k - 1]? = some y := ⟨_, List.getElem?_eq_getElem (by omega)⟩
              have hyx := out_lt hao hyk hxk (by omega)
              refine RW.y (.inr ⟨_, _, 132, rfl, rfl, rfl⟩) rfl (Yv.move rfl) ?_
              refine RW.y (.inr ⟨_, _, 132, rfl, rfl, rfl⟩) rfl (Yv.move rfl) ?_
              refine RW.y (.inr ⟨_, _, 132, rfl, rfl, rfl⟩) rfl (Yv.move rfl) ?_
              refine RW.y (.inr ⟨_, _, 132, rfl, rfl, rfl⟩) rfl (Yv.sub rfl rfl (by omega)) ?_
              refine RW.y (.inr ⟨_, _, 132, rfl, rfl, rfl⟩) rfl (Yv.index0 Try.underlying32 Try.sizeOf3 rfl rfl (by omega) (by omega)) ?_
              refine RW.y (.inr ⟨_, _, 132, rfl, rfl, rfl⟩) rfl (Yv.load1 Try.isAgg3 rfl (CF.row 0 rfl (i64s_at (k := k - 1) (by omega) hyk))) ?_
              refine RW.o _ (.inr ⟨_, _, 132, rfl, rfl, rfl⟩) rfl (Ow.call e14 rfl (C.val (fun w hs => arcsHead ba (csrD n.toNat (mergeL l) out) y _ (hs.now 2 rfl)))) ?_
              rintro _ _ ⟨rfl, rfl⟩
              refine RW.y (.inr ⟨_, _, 132, rfl, rfl, rfl⟩) rfl (Yv.move rfl) ?_
              refine RW.y (.inr ⟨_, _, 132, rfl, rfl, rfl⟩) rfl (Yv.move rfl) ?_
              refine RW.o _ (.inr ⟨_, _, 132, rfl, rfl, rfl⟩) rfl (Ow.call e14 rfl (C.val (fun w hs => arcsHead ba (csrD n.toNat (mergeL l) out) x _ (hs.now 2 rfl)))) ?_
              rintro _ _ ⟨rfl, rfl⟩
              refine RW.y (.inr ⟨_, _, 132, rfl, rfl, rfl⟩) rfl (Yv.ge rfl rfl) ?_
              refine RW.y (.inr ⟨_, _, 129, rfl, rfl, rfl⟩) rfl (Yv.pickT rfl rfl) ?_
              refine RW.y (.inl rfl) rfl (Yv.pickF rfl rfl) ?_
              refine RW.nil ?_
              refine PW.go ?_
              refine CW.condD rfl (fun hc145 => ?_) (fun hc145 => ?_)
              ·
                exact absurd hc145 (Int.not_le.2 hyx)
              ·
                refine CW.skip ?_
                refine PW.go ?_
                refine CW.region ?_
                refine RW.y (.inl rfl) rfl (Yv.move rfl) ?_
                refine RW.y (.inl rfl) rfl (Yv.move rfl) ?_
                refine RW.y (.inl rfl) rfl (Yv.move rfl) ?_
                refine RW.y (.inl rfl) rfl (Yv.move rfl) ?_
                refine RW.y (.inl rfl) rfl (Yv.index0 Try.underlying32 Try.sizeOf3 rfl rfl (by omega) (by omega)) ?_
                refine RW.y (.inl rfl) rfl (Yv.load1 Try.isAgg3 rfl (CF.row 1 rfl (i64s_at rfl hst1))) ?_
                refine RW.y (.inl rfl) rfl (Yv.add rfl rfl (by omega)) ?_
                refine RW.y (.inl rfl) rfl (Yv.index0 Try.underlying32 Try.sizeOf3 rfl rfl (by omega) (by omega)) ?_
                refine RW.o _ (.inl rfl) rfl (Ow.storeRow 1 Try.sizeOf3 rfl rfl (rfl) rfl (by rw [i64s_length, hcl]; omega)) ?_
                rintro _ _ ⟨rfl, rfl⟩
                refine RW.nil ?_
                refine PW.block ?_
                refine PW.go ?_
                refine CW.region ?_
                refine RW.y (.inl rfl) rfl (Yv.move rfl) ?_
                refine RW.y (.inl rfl) rfl (Yv.add rfl rfl (by omega)) ?_
                refine RW.y (.inl rfl) rfl (Yv.assign rfl) ?_
                refine RW.nil ?_
                refine PW.mem _ (fun w h => h.row_eq (m' := 2 * (mergeL l).length) (xs' := i64s (cameL (mergeL l) v ((outOf n.toNat (mergeL l) (v : Nat)).take (k + 1)))) 1 rfl (rfl) (by rw [take_snocN hxk, ← hst2]; simp [i64s, List.map_set])) ?_
                exact PW.next (k + 1) (by omega) ⟨rfl, rfl, rfl, rfl, rfl, rfl, trivial⟩ (fun w h => h) (by omega)
            ·
              refine RW.no ⟨_, _, 132, _, rfl, rfl, rfl, fun h => by simp [undef] at h⟩ rfl ?_
              refine RW.no ⟨_, _, 132, _, rfl, rfl, rfl, fun h => by simp [undef] at h⟩ rfl ?_
              refine RW.no ⟨_, _, 132, _, rfl, rfl, rfl, fun h => by simp [undef] at h⟩ rfl ?_
              refine RW.no ⟨_, _, 132, _, rfl, rfl, rfl, fun h => by simp [undef] at h⟩ rfl ?_
              refine RW.no ⟨_, _, 132, _, rfl, rfl, rfl, fun h => by simp [undef] at h⟩ rfl ?_
              refine RW.no ⟨_, _, 132, _, rfl, rfl, rfl, fun h => by simp [undef] at h⟩ rfl ?_
              refine RW.no ⟨_, _, 132, _, rfl, rfl, rfl, fun h => by simp [undef] at h⟩ rfl ?_
              refine RW.no ⟨_, _, 132, _, rfl, rfl, rfl, fun h => by simp [undef] at h⟩ rfl ?_
              refine RW.no ⟨_, _, 132, _, rfl, rfl, rfl, fun h => by simp [undef] at h⟩ rfl ?_
              refine RW.no ⟨_, _, 132, _, rfl, rfl, rfl, fun h => by simp [undef] at h⟩ rfl ?_
              refine RW.no ⟨_, _, 132, _, rfl, rfl, rfl, fun h => by simp [undef] at h⟩ rfl ?_
              refine RW.y (.inr ⟨_, _, 129, rfl, rfl, rfl⟩) rfl (Yv.pickF rfl rfl) ?_
              refine RW.y (.inl rfl) rfl (Yv.pickF rfl rfl) ?_
              refine RW.nil ?_
              refine PW.go ?_
              refine CW.condF rfl ?_
              refine CW.skip ?_
              refine PW.go ?_
              refine CW.region ?_
              refine RW.y (.inl rfl) rfl (Yv.move rfl) ?_
              refine RW.y (.inl rfl) rfl (Yv.move rfl) ?_
              refine RW.y (.inl rfl) rfl (Yv.move rfl) ?_
              refine RW.y (.inl rfl) rfl (Yv.move rfl) ?_
              refine RW.y (.inl rfl) rfl (Yv.index0 Try.underlying32 Try.sizeOf3 rfl rfl (by omega) (by omega)) ?_
              refine RW.y (.inl rfl) rfl (Yv.load1 Try.isAgg3 rfl (CF.row 1 rfl (i64s_at rfl hst1))) ?_
              refine RW.y (.inl rfl) rfl (Yv.add rfl rfl (by omega)) ?_
              refine RW.y (.inl rfl) rfl (Yv.index0 Try.underlying32 Try.sizeOf3 rfl rfl (by omega) (by omega)) ?_
              refine RW.o _ (.inl rfl) rfl (Ow.storeRow 1 Try.sizeOf3 rfl rfl (rfl) rfl (by rw [i64s_length, hcl]; omega)) ?_
              rintro _ _ ⟨rfl, rfl⟩
              refine RW.nil ?_
              refine PW.block ?_
              refine PW.go ?_
              refine CW.region ?_
              refine RW.y (.inl rfl) rfl (Yv.move rfl) ?_
              refine RW.y (.inl rfl) rfl (Yv.add rfl rfl (by omega)) ?_
              refine RW.y (.inl rfl) rfl (Yv.assign rfl) ?_
              refine RW.nil ?_
              refine PW.mem _ (fun w h => h.row_eq (m' := 2 * (mergeL l).length) (xs' := i64s (cameL (mergeL l) v ((outOf n.toNat (mergeL l) (v : Nat)).take (k + 1)))) 1 rfl (rfl) (by rw [take_snocN hxk, ← hst2]; simp [i64s, List.map_set])) ?_
              exact PW.next (k + 1) (by omega) ⟨rfl, rfl, rfl, rfl, rfl, rfl, trivial⟩ (fun w h => h) (by omega)
          ·
            refine CW.exit ?_
            refine PW.then_exit ?_
            refine PW.then_exit ?_
            refine PW.block_exit ?_
            refine PW.block ?_
            refine PW.go ?_
            refine CW.region ?_
            refine RW.y (.inl rfl) rfl (Yv.move rfl) ?_
            refine RW.y (.inl rfl) rfl (Yv.add rfl rfl (by omega)) ?_
            refine RW.y (.inl rfl) rfl (Yv.assign rfl) ?_
            refine RW.nil ?_
            refine PW.mem _ (fun w h => h.row_eq (m' := 2 * (mergeL l).length) (xs' := i64s (cameL (mergeL l) (v + 1) [])) 1 rfl (rfl) (by rw [← cameL_next hao, List.take_of_length_le (by omega)])) ?_
            exact PW.next (v + 1) (by omega) ⟨rfl, rfl, rfl, rfl, trivial⟩ (fun w h => (h).erase 0) (by omega)
        ·
          have hvn : ¬ v < n.toNat := fun h => hc73 (Int.ofNat_lt.2 h)
          refine CW.exit ?_
          refine PW.then_exit ?_
          refine PW.then_exit ?_
          refine PW.block_exit ?_
          refine PW.go ?_
          refine CW.seq ?_
          refine CW.seq ?_
          refine CW.mem _ (fun w h => h.row_eq (m' := 2 * (mergeL l).length) (xs' := i64s (List.replicate (2 * (mergeL l).length) 1)) 0 rfl (rfl) (by rw [show v = n.toNat by omega, cameL_all hao])) ?_
          refine CW.region ?_
          refine RW.y (.inl rfl) rfl (Yv.assign rfl) ?_
          refine RW.nil ?_
          refine PW.go ?_
          refine CW.block ?_
          refine CW.loop (σ := Nat) (fun k => k ≤ 2 * (mergeL l).length) (fun k => [(8, .pointer (some ⟨bg, 0, none⟩)), (11, .pointer (some ⟨ba, 0, none⟩)), (12, .slice (some ⟨b69, 0, none⟩) (2 * (mergeL l).length) (2 * (mergeL l).length)), (17, .int .i64 (k : Nat))]) (fun k => [row (.slice (some ⟨b69, 0, none⟩) (2 * (mergeL l).length) (2 * (mergeL l).length)) 3 1 (2 * (mergeL l).length) (i64s (List.replicate (2 * (mergeL l).length) 1)), nowA (fun w' => IsArcs w' ba (csrD n.toNat (mergeL l) out)), nowA (fun w' => IsNet w' bg (netOf n l))]) (fun k => 2 * (mergeL l).length - k) 0 (by simp) ⟨rfl, rfl, rfl, rfl, trivial⟩ (fun w h => h) ?_
          intro k hk
          refine CW.seq ?_
          refine CW.seq ?_
          refine CW.region ?_
          refine RW.y (.inl rfl) rfl (Yv.move rfl) ?_
          refine RW.y (.inl rfl) rfl (Yv.move rfl) ?_
          refine RW.y (.inl rfl) rfl (Yv.len Try.underlying32 rfl) ?_
          refine RW.y (.inl rfl) rfl (Yv.lt rfl rfl) ?_
          refine RW.nil ?_
          refine PW.go ?_
          refine CW.condD rfl (fun hc157 => ?_) (fun hc157 => ?_)
          ·
            refine CW.skip ?_
            refine PW.go ?_
            refine CW.seq ?_
            refine CW.block ?_
            refine CW.seq ?_
            refine CW.region ?_
            refine RW.y (.inl rfl) rfl (Yv.move rfl) ?_
            refine RW.y (.inl rfl) rfl (Yv.move rfl) ?_
            refine RW.y (.inl rfl) rfl (Yv.index0 Try.underlying32 Try.sizeOf3 rfl rfl (by omega) (by omega)) ?_
            refine RW.y (.inl rfl) rfl (Yv.load1 Try.isAgg3 rfl (CF.row 0 rfl (i64s_at (k := k) (y := 1) (by omega) (by rw [List.getElem?_replicate, if_pos (by omega)])))) ?_
            refine RW.y (.inl rfl) rfl (Yv.ne rfl rfl) ?_
            refine RW.nil ?_
            refine PW.go ?_
            refine CW.condD rfl (fun hc164 => ?_) (fun hc164 => ?_)
            ·
              omega
            ·
              refine CW.skip ?_
              refine PW.block ?_
              refine PW.go ?_
              refine CW.region ?_
              refine RW.y (.inl rfl) rfl (Yv.move rfl) ?_
              refine RW.y (.inl rfl) rfl (Yv.add rfl rfl (by omega)) ?_
              refine RW.y (.inl rfl) rfl (Yv.assign rfl) ?_
              refine RW.nil ?_
              exact PW.next (k + 1) (by omega) ⟨rfl, rfl, rfl, rfl, trivial⟩ (fun w h => h) (by omega)
          ·
            refine CW.exit ?_
            refine PW.then_exit ?_
            refine PW.then_exit ?_
            refine PW.block_exit ?_
            refine PW.go ?_
            refine CW.seq ?_
            refine CW.region ?_
            refine RW.y (.inl rfl) rfl (Yv.move rfl) ?_
            refine RW.y (.inl rfl) rfl (Yv.len Try.underlying32 rfl) ?_
            refine RW.y (.inl rfl) rfl (Yv.move rfl) ?_
            refine RW.o _ (.inl rfl) rfl (Ow.call e26 rfl (C.val (fun w hs => netM bg (netOf n l) _ (hs.now 2 rfl)))) ?_
            rintro _ _ ⟨rfl, rfl⟩
            refine RW.y (.inl rfl) rfl (Yv.mul rfl rfl (by show _ ≤ 2 * (((mergeL l).length : Nat) : Int) ∧ 2 * (((mergeL l).length : Nat) : Int) ≤ _; omega)) ?_
            refine RW.y (.inl rfl) rfl (Yv.eq rfl rfl) ?_
            refine RW.y (.inl rfl) rfl (Yv.move rfl) ?_
            refine RW.isT 171 rfl (by show ((2 * (mergeL l).length : Nat) : Int) = 2 * (((mergeL l).length : Nat) : Int); omega) ?_
            refine RW.o _ (.inr ⟨_, _, 171, rfl, rfl, rfl⟩) rfl (Ow.call e7 rfl (C.val (fun w hs => awake19 _))) ?_
            rintro _ _ ⟨rfl, rfl⟩
            refine RW.y (.inl rfl) rfl (Yv.pickT rfl rfl) ?_
            refine RW.y (.inl rfl) rfl (Yv.assign rfl) ?_
            refine RW.nil ?_
            refine PW.go ?_
            refine CW.ret ?_
            refine PW.ret1 Try.results4 rfl (fun w1 hs => ?_)
            exact ⟨by first | rfl | simp, hs.mod.below⟩

theorem csrPairsLaw (n : Int) (hn : 0 ≤ n ∧ n ≤ 255) (A : Option Addr) (c : Nat) (l : List Edg) (x0 : Int) (hx : -9223372036854775808 ≤ x0 ∧ x0 ≤ 9223372036854775807) (w : World) (hr : l.length ≤ 4611686018427387904 → Rd w A 3 l.length (cellsE l)) :
    Calls Try.prog 4 #[.int .u8 n, .slice A l.length c, .int .i64 x0] w fun e w1 => e = .returned (.bool true) ∧ Gr w w1 := by
  by_cases hl : 60 < l.length
  · exact csrPairs_long n x0 hx A c l.length w hl
  · have r := hr (by omega)
    obtain ⟨k, i, h⟩ := newE_total n l
    by_cases z : k = 0
    · subst z; exact csrPairs_ok n hn A c l x0 hx w r (by omega) (newE_ok h).1
    · exact csrPairs_err n hn A c l x0 hx w r (by omega) k i z h

end Go.Proofs.Ytipoblpnkkcpgaa
