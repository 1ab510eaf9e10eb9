/- Walks, written by a program of this session (gen.py) out of a spec. -/
import Derived.Test.YtipoblpnkkcpgaaCsrP
set_option linter.unusedVariables false
set_option linter.unusedSimpArgs false
namespace Go.Proofs.Ytipoblpnkkcpgaa
open Go Go.RowKit Go.Proofs.Ytipoblpnkkcpgaa.B

def outI (l : List Edg) (v : Int) (u i : Nat) : List Int := ((List.range i).filter fun (i : Nat) => decide (0 ≤ v ∧ tailOf l (i : Int) = v ∧ headOf l (i : Int) = (u : Int))).map (fun (i : Nat) => (i : Int))
theorem outI_succ (l : List Edg) (v : Int) (u i : Nat) : outI l v u (i + 1) = outI l v u i ++ if 0 ≤ v ∧ tailOf l (i : Int) = v ∧ headOf l (i : Int) = (u : Int) then [(i : Int)] else [] := by
  unfold outI
  rw [List.range_succ, List.filter_append, List.map_append]
  congr 1
  by_cases h : 0 ≤ v ∧ tailOf l (i : Int) = v ∧ headOf l (i : Int) = (u : Int)
  · rw [if_pos h, List.filter_cons_of_pos (by simpa using h)]; rfl
  · rw [if_neg h, List.filter_cons_of_neg (by simpa using h)]; rfl
theorem outI_length (l : List Edg) (v : Int) (u i : Nat) : (outI l v u i).length ≤ i := by
  unfold outI
  rw [List.length_map]
  exact Nat.le_trans (List.length_filter_le _ _) (by simp)
theorem outOf_succ (l : List Edg) (v : Int) (u : Nat) : outOf (u + 1) l v = outOf u l v ++ outI l v u (2 * l.length) := by
  unfold outOf outI
  rw [List.range_succ, List.flatMap_append]; simp
theorem outOf_length (l : List Edg) (v : Int) : ∀ u, (outOf u l v).length ≤ u * (2 * l.length)
  | 0 => by simp [outOf]
  | u + 1 => by
    rw [outOf_succ, List.length_append]
    have := Nat.succ_mul u (2 * l.length)
    rw [Nat.succ_eq_add_one] at this
    have := outOf_length l v u
    have := outI_length l v u (2 * l.length)
    omega

set_option maxRecDepth 100000 in
theorem ref19Out (n : Int) (A : Option Addr) (c : Nat) (l : List Edg) (v : Int) (w : World) (hr : Rd w A 3 l.length (cellsE l)) (h0 : 0 ≤ n) (hn : n ≤ 4096) (hl : l.length ≤ 1048576) : Calls Try.prog 21 #[.agg #[.int .i64 n, .slice A l.length c], .int .i64 v] w fun e w1 => ∃ u, e = .returned u ∧ Gr w w1 ∧ ∃ F, (row u 3 1 ((outOf n.toNat l v).length) (i64s (outOf n.toNat l v))).holds w1 F ∧ ∀ k, F k → w.heap.size ≤ k ∧ k < w1.heap.size := by
  refine CW.enter (P := Try.prog) (F0 := none0) (L := [(0, _), (1, _)]) 43 [] Try.func21 rfl Try.ntmps21 (Nat.le_of_ble_eq_true rfl) (St.start w none0) rfl ?_
  refine CW.seq ?_
  refine CW.region ?_
  refine RW.o _ (.inl rfl) rfl (Ow.box (cs := [_, _]) rfl rfl) ?_
  rintro _ _ ⟨b2, rfl, rfl⟩
  refine RW.y (.inl rfl) rfl (Yv.assign rfl) ?_
  refine RW.nil ?_
  refine PW.go ?_
  refine CW.seq ?_
  refine CW.region ?_
  refine RW.mem _ (fun w h => h.emptyRow 3 1) ?_
  refine RW.y (.inl rfl) rfl (Yv.assign rfl) ?_
  refine RW.nil ?_
  refine PW.go ?_
  refine CW.seq ?_
  refine CW.seq ?_
  refine CW.region ?_
  refine RW.y (.inl rfl) rfl (Yv.assign rfl) ?_
  refine RW.nil ?_
  refine PW.go ?_
  refine CW.block ?_
  refine CW.loop (σ := Nat × Value) (fun s => (s.1 : Int) ≤ n) (fun s => [(1, .int .i64 v), (2, .pointer (some ⟨b2, 0, none⟩)), (5, s.2), (6, .int .i64 (s.1 : Nat))]) (fun s => [row (s.2) 3 1 (outOf s.1 l v).length (i64s (outOf s.1 l v)), blk b2 [.int .i64 n, .slice A l.length c] 37]) (fun s => n.toNat - s.1) (0, .slice none 0 0) (by simpa using h0) ⟨rfl, rfl, rfl, rfl, trivial⟩ (fun w h => h) ?_
  rintro ⟨u, vo⟩ hu
  (try dsimp only at *)
  have hob := outOf_length l v u
  refine CW.seq ?_
  refine CW.seq ?_
  refine CW.region ?_
  refine RW.y (.inl rfl) rfl (Yv.move rfl) ?_
  refine RW.y (.inl rfl) rfl (Yv.fieldAddr Try.underlying37 rfl Try.sizeOf3 rfl rfl) ?_
  refine RW.y (.inl rfl) rfl (Yv.load1 Try.isAgg3 rfl (CF.blk 1 rfl rfl)) ?_
  refine RW.y (.inl rfl) rfl (Yv.lt rfl rfl) ?_
  refine RW.nil ?_
  refine PW.go ?_
  refine CW.condD rfl (fun hc11 => ?_) (fun hc11 => ?_)
  ·
    refine CW.skip ?_
    refine PW.go ?_
    refine CW.seq ?_
    refine CW.block ?_
    refine CW.seq ?_
    refine CW.region ?_
    refine RW.mem _ (fun w h => h.row_eq (m' := (outOf u l v ++ outI l v u 0).length) (xs' := i64s (outOf u l v ++ outI l v u 0)) 0 rfl (by simp [outI]) (by simp [outI])) ?_
    refine RW.y (.inl rfl) rfl (Yv.assign rfl) ?_
    refine RW.nil ?_
    refine PW.go ?_
    refine CW.block ?_
    refine CW.loop (σ := Nat × Value) (fun s => s.1 ≤ 2 * l.length) (fun s => [(1, .int .i64 v), (2, .pointer (some ⟨b2, 0, none⟩)), (5, s.2), (6, .int .i64 (u : Nat)), (7, .int .i64 (s.1 : Nat))]) (fun s => [row (s.2) 3 1 (outOf u l v ++ outI l v u s.1).length (i64s (outOf u l v ++ outI l v u s.1)), blk b2 [.int .i64 n, .slice A l.length c] 37]) (fun s => 2 * l.length - s.1) (0, vo) (by simp) ⟨rfl, rfl, rfl, rfl, rfl, trivial⟩ (fun w h => h) ?_
    rintro ⟨i, vo⟩ hi
    (try dsimp only at *)
    refine CW.seq ?_
    refine CW.seq ?_
    refine CW.region ?_
    refine RW.y (.inl rfl) rfl (Yv.move rfl) ?_
    refine RW.y (.inl rfl) rfl (Yv.fieldAddr Try.underlying37 rfl Try.sizeOf22 rfl rfl) ?_
    refine RW.y (.inl rfl) rfl (Yv.load1 Try.isAgg22 rfl (CF.blk 1 rfl rfl)) ?_
    refine RW.y (.inl rfl) rfl (Yv.len Try.underlying22 rfl) ?_
    refine RW.y (.inl rfl) rfl (Yv.mul rfl rfl (by omega)) ?_
    refine RW.y (.inl rfl) rfl (Yv.lt rfl rfl) ?_
    refine RW.nil ?_
    refine PW.go ?_
    refine CW.condD rfl (fun hc19 => ?_) (fun hc19 => ?_)
    ·
      refine CW.skip ?_
      refine PW.go ?_
      refine CW.seq ?_
      refine CW.block ?_
      refine CW.seq ?_
      have hil : i < 2 * l.length := by omega
      have hib := outI_length l v u i
      have hmm : u * (2 * l.length) ≤ 4096 * (2 * 1048576) := Nat.mul_le_mul (by omega) (by omega)
      have hlo : (outOf u l v ++ outI l v u i).length = _ := List.length_append
      refine CW.region ?_
      refine RW.y (.inl rfl) rfl (Yv.move rfl) ?_
      refine RW.y (.inl rfl) rfl (Yv.ge rfl rfl) ?_
      refine RW.y (.inl rfl) rfl (Yv.move rfl) ?_
      refine RW.splitD 24 rfl (fun hc24 => ?_) (fun hc24 => ?_)
      ·
        refine RW.y (.inr ⟨_, _, 24, rfl, rfl, rfl⟩) rfl (Yv.loadK (vs := [_, _]) Try.isAgg37 Try.sizeOf37 rfl (CFs.whole 1 rfl)) ?_
        refine RW.y (.inr ⟨_, _, 24, rfl, rfl, rfl⟩) rfl (Yv.move rfl) ?_
        refine RW.o _ (.inr ⟨_, _, 24, rfl, rfl, rfl⟩) rfl (Ow.call e17 rfl (C.val (fun w hs => ref19Tail n A c l (i : Int) (by omega) _ (hr.below hs.mod.below)))) ?_
        rintro _ _ ⟨rfl, rfl⟩
        refine RW.y (.inr ⟨_, _, 24, rfl, rfl, rfl⟩) rfl (Yv.move rfl) ?_
        refine RW.y (.inr ⟨_, _, 24, rfl, rfl, rfl⟩) rfl (Yv.eq rfl rfl) ?_
        refine RW.y (.inl rfl) rfl (Yv.pickT rfl rfl) ?_
        refine RW.y (.inl rfl) rfl (Yv.move rfl) ?_
        refine RW.splitD 31 rfl (fun hc31 => ?_) (fun hc31 => ?_)
        ·
          refine RW.y (.inr ⟨_, _, 31, rfl, rfl, rfl⟩) rfl (Yv.loadK (vs := [_, _]) Try.isAgg37 Try.sizeOf37 rfl (CFs.whole 1 rfl)) ?_
          refine RW.y (.inr ⟨_, _, 31, rfl, rfl, rfl⟩) rfl (Yv.move rfl) ?_
          refine RW.o _ (.inr ⟨_, _, 31, rfl, rfl, rfl⟩) rfl (Ow.call e18 rfl (C.val (fun w hs => ref19Head n A c l (i : Int) (by omega) _ (hr.below hs.mod.below)))) ?_
          rintro _ _ ⟨rfl, rfl⟩
          refine RW.y (.inr ⟨_, _, 31, rfl, rfl, rfl⟩) rfl (Yv.move rfl) ?_
          refine RW.y (.inr ⟨_, _, 31, rfl, rfl, rfl⟩) rfl (Yv.eq rfl rfl) ?_
          refine RW.y (.inl rfl) rfl (Yv.pickT rfl rfl) ?_
          refine RW.nil ?_
          refine PW.go ?_
          refine CW.condD rfl (fun hc37 => ?_) (fun hc37 => ?_)
          ·
            refine CW.region ?_
            refine RW.y (.inl rfl) rfl (Yv.move rfl) ?_
            refine RW.y (.inl rfl) rfl (Yv.move rfl) ?_
            refine RW.o _ (.inl rfl) rfl (Ow.lit (len := 1) (vs := [_]) (cs := [_]) Try.underlying32 info3 rfl rfl rfl rfl rfl rfl rfl) ?_
            rintro _ _ ⟨b40, rfl, rfl⟩
            refine RW.o _ (.inl rfl) rfl (Ow.append 1 0 Try.underlying32 info3 rfl rfl rfl rfl rfl rfl rfl rfl (by omega) (by omega)) ?_
            rintro v41 _ rfl
            refine RW.y (.inl rfl) rfl (Yv.assign rfl) ?_
            refine RW.nil ?_
            refine PW.block ?_
            refine PW.go ?_
            refine CW.region ?_
            refine RW.y (.inl rfl) rfl (Yv.move rfl) ?_
            refine RW.y (.inl rfl) rfl (Yv.add rfl rfl (by omega)) ?_
            refine RW.y (.inl rfl) rfl (Yv.assign rfl) ?_
            refine RW.nil ?_
            have hst := outI_succ l v u i
            rw [if_pos (show 0 ≤ v ∧ tailOf l (i : Int) = v ∧ headOf l (i : Int) = (u : Int) from ⟨by omega, by omega, by omega⟩)] at hst
            refine PW.mem _ (fun w h => h.row_eq (m' := (outOf u l v ++ outI l v u (i + 1)).length) (xs' := i64s (outOf u l v ++ outI l v u (i + 1))) 1 rfl (by rw [hst]; simp; omega) (by rw [hst]; simp [i64s])) ?_
            exact PW.next (i + 1, v41) (by show i + 1 ≤ 2 * l.length; omega) ⟨rfl, rfl, rfl, rfl, rfl, trivial⟩ (fun w h => (h).erase 0) (by show 2 * l.length - (i + 1) < 2 * l.length - i; omega)
          ·
            refine CW.skip ?_
            refine PW.block ?_
            refine PW.go ?_
            refine CW.region ?_
            refine RW.y (.inl rfl) rfl (Yv.move rfl) ?_
            refine RW.y (.inl rfl) rfl (Yv.add rfl rfl (by omega)) ?_
            refine RW.y (.inl rfl) rfl (Yv.assign rfl) ?_
            refine RW.nil ?_
            have hst := outI_succ l v u i
            rw [if_neg (show ¬ (0 ≤ v ∧ tailOf l (i : Int) = v ∧ headOf l (i : Int) = (u : Int)) by omega), List.append_nil] at hst
            refine PW.mem _ (fun w h => h.row_eq (m' := (outOf u l v ++ outI l v u (i + 1)).length) (xs' := i64s (outOf u l v ++ outI l v u (i + 1))) 0 rfl (by rw [hst]) (by rw [hst])) ?_
            exact PW.next (i + 1, vo) (by show i + 1 ≤ 2 * l.length; omega) ⟨rfl, rfl, rfl, rfl, rfl, trivial⟩ (fun w h => h) (by show 2 * l.length - (i + 1) < 2 * l.length - i; omega)
        ·
          refine RW.no ⟨_, _, 31, _, rfl, rfl, rfl, fun h => by simp [undef] at h⟩ rfl ?_
          refine RW.no ⟨_, _, 31, _, rfl, rfl, rfl, fun h => by simp [undef] at h⟩ rfl ?_
          refine RW.no ⟨_, _, 31, _, rfl, rfl, rfl, fun h => by simp [undef] at h⟩ rfl ?_
          refine RW.no ⟨_, _, 31, _, rfl, rfl, rfl, fun h => by simp [undef] at h⟩ rfl ?_
          refine RW.no ⟨_, _, 31, _, rfl, rfl, rfl, fun h => by simp [undef] at h⟩ rfl ?_
          refine RW.y (.inl rfl) rfl (Yv.pickF rfl rfl) ?_
          refine RW.nil ?_
          refine PW.go ?_
          refine CW.condF rfl ?_
          refine CW.skip ?_
          refine PW.block ?_
          refine PW.go ?_
          refine CW.region ?_
          refine RW.y (.inl rfl) rfl (Yv.move rfl) ?_
          refine RW.y (.inl rfl) rfl (Yv.add rfl rfl (by omega)) ?_
          refine RW.y (.inl rfl) rfl (Yv.assign rfl) ?_
          refine RW.nil ?_
          have hst := outI_succ l v u i
          rw [if_neg (show ¬ (0 ≤ v ∧ tailOf l (i : Int) = v ∧ headOf l (i : Int) = (u : Int)) by omega), List.append_nil] at hst
          refine PW.mem _ (fun w h => h.row_eq (m' := (outOf u l v ++ outI l v u (i + 1)).length) (xs' := i64s (outOf u l v ++ outI l v u (i + 1))) 0 rfl (by rw [hst]) (by rw [hst])) ?_
          exact PW.next (i + 1, vo) (by show i + 1 ≤ 2 * l.length; omega) ⟨rfl, rfl, rfl, rfl, rfl, trivial⟩ (fun w h => h) (by show 2 * l.length - (i + 1) < 2 * l.length - i; omega)
      ·
        refine RW.no ⟨_, _, 24, _, rfl, rfl, rfl, fun h => by simp [undef] at h⟩ rfl ?_
        refine RW.no ⟨_, _, 24, _, rfl, rfl, rfl, fun h => by simp [undef] at h⟩ rfl ?_
        refine RW.no ⟨_, _, 24, _, rfl, rfl, rfl, fun h => by simp [undef] at h⟩ rfl ?_
        refine RW.no ⟨_, _, 24, _, rfl, rfl, rfl, fun h => by simp [undef] at h⟩ rfl ?_
        refine RW.no ⟨_, _, 24, _, rfl, rfl, rfl, fun h => by simp [undef] at h⟩ rfl ?_
        refine RW.y (.inl rfl) rfl (Yv.pickF rfl rfl) ?_
        refine RW.y (.inl rfl) rfl (Yv.move rfl) ?_
        refine RW.no ⟨_, _, 31, _, rfl, rfl, rfl, fun h => by simp [undef] at h⟩ rfl ?_
        refine RW.no ⟨_, _, 31, _, rfl, rfl, rfl, fun h => by simp [undef] at h⟩ rfl ?_
        refine RW.no ⟨_, _, 31, _, rfl, rfl, rfl, fun h => by simp [undef] at h⟩ rfl ?_
        refine RW.no ⟨_, _, 31, _, rfl, rfl, rfl, fun h => by simp [undef] at h⟩ rfl ?_
        refine RW.no ⟨_, _, 31, _, rfl, rfl, rfl, fun h => by simp [undef] at h⟩ rfl ?_
        refine RW.y (.inl rfl) rfl (Yv.pickF rfl rfl) ?_
        refine RW.nil ?_
        refine PW.go ?_
        refine CW.condF rfl ?_
        refine CW.skip ?_
        refine PW.block ?_
        refine PW.go ?_
        refine CW.region ?_
        refine RW.y (.inl rfl) rfl (Yv.move rfl) ?_
        refine RW.y (.inl rfl) rfl (Yv.add rfl rfl (by omega)) ?_
        refine RW.y (.inl rfl) rfl (Yv.assign rfl) ?_
        refine RW.nil ?_
        have hst := outI_succ l v u i
        rw [if_neg (show ¬ (0 ≤ v ∧ tailOf l (i : Int) = v ∧ headOf l (i : Int) = (u : Int)) by omega), List.append_nil] at hst
        refine PW.mem _ (fun w h => h.row_eq (m' := (outOf u l v ++ outI l v u (i + 1)).length) (xs' := i64s (outOf u l v ++ outI l v u (i + 1))) 0 rfl (by rw [hst]) (by rw [hst])) ?_
        exact PW.next (i + 1, vo) (by show i + 1 ≤ 2 * l.length; omega) ⟨rfl, rfl, rfl, rfl, rfl, trivial⟩ (fun w h => h) (by show 2 * l.length - (i + 1) < 2 * l.length - i; omega)
    ·
      refine CW.exit ?_
      refine PW.then_exit ?_
      refine PW.then_exit ?_
      refine PW.block_exit ?_
      refine PW.block ?_
      refine PW.go ?_
      refine CW.region ?_
      refine RW.y (.inl rfl) rfl (Yv.move rfl) ?_
      refine RW.y (.inl rfl) rfl (Yv.add rfl rfl (by omega)) ?_
      refine RW.y (.inl rfl) rfl (Yv.assign rfl) ?_
      refine RW.nil ?_
      refine PW.mem _ (fun w h => h.row_eq (m' := (outOf (u + 1) l v).length) (xs' := i64s (outOf (u + 1) l v)) 0 rfl (by rw [outOf_succ, show i = 2 * l.length by omega]) (by rw [outOf_succ, show i = 2 * l.length by omega])) ?_
      exact PW.next (u + 1, vo) (by show ((u + 1 : Nat) : Int) ≤ n; omega) ⟨rfl, rfl, rfl, rfl, trivial⟩ (fun w h => h) (by show n.toNat - (u + 1) < n.toNat - u; omega)
  ·
    refine CW.exit ?_
    refine PW.then_exit ?_
    refine PW.then_exit ?_
    refine PW.block_exit ?_
    refine PW.go ?_
    refine CW.seq ?_
    refine CW.region ?_
    refine RW.y (.inl rfl) rfl (Yv.move rfl) ?_
    refine RW.y (.inl rfl) rfl (Yv.assign rfl) ?_
    refine RW.nil ?_
    refine PW.go ?_
    refine CW.ret ?_
    refine PW.ret1 Try.results21 rfl (fun w1 hs => ?_)
    have hs' := hs.row_eq (m' := (outOf n.toNat l v).length) (xs' := i64s (outOf n.toNat l v)) 0 rfl (by rw [show u = n.toNat by omega]) (by rw [show u = n.toNat by omega])
    obtain ⟨F, hF, hk⟩ := hs'.out 0 rfl
    exact ⟨_, rfl, hs.mod.below, F, hF, hk⟩

end Go.Proofs.Ytipoblpnkkcpgaa
