/- Walks, written by a program of this session (gen.py) out of a spec. -/
import Derived.Test.YtipoblpnkkcpgaaCon1
set_option linter.unusedVariables false
set_option linter.unusedSimpArgs false
namespace Go.Proofs.Ytipoblpnkkcpgaa
open Go Go.RowKit Go.Proofs.Ytipoblpnkkcpgaa.B

set_option maxRecDepth 100000 in
theorem ref25Check (n u v : Int) (w : World) : Calls Try.prog 34 #[.int .i64 n, .int .i64 u, .int .i64 v] w fun e w1 => e = .returned (.int .i64 (pairErr n u v)) ∧ Gr w w1 := by
  refine CW.enter (P := Try.prog) (F0 := none0) (L := [(0, _), (1, _), (2, _)]) 26 [] Try.func34 rfl Try.ntmps34 (Nat.le_of_ble_eq_true rfl) (St.start w none0) rfl ?_
  refine CW.seq ?_
  refine CW.region ?_
  refine RW.y (.inl rfl) rfl (Yv.assign rfl) ?_
  refine RW.nil ?_
  refine PW.go ?_
  refine CW.seq ?_
  refine CW.seq ?_
  refine CW.region ?_
  refine RW.y (.inl rfl) rfl (Yv.move rfl) ?_
  refine RW.y (.inl rfl) rfl (Yv.lt rfl rfl) ?_
  refine RW.y (.inl rfl) rfl (Yv.move rfl) ?_
  refine RW.splitD 9 rfl (fun hc9 => ?_) (fun hc9 => ?_)
  ·
    refine RW.no ⟨_, _, 9, _, rfl, rfl, rfl, fun h => by simp [undef] at h⟩ rfl ?_
    refine RW.no ⟨_, _, 9, _, rfl, rfl, rfl, fun h => by simp [undef] at h⟩ rfl ?_
    refine RW.no ⟨_, _, 9, _, rfl, rfl, rfl, fun h => by simp [undef] at h⟩ rfl ?_
    refine RW.y (.inl rfl) rfl (Yv.pickT rfl rfl) ?_
    refine RW.y (.inl rfl) rfl (Yv.move rfl) ?_
    refine RW.no ⟨_, _, 14, _, rfl, rfl, rfl, fun h => by simp [undef] at h⟩ rfl ?_
    refine RW.no ⟨_, _, 14, _, rfl, rfl, rfl, fun h => by simp [undef] at h⟩ rfl ?_
    refine RW.y (.inl rfl) rfl (Yv.pickT rfl rfl) ?_
    refine RW.y (.inl rfl) rfl (Yv.move rfl) ?_
    refine RW.no ⟨_, _, 18, _, rfl, rfl, rfl, fun h => by simp [undef] at h⟩ rfl ?_
    refine RW.no ⟨_, _, 18, _, rfl, rfl, rfl, fun h => by simp [undef] at h⟩ rfl ?_
    refine RW.no ⟨_, _, 18, _, rfl, rfl, rfl, fun h => by simp [undef] at h⟩ rfl ?_
    refine RW.y (.inl rfl) rfl (Yv.pickT rfl rfl) ?_
    refine RW.nil ?_
    refine PW.go ?_
    refine CW.condT rfl ?_
    refine CW.seq ?_
    refine CW.region ?_
    refine RW.y (.inl rfl) rfl (Yv.assign rfl) ?_
    refine RW.nil ?_
    refine PW.go ?_
    refine CW.ret ?_
    refine PW.then_ret ?_
    refine PW.ret1 Try.results34 rfl (fun w1 hs => ?_)
    refine ⟨?_, hs.mod.below⟩
    unfold pairErr
    first
    | (rw [if_pos (by omega)]; done)
    | (rw [if_neg (by omega), if_pos (by omega)]; done)
    | (rw [if_neg (by omega), if_neg (by omega)]; done)
  ·
    refine RW.y (.inr ⟨_, _, 9, rfl, rfl, rfl⟩) rfl (Yv.move rfl) ?_
    refine RW.y (.inr ⟨_, _, 9, rfl, rfl, rfl⟩) rfl (Yv.move rfl) ?_
    refine RW.y (.inr ⟨_, _, 9, rfl, rfl, rfl⟩) rfl (Yv.ge rfl rfl) ?_
    refine RW.y (.inl rfl) rfl (Yv.pickF rfl rfl) ?_
    refine RW.y (.inl rfl) rfl (Yv.move rfl) ?_
    refine RW.splitD 14 rfl (fun hc14 => ?_) (fun hc14 => ?_)
    ·
      refine RW.no ⟨_, _, 14, _, rfl, rfl, rfl, fun h => by simp [undef] at h⟩ rfl ?_
      refine RW.no ⟨_, _, 14, _, rfl, rfl, rfl, fun h => by simp [undef] at h⟩ rfl ?_
      refine RW.y (.inl rfl) rfl (Yv.pickT rfl rfl) ?_
      refine RW.y (.inl rfl) rfl (Yv.move rfl) ?_
      refine RW.no ⟨_, _, 18, _, rfl, rfl, rfl, fun h => by simp [undef] at h⟩ rfl ?_
      refine RW.no ⟨_, _, 18, _, rfl, rfl, rfl, fun h => by simp [undef] at h⟩ rfl ?_
      refine RW.no ⟨_, _, 18, _, rfl, rfl, rfl, fun h => by simp [undef] at h⟩ rfl ?_
      refine RW.y (.inl rfl) rfl (Yv.pickT rfl rfl) ?_
      refine RW.nil ?_
      refine PW.go ?_
      refine CW.condT rfl ?_
      refine CW.seq ?_
      refine CW.region ?_
      refine RW.y (.inl rfl) rfl (Yv.assign rfl) ?_
      refine RW.nil ?_
      refine PW.go ?_
      refine CW.ret ?_
      refine PW.then_ret ?_
      refine PW.ret1 Try.results34 rfl (fun w1 hs => ?_)
      refine ⟨?_, hs.mod.below⟩
      unfold pairErr
      first
      | (rw [if_pos (by omega)]; done)
      | (rw [if_neg (by omega), if_pos (by omega)]; done)
      | (rw [if_neg (by omega), if_neg (by omega)]; done)
    ·
      refine RW.y (.inr ⟨_, _, 14, rfl, rfl, rfl⟩) rfl (Yv.move rfl) ?_
      refine RW.y (.inr ⟨_, _, 14, rfl, rfl, rfl⟩) rfl (Yv.lt rfl rfl) ?_
      refine RW.y (.inl rfl) rfl (Yv.pickF rfl rfl) ?_
      refine RW.y (.inl rfl) rfl (Yv.move rfl) ?_
      refine RW.splitD 18 rfl (fun hc18 => ?_) (fun hc18 => ?_)
      ·
        refine RW.no ⟨_, _, 18, _, rfl, rfl, rfl, fun h => by simp [undef] at h⟩ rfl ?_
        refine RW.no ⟨_, _, 18, _, rfl, rfl, rfl, fun h => by simp [undef] at h⟩ rfl ?_
        refine RW.no ⟨_, _, 18, _, rfl, rfl, rfl, fun h => by simp [undef] at h⟩ rfl ?_
        refine RW.y (.inl rfl) rfl (Yv.pickT rfl rfl) ?_
        refine RW.nil ?_
        refine PW.go ?_
        refine CW.condT rfl ?_
        refine CW.seq ?_
        refine CW.region ?_
        refine RW.y (.inl rfl) rfl (Yv.assign rfl) ?_
        refine RW.nil ?_
        refine PW.go ?_
        refine CW.ret ?_
        refine PW.then_ret ?_
        refine PW.ret1 Try.results34 rfl (fun w1 hs => ?_)
        refine ⟨?_, hs.mod.below⟩
        unfold pairErr
        first
        | (rw [if_pos (by omega)]; done)
        | (rw [if_neg (by omega), if_pos (by omega)]; done)
        | (rw [if_neg (by omega), if_neg (by omega)]; done)
      ·
        refine RW.y (.inr ⟨_, _, 18, rfl, rfl, rfl⟩) rfl (Yv.move rfl) ?_
        refine RW.y (.inr ⟨_, _, 18, rfl, rfl, rfl⟩) rfl (Yv.move rfl) ?_
        refine RW.y (.inr ⟨_, _, 18, rfl, rfl, rfl⟩) rfl (Yv.ge rfl rfl) ?_
        refine RW.y (.inl rfl) rfl (Yv.pickF rfl rfl) ?_
        refine RW.nil ?_
        refine PW.go ?_
        refine CW.condD rfl (fun hc22 => ?_) (fun hc22 => ?_)
        ·
          refine CW.seq ?_
          refine CW.region ?_
          refine RW.y (.inl rfl) rfl (Yv.assign rfl) ?_
          refine RW.nil ?_
          refine PW.go ?_
          refine CW.ret ?_
          refine PW.then_ret ?_
          refine PW.ret1 Try.results34 rfl (fun w1 hs => ?_)
          refine ⟨?_, hs.mod.below⟩
          unfold pairErr
          first
          | (rw [if_pos (by omega)]; done)
          | (rw [if_neg (by omega), if_pos (by omega)]; done)
          | (rw [if_neg (by omega), if_neg (by omega)]; done)
        ·
          refine CW.skip ?_
          refine PW.go ?_
          refine CW.seq ?_
          refine CW.seq ?_
          refine CW.region ?_
          refine RW.y (.inl rfl) rfl (Yv.move rfl) ?_
          refine RW.y (.inl rfl) rfl (Yv.move rfl) ?_
          refine RW.y (.inl rfl) rfl (Yv.eq rfl rfl) ?_
          refine RW.nil ?_
          refine PW.go ?_
          refine CW.condD rfl (fun hc25 => ?_) (fun hc25 => ?_)
          ·
            refine CW.seq ?_
            refine CW.region ?_
            refine RW.y (.inl rfl) rfl (Yv.assign rfl) ?_
            refine RW.nil ?_
            refine PW.go ?_
            refine CW.ret ?_
            refine PW.then_ret ?_
            refine PW.ret1 Try.results34 rfl (fun w1 hs => ?_)
            refine ⟨?_, hs.mod.below⟩
            unfold pairErr
            first
            | (rw [if_pos (by omega)]; done)
            | (rw [if_neg (by omega), if_pos (by omega)]; done)
            | (rw [if_neg (by omega), if_neg (by omega)]; done)
          ·
            refine CW.skip ?_
            refine PW.go ?_
            refine CW.seq ?_
            refine CW.region ?_
            refine RW.y (.inl rfl) rfl (Yv.assign rfl) ?_
            refine RW.nil ?_
            refine PW.go ?_
            refine CW.ret ?_
            refine PW.ret1 Try.results34 rfl (fun w1 hs => ?_)
            refine ⟨?_, hs.mod.below⟩
            unfold pairErr
            first
            | (rw [if_pos (by omega)]; done)
            | (rw [if_neg (by omega), if_pos (by omega)]; done)
            | (rw [if_neg (by omega), if_neg (by omega)]; done)

set_option maxRecDepth 100000 in
theorem ref21In (x : Int) (w : World) (A : Option Addr) (c : Nat) (l : List Int) (hr : Rd w A 1 l.length (i64s l)) : Calls Try.prog 83 #[.slice A l.length c, .int .i64 x] w fun e w1 => e = .returned (.bool (decide (x ∈ l))) ∧ Gr w w1 := by
  have hlen := hr.2.1
  refine CW.enter (P := Try.prog) (F0 := none0) (L := [(0, _), (1, _)]) 18 [] Try.func83 rfl Try.ntmps83 (Nat.le_of_ble_eq_true rfl) (St.start w none0) rfl ?_
  refine CW.seq ?_
  refine CW.region ?_
  refine RW.y (.inl rfl) rfl (Yv.assign rfl) ?_
  refine RW.nil ?_
  refine PW.go ?_
  refine CW.seq ?_
  refine CW.seq ?_
  refine CW.region ?_
  refine RW.y (.inl rfl) rfl (Yv.assign rfl) ?_
  refine RW.nil ?_
  refine PW.go ?_
  refine CW.block ?_
  refine CW.loop (σ := Nat) (fun i => i ≤ l.length ∧ ¬ x ∈ l.take i) (fun i => [(0, .slice A l.length c), (1, .int .i64 x), (5, .int .i64 (i : Nat))]) (fun i => []) (fun i => l.length - i) 0 (⟨by omega, by simp⟩) ⟨rfl, rfl, rfl, trivial⟩ (fun w h => h) ?_
  intro i sg
  obtain ⟨hi, hni⟩ := sg
  refine CW.seq ?_
  refine CW.seq ?_
  refine CW.region ?_
  refine RW.y (.inl rfl) rfl (Yv.move rfl) ?_
  refine RW.y (.inl rfl) rfl (Yv.move rfl) ?_
  refine RW.y (.inl rfl) rfl (Yv.len Try.underlying32 rfl) ?_
  refine RW.y (.inl rfl) rfl (Yv.lt rfl rfl) ?_
  refine RW.nil ?_
  refine PW.go ?_
  refine CW.condD rfl (fun hc9 => ?_) (fun hc9 => ?_)
  ·
    refine CW.skip ?_
    refine PW.go ?_
    refine CW.seq ?_
    refine CW.block ?_
    refine CW.seq ?_
    obtain ⟨b, o, rfl, hb, hc⟩ := hr.2.2 (by omega)
    obtain ⟨y, hy⟩ : ∃ x, l[i]? = some x := ⟨_, List.getElem?_eq_getElem (by omega)⟩
    refine CW.region ?_
    refine RW.y (.inl rfl) rfl (Yv.move rfl) ?_
    refine RW.y (.inl rfl) rfl (Yv.move rfl) ?_
    refine RW.y (.inl rfl) rfl (Yv.index1 Try.underlying32 Try.sizeOf3 rfl rfl (by omega) (by omega)) ?_
    refine RW.y (.inl rfl) rfl (Yv.load1 Try.isAgg3 rfl (CF.old (hc _ _ (i64s_get _ _ _ hy)) (not_none0 _))) ?_
    refine RW.y (.inl rfl) rfl (Yv.move rfl) ?_
    refine RW.y (.inl rfl) rfl (Yv.eq rfl rfl) ?_
    refine RW.nil ?_
    refine PW.go ?_
    refine CW.condD rfl (fun hc17 => ?_) (fun hc17 => ?_)
    ·
      refine CW.seq ?_
      refine CW.region ?_
      refine RW.y (.inl rfl) rfl (Yv.assign rfl) ?_
      refine RW.nil ?_
      refine PW.go ?_
      refine CW.ret ?_
      refine PW.block_ret ?_
      refine PW.then_ret ?_
      refine PW.then_ret ?_
      refine PW.block_ret ?_
      refine PW.then_ret ?_
      refine PW.ret1 Try.results83 rfl (fun w1 hs => ?_)
      exact ⟨by rw [decide_eq_true (hc17 ▸ List.mem_of_getElem? hy)], hs.mod.below⟩
    ·
      refine CW.skip ?_
      refine PW.block ?_
      refine PW.go ?_
      refine CW.region ?_
      refine RW.y (.inl rfl) rfl (Yv.move rfl) ?_
      refine RW.y (.inl rfl) rfl (Yv.add rfl rfl (by omega)) ?_
      refine RW.y (.inl rfl) rfl (Yv.assign rfl) ?_
      refine RW.nil ?_
      exact PW.next (i + 1) (⟨by omega, by rw [take_snocN hy]; simp only [List.mem_append, List.mem_singleton, not_or]; exact ⟨hni, fun h => hc17 h.symm⟩⟩) ⟨rfl, rfl, rfl, trivial⟩ (fun w h => h) (by omega)
  ·
    refine CW.exit ?_
    refine PW.then_exit ?_
    refine PW.then_exit ?_
    refine PW.block_exit ?_
    refine PW.go ?_
    refine CW.seq ?_
    refine CW.region ?_
    refine RW.y (.inl rfl) rfl (Yv.assign rfl) ?_
    refine RW.nil ?_
    refine PW.go ?_
    refine CW.ret ?_
    refine PW.ret1 Try.results83 rfl (fun w1 hs => ?_)
    have hie : i = l.length := by omega
    subst hie
    rw [List.take_length] at hni
    exact ⟨by rw [decide_eq_false hni], hs.mod.below⟩

set_option maxRecDepth 100000 in
theorem ref40Naming (k : Int) (hk : -9223372036854775808 ≤ k ∧ k ≤ 9223372036854775807) (w : World) (A : Option Addr) (c : Nat) (name : List Int) (hr : Rd w A 1 name.length (i64s name)) : Calls Try.prog 60 #[.int .i64 k, .slice A name.length c] w fun e w1 => e = .returned (.bool (namB k name)) ∧ Gr w w1 := by
  have hlen := hr.2.1
  refine CW.enter (P := Try.prog) (F0 := none0) (L := [(0, _), (1, _)]) 46 [] Try.func60 rfl Try.ntmps60 (Nat.le_of_ble_eq_true rfl) (St.start w none0) rfl ?_
  refine CW.seq ?_
  refine CW.region ?_
  refine RW.y (.inl rfl) rfl (Yv.assign rfl) ?_
  refine RW.nil ?_
  refine PW.go ?_
  refine CW.seq ?_
  refine CW.seq ?_
  refine CW.region ?_
  refine RW.y (.inl rfl) rfl (Yv.move rfl) ?_
  refine RW.y (.inl rfl) rfl (Yv.lt rfl rfl) ?_
  refine RW.y (.inl rfl) rfl (Yv.move rfl) ?_
  refine RW.splitD 9 rfl (fun hc9 => ?_) (fun hc9 => ?_)
  ·
    refine RW.no ⟨_, _, 9, _, rfl, rfl, rfl, fun h => by simp [undef] at h⟩ rfl ?_
    refine RW.no ⟨_, _, 9, _, rfl, rfl, rfl, fun h => by simp [undef] at h⟩ rfl ?_
    refine RW.y (.inl rfl) rfl (Yv.pickT rfl rfl) ?_
    refine RW.y (.inl rfl) rfl (Yv.move rfl) ?_
    refine RW.no ⟨_, _, 13, _, rfl, rfl, rfl, fun h => by simp [undef] at h⟩ rfl ?_
    refine RW.no ⟨_, _, 13, _, rfl, rfl, rfl, fun h => by simp [undef] at h⟩ rfl ?_
    refine RW.no ⟨_, _, 13, _, rfl, rfl, rfl, fun h => by simp [undef] at h⟩ rfl ?_
    refine RW.y (.inl rfl) rfl (Yv.pickT rfl rfl) ?_
    refine RW.nil ?_
    refine PW.go ?_
    refine CW.condT rfl ?_
    refine CW.seq ?_
    refine CW.region ?_
    refine RW.y (.inl rfl) rfl (Yv.assign rfl) ?_
    refine RW.nil ?_
    refine PW.go ?_
    refine CW.ret ?_
    refine PW.then_ret ?_
    refine PW.ret1 Try.results60 rfl (fun w1 hs => ?_)
    exact ⟨by rw [namB_false1 (by omega)], hs.mod.below⟩
  ·
    refine RW.y (.inr ⟨_, _, 9, rfl, rfl, rfl⟩) rfl (Yv.move rfl) ?_
    refine RW.y (.inr ⟨_, _, 9, rfl, rfl, rfl⟩) rfl (Yv.gt rfl rfl) ?_
    refine RW.y (.inl rfl) rfl (Yv.pickF rfl rfl) ?_
    refine RW.y (.inl rfl) rfl (Yv.move rfl) ?_
    refine RW.splitD 13 rfl (fun hc13 => ?_) (fun hc13 => ?_)
    ·
      refine RW.no ⟨_, _, 13, _, rfl, rfl, rfl, fun h => by simp [undef] at h⟩ rfl ?_
      refine RW.no ⟨_, _, 13, _, rfl, rfl, rfl, fun h => by simp [undef] at h⟩ rfl ?_
      refine RW.no ⟨_, _, 13, _, rfl, rfl, rfl, fun h => by simp [undef] at h⟩ rfl ?_
      refine RW.y (.inl rfl) rfl (Yv.pickT rfl rfl) ?_
      refine RW.nil ?_
      refine PW.go ?_
      refine CW.condT rfl ?_
      refine CW.seq ?_
      refine CW.region ?_
      refine RW.y (.inl rfl) rfl (Yv.assign rfl) ?_
      refine RW.nil ?_
      refine PW.go ?_
      refine CW.ret ?_
      refine PW.then_ret ?_
      refine PW.ret1 Try.results60 rfl (fun w1 hs => ?_)
      exact ⟨by rw [namB_false1 (by omega)], hs.mod.below⟩
    ·
      refine RW.y (.inr ⟨_, _, 13, rfl, rfl, rfl⟩) rfl (Yv.move rfl) ?_
      refine RW.y (.inr ⟨_, _, 13, rfl, rfl, rfl⟩) rfl (Yv.len Try.underlying32 rfl) ?_
      refine RW.y (.inr ⟨_, _, 13, rfl, rfl, rfl⟩) rfl (Yv.gt rfl rfl) ?_
      refine RW.y (.inl rfl) rfl (Yv.pickF rfl rfl) ?_
      refine RW.nil ?_
      refine PW.go ?_
      refine CW.condD rfl (fun hc17 => ?_) (fun hc17 => ?_)
      ·
        refine CW.seq ?_
        refine CW.region ?_
        refine RW.y (.inl rfl) rfl (Yv.assign rfl) ?_
        refine RW.nil ?_
        refine PW.go ?_
        refine CW.ret ?_
        refine PW.then_ret ?_
        refine PW.ret1 Try.results60 rfl (fun w1 hs => ?_)
        exact ⟨by rw [namB_false1 (by omega)], hs.mod.below⟩
      ·
        refine CW.skip ?_
        refine PW.go ?_
        refine CW.seq ?_
        refine CW.seq ?_
        refine CW.region ?_
        refine RW.y (.inl rfl) rfl (Yv.assign rfl) ?_
        refine RW.nil ?_
        refine PW.go ?_
        refine CW.block ?_
        refine CW.loop (σ := Nat) (fun i => i ≤ name.length ∧ ∀ v ∈ name.take i, 0 ≤ v ∧ v < k) (fun i => [(0, .int .i64 k), (1, .slice A name.length c), (5, .int .i64 (i : Nat))]) (fun i => []) (fun i => name.length - i) 0 (⟨by omega, by simp⟩) ⟨rfl, rfl, rfl, trivial⟩ (fun w h => h) ?_
        intro i sg
        obtain ⟨hi, hall⟩ := sg
        refine CW.seq ?_
        refine CW.seq ?_
        refine CW.region ?_
        refine RW.y (.inl rfl) rfl (Yv.move rfl) ?_
        refine RW.y (.inl rfl) rfl (Yv.move rfl) ?_
        refine RW.y (.inl rfl) rfl (Yv.len Try.underlying32 rfl) ?_
        refine RW.y (.inl rfl) rfl (Yv.lt rfl rfl) ?_
        refine RW.nil ?_
        refine PW.go ?_
        refine CW.condD rfl (fun hc21 => ?_) (fun hc21 => ?_)
        ·
          refine CW.skip ?_
          refine PW.go ?_
          refine CW.seq ?_
          refine CW.block ?_
          refine CW.seq ?_
          obtain ⟨b, o, rfl, hb, hc⟩ := hr.2.2 (by omega)
          obtain ⟨y, hy⟩ : ∃ x, name[i]? = some x := ⟨_, List.getElem?_eq_getElem (by omega)⟩
          refine CW.region ?_
          refine RW.y (.inl rfl) rfl (Yv.move rfl) ?_
          refine RW.y (.inl rfl) rfl (Yv.move rfl) ?_
          refine RW.y (.inl rfl) rfl (Yv.index1 Try.underlying32 Try.sizeOf3 rfl rfl (by omega) (by omega)) ?_
          refine RW.y (.inl rfl) rfl (Yv.load1 Try.isAgg3 rfl (CF.old (hc _ _ (i64s_get _ _ _ hy)) (not_none0 _))) ?_
          refine RW.y (.inl rfl) rfl (Yv.lt rfl rfl) ?_
          refine RW.y (.inl rfl) rfl (Yv.move rfl) ?_
          refine RW.splitD 29 rfl (fun hc29 => ?_) (fun hc29 => ?_)
          ·
            refine RW.no ⟨_, _, 29, _, rfl, rfl, rfl, fun h => by simp [undef] at h⟩ rfl ?_
            refine RW.no ⟨_, _, 29, _, rfl, rfl, rfl, fun h => by simp [undef] at h⟩ rfl ?_
            refine RW.no ⟨_, _, 29, _, rfl, rfl, rfl, fun h => by simp [undef] at h⟩ rfl ?_
            refine RW.no ⟨_, _, 29, _, rfl, rfl, rfl, fun h => by simp [undef] at h⟩ rfl ?_
            refine RW.no ⟨_, _, 29, _, rfl, rfl, rfl, fun h => by simp [undef] at h⟩ rfl ?_
            refine RW.no ⟨_, _, 29, _, rfl, rfl, rfl, fun h => by simp [undef] at h⟩ rfl ?_
            refine RW.y (.inl rfl) rfl (Yv.pickT rfl rfl) ?_
            refine RW.nil ?_
            refine PW.go ?_
            refine CW.condT rfl ?_
            refine CW.seq ?_
            refine CW.region ?_
            refine RW.y (.inl rfl) rfl (Yv.assign rfl) ?_
            refine RW.nil ?_
            refine PW.go ?_
            refine CW.ret ?_
            refine PW.block_ret ?_
            refine PW.then_ret ?_
            refine PW.then_ret ?_
            refine PW.block_ret ?_
            refine PW.then_ret ?_
            refine PW.ret1 Try.results60 rfl (fun w1 hs => ?_)
            exact ⟨by rw [namB_false2 (List.mem_of_getElem? hy) (by omega)], hs.mod.below⟩
          ·
            refine RW.y (.inr ⟨_, _, 29, rfl, rfl, rfl⟩) rfl (Yv.move rfl) ?_
            refine RW.y (.inr ⟨_, _, 29, rfl, rfl, rfl⟩) rfl (Yv.move rfl) ?_
            refine RW.y (.inr ⟨_, _, 29, rfl, rfl, rfl⟩) rfl (Yv.index1 Try.underlying32 Try.sizeOf3 rfl rfl (by omega) (by omega)) ?_
            refine RW.y (.inr ⟨_, _, 29, rfl, rfl, rfl⟩) rfl (Yv.load1 Try.isAgg3 rfl (CF.old (hc _ _ (i64s_get _ _ _ hy)) (not_none0 _))) ?_
            refine RW.y (.inr ⟨_, _, 29, rfl, rfl, rfl⟩) rfl (Yv.move rfl) ?_
            refine RW.y (.inr ⟨_, _, 29, rfl, rfl, rfl⟩) rfl (Yv.ge rfl rfl) ?_
            refine RW.y (.inl rfl) rfl (Yv.pickF rfl rfl) ?_
            refine RW.nil ?_
            refine PW.go ?_
            refine CW.condD rfl (fun hc36 => ?_) (fun hc36 => ?_)
            ·
              refine CW.seq ?_
              refine CW.region ?_
              refine RW.y (.inl rfl) rfl (Yv.assign rfl) ?_
              refine RW.nil ?_
              refine PW.go ?_
              refine CW.ret ?_
              refine PW.block_ret ?_
              refine PW.then_ret ?_
              refine PW.then_ret ?_
              refine PW.block_ret ?_
              refine PW.then_ret ?_
              refine PW.ret1 Try.results60 rfl (fun w1 hs => ?_)
              exact ⟨by rw [namB_false2 (List.mem_of_getElem? hy) (by omega)], hs.mod.below⟩
            ·
              refine CW.skip ?_
              refine PW.block ?_
              refine PW.go ?_
              refine CW.region ?_
              refine RW.y (.inl rfl) rfl (Yv.move rfl) ?_
              refine RW.y (.inl rfl) rfl (Yv.add rfl rfl (by omega)) ?_
              refine RW.y (.inl rfl) rfl (Yv.assign rfl) ?_
              refine RW.nil ?_
              exact PW.next (i + 1) (⟨by omega, by rw [take_snocN hy]; intro v hv; rcases List.mem_append.1 hv with h | h; exact hall v h; simp at h; subst h; omega⟩) ⟨rfl, rfl, rfl, trivial⟩ (fun w h => h) (by omega)
        ·
          refine CW.exit ?_
          refine PW.then_exit ?_
          refine PW.then_exit ?_
          refine PW.block_exit ?_
          refine PW.go ?_
          refine CW.seq ?_
          refine CW.seq ?_
          have hie : i = name.length := by omega
          subst hie
          rw [List.take_length] at hall
          refine CW.region ?_
          refine RW.y (.inl rfl) rfl (Yv.assign rfl) ?_
          refine RW.nil ?_
          refine PW.go ?_
          refine CW.block ?_
          refine CW.loop (σ := Nat) (fun j => (j : Int) ≤ k ∧ ∀ q : Nat, q < j → (q : Int) ∈ name) (fun j => [(0, .int .i64 k), (1, .slice A name.length c), (6, .int .i64 (j : Nat))]) (fun j => []) (fun j => k.toNat - j) 0 (⟨by omega, fun q h => absurd h (by omega)⟩) ⟨rfl, rfl, rfl, trivial⟩ (fun w h => h) ?_
          intro j sg
          obtain ⟨hj, hin⟩ := sg
          refine CW.seq ?_
          refine CW.seq ?_
          refine CW.region ?_
          refine RW.y (.inl rfl) rfl (Yv.move rfl) ?_
          refine RW.y (.inl rfl) rfl (Yv.move rfl) ?_
          refine RW.y (.inl rfl) rfl (Yv.lt rfl rfl) ?_
          refine RW.nil ?_
          refine PW.go ?_
          refine CW.condD rfl (fun hc39 => ?_) (fun hc39 => ?_)
          ·
            refine CW.skip ?_
            refine PW.go ?_
            refine CW.seq ?_
            refine CW.block ?_
            refine CW.seq ?_
            refine CW.region ?_
            refine RW.y (.inl rfl) rfl (Yv.move rfl) ?_
            refine RW.y (.inl rfl) rfl (Yv.move rfl) ?_
            refine RW.o _ (.inl rfl) rfl (Ow.call e83 rfl (C.val (fun w hs => ref21In (j : Nat) _ A c name (hr.below hs.mod.below)))) ?_
            rintro _ _ ⟨rfl, rfl⟩
            refine RW.y (.inl rfl) rfl (Yv.not rfl) ?_
            refine RW.nil ?_
            refine PW.go ?_
            refine CW.cond rfl (fun hc45 => ?_) (fun hc45 => ?_)
            ·
              refine CW.seq ?_
              refine CW.region ?_
              refine RW.y (.inl rfl) rfl (Yv.assign rfl) ?_
              refine RW.nil ?_
              refine PW.go ?_
              refine CW.ret ?_
              refine PW.block_ret ?_
              refine PW.then_ret ?_
              refine PW.then_ret ?_
              refine PW.block_ret ?_
              refine PW.then_ret ?_
              refine PW.ret1 Try.results60 rfl (fun w1 hs => ?_)
              refine ⟨?_, hs.mod.below⟩
              have hnj : ¬ (j : Int) ∈ name := by simpa using hc45
              cases hb : namB k name with
              | false => rfl
              | true => exact absurd (((namB_iff _ _).1 hb).2.2 j (by omega)) hnj
            ·
              refine CW.skip ?_
              refine PW.block ?_
              refine PW.go ?_
              refine CW.region ?_
              refine RW.y (.inl rfl) rfl (Yv.move rfl) ?_
              refine RW.y (.inl rfl) rfl (Yv.add rfl rfl (by omega)) ?_
              refine RW.y (.inl rfl) rfl (Yv.assign rfl) ?_
              refine RW.nil ?_
              exact PW.next (j + 1) (⟨by omega, fun q hq => by
                    rcases Nat.lt_or_ge q j with h | h
                    · exact hin q h
                    · obtain rfl : q = j := by omega
                      simpa using hc45⟩) ⟨rfl, rfl, rfl, trivial⟩ (fun w h => h) (by omega)
          ·
            refine CW.exit ?_
            refine PW.then_exit ?_
            refine PW.then_exit ?_
            refine PW.block_exit ?_
            refine PW.go ?_
            refine CW.seq ?_
            refine CW.region ?_
            refine RW.y (.inl rfl) rfl (Yv.assign rfl) ?_
            refine RW.nil ?_
            refine PW.go ?_
            refine CW.ret ?_
            refine PW.ret1 Try.results60 rfl (fun w1 hs => ?_)
            refine ⟨?_, hs.mod.below⟩
            rw [(namB_iff k name).2 ⟨by omega, hall, fun q hq => hin q (by omega)⟩]

set_option maxRecDepth 100000 in
theorem ref40Of_err (n : Nat) (A : Option Addr) (c : Nat) (l : List Edg) (k : Int) (hk : -9223372036854775808 ≤ k ∧ k ≤ 9223372036854775807) (B : Option Addr) (d : Nat) (name : List Int) (w : World) (hrE : Rd w A 3 l.length (cellsE l)) (hr : Rd w B 1 name.length (i64s name)) (hb : ¬ (name.length = n ∧ namB k name = true)) : Calls Try.prog 30 #[.agg #[.int .i64 n, .slice A l.length c], .int .i64 k, .slice B name.length d] w fun e w1 => e = .returned (.agg #[.int .i64 0, .slice none 0 0, .int .i64 1]) ∧ Gr w w1 := by
  refine CW.enter (P := Try.prog) (F0 := none0) (L := [(0, _), (1, _), (2, _)]) 62 [] Try.func30 rfl Try.ntmps30 (Nat.le_of_ble_eq_true rfl) (St.start w none0) rfl ?_
  refine CW.seq ?_
  refine CW.region ?_
  refine RW.o _ (.inl rfl) rfl (Ow.box (cs := [_, _]) rfl rfl) ?_
  rintro _ _ ⟨b3, rfl, rfl⟩
  refine RW.o _ (.inl rfl) rfl (Ow.alloc (cs := [_, _, _]) Try.zeroValue54 rfl) ?_
  rintro _ _ ⟨b6, rfl, rfl⟩
  refine RW.nil ?_
  refine PW.go ?_
  refine CW.seq ?_
  refine CW.seq ?_
  refine CW.region ?_
  refine RW.y (.inl rfl) rfl (Yv.move rfl) ?_
  refine RW.y (.inl rfl) rfl (Yv.len Try.underlying32 rfl) ?_
  refine RW.y (.inl rfl) rfl (Yv.fieldAddr Try.underlying37 rfl Try.sizeOf3 rfl rfl) ?_
  refine RW.y (.inl rfl) rfl (Yv.load1 Try.isAgg3 rfl (CF.blk 1 rfl rfl)) ?_
  refine RW.y (.inl rfl) rfl (Yv.ne rfl rfl) ?_
  refine RW.y (.inl rfl) rfl (Yv.move rfl) ?_
  refine RW.splitD 14 rfl (fun hc14 => ?_) (fun hc14 => ?_)
  ·
    refine RW.no ⟨_, _, 14, _, rfl, rfl, rfl, fun h => by simp [undef] at h⟩ rfl ?_
    refine RW.no ⟨_, _, 14, _, rfl, rfl, rfl, fun h => by simp [undef] at h⟩ rfl ?_
    refine RW.no ⟨_, _, 14, _, rfl, rfl, rfl, fun h => by simp [undef] at h⟩ rfl ?_
    refine RW.no ⟨_, _, 14, _, rfl, rfl, rfl, fun h => by simp [undef] at h⟩ rfl ?_
    refine RW.y (.inl rfl) rfl (Yv.pickT rfl rfl) ?_
    refine RW.nil ?_
    refine PW.go ?_
    refine CW.condT rfl ?_
    refine CW.seq ?_
    refine CW.region ?_
    refine RW.y (.inl rfl) rfl (Yv.build rfl (fun w => by exact bld54_1 _ w)) ?_
    refine RW.o _ (.inl rfl) rfl (Ow.storeW (vs := [_, _, _]) 0 Try.sizeOf54 rfl rfl (rfl) rfl (rfl)) ?_
    rintro _ _ ⟨rfl, rfl⟩
    refine RW.nil ?_
    refine PW.go ?_
    refine CW.ret ?_
    refine PW.then_ret ?_
    refine PW.retC (vs := [_, _, _]) Try.results30 rfl Try.isAgg54 Try.sizeOf54 (CFs.whole 0 rfl) (fun w1 hs => ?_)
    exact ⟨rfl, hs.mod.below⟩
  ·
    refine RW.y (.inr ⟨_, _, 14, rfl, rfl, rfl⟩) rfl (Yv.move rfl) ?_
    refine RW.y (.inr ⟨_, _, 14, rfl, rfl, rfl⟩) rfl (Yv.move rfl) ?_
    refine RW.o _ (.inr ⟨_, _, 14, rfl, rfl, rfl⟩) rfl (Ow.call e60 rfl (C.val (fun w hs => ref40Naming k hk _ B d name (hr.below hs.mod.below)))) ?_
    rintro _ _ ⟨rfl, rfl⟩
    refine RW.y (.inr ⟨_, _, 14, rfl, rfl, rfl⟩) rfl (Yv.not rfl) ?_
    refine RW.y (.inl rfl) rfl (Yv.pickF rfl rfl) ?_
    refine RW.nil ?_
    refine PW.go ?_
    refine CW.cond rfl (fun hc19 => ?_) (fun hc19 => ?_)
    ·
      refine CW.seq ?_
      refine CW.region ?_
      refine RW.y (.inl rfl) rfl (Yv.build rfl (fun w => by exact bld54_1 _ w)) ?_
      refine RW.o _ (.inl rfl) rfl (Ow.storeW (vs := [_, _, _]) 0 Try.sizeOf54 rfl rfl (rfl) rfl (rfl)) ?_
      rintro _ _ ⟨rfl, rfl⟩
      refine RW.nil ?_
      refine PW.go ?_
      refine CW.ret ?_
      refine PW.then_ret ?_
      refine PW.retC (vs := [_, _, _]) Try.results30 rfl Try.isAgg54 Try.sizeOf54 (CFs.whole 0 rfl) (fun w1 hs => ?_)
      exact ⟨rfl, hs.mod.below⟩
    ·
      exact absurd ⟨by omega, by simpa using hc19⟩ hb

set_option maxRecDepth 100000 in
theorem ref40Of (n : Nat) (A : Option Addr) (c : Nat) (l : List Edg) (k : Int) (hk : -9223372036854775808 ≤ k ∧ k ≤ 9223372036854775807) (B : Option Addr) (d : Nat) (name : List Int) (w : World) (hrE : Rd w A 3 l.length (cellsE l)) (hr : Rd w B 1 name.length (i64s name)) (hok : ArcsOk n l) (hll : l.length ≤ 4096) (hlt : totalW l ≤ 8796093022208) (hb : name.length = n ∧ namB k name = true) : Calls Try.prog 30 #[.agg #[.int .i64 n, .slice A l.length c], .int .i64 k, .slice B name.length d] w fun en w1 => ∃ p : Option Addr × Nat, True ∧ en = .returned (.agg #[.int .i64 k, .slice p.1 (mergeL (renL name l)).length p.2, .int .i64 0]) ∧ Gr w w1 ∧ ∃ F, (row (.slice p.1 (mergeL (renL name l)).length p.2) 72 3 (mergeL (renL name l)).length (cellsE (mergeL (renL name l)))).holds w1 F ∧ ∀ q, F q → w.heap.size ≤ q ∧ q < w1.heap.size := by
  have hnn : nonneg l := fun e he => (hok.wts e he).1
  have hrn := renL_nonneg (name := name) hnn
  have hrl := renL_length name l
  have hrt := renL_total name l
  refine CW.enter (P := Try.prog) (F0 := none0) (L := [(0, _), (1, _), (2, _)]) 62 [] Try.func30 rfl Try.ntmps30 (Nat.le_of_ble_eq_true rfl) (St.start w none0) rfl ?_
  refine CW.seq ?_
  refine CW.region ?_
  refine RW.o _ (.inl rfl) rfl (Ow.box (cs := [_, _]) rfl rfl) ?_
  rintro _ _ ⟨b3, rfl, rfl⟩
  refine RW.o _ (.inl rfl) rfl (Ow.alloc (cs := [_, _, _]) Try.zeroValue54 rfl) ?_
  rintro _ _ ⟨b6, rfl, rfl⟩
  refine RW.nil ?_
  refine PW.go ?_
  refine CW.seq ?_
  refine CW.seq ?_
  refine CW.region ?_
  refine RW.y (.inl rfl) rfl (Yv.move rfl) ?_
  refine RW.y (.inl rfl) rfl (Yv.len Try.underlying32 rfl) ?_
  refine RW.y (.inl rfl) rfl (Yv.fieldAddr Try.underlying37 rfl Try.sizeOf3 rfl rfl) ?_
  refine RW.y (.inl rfl) rfl (Yv.load1 Try.isAgg3 rfl (CF.blk 1 rfl rfl)) ?_
  refine RW.y (.inl rfl) rfl (Yv.ne rfl rfl) ?_
  refine RW.y (.inl rfl) rfl (Yv.move rfl) ?_
  refine RW.isF 14 rfl (by omega) ?_
  refine RW.y (.inr ⟨_, _, 14, rfl, rfl, rfl⟩) rfl (Yv.move rfl) ?_
  refine RW.y (.inr ⟨_, _, 14, rfl, rfl, rfl⟩) rfl (Yv.move rfl) ?_
  refine RW.o _ (.inr ⟨_, _, 14, rfl, rfl, rfl⟩) rfl (Ow.call e60 rfl (C.val (fun w hs => ref40Naming k hk _ B d name (hr.below hs.mod.below)))) ?_
  rintro _ _ ⟨rfl, rfl⟩
  refine RW.y (.inr ⟨_, _, 14, rfl, rfl, rfl⟩) rfl (Yv.not rfl) ?_
  refine RW.y (.inl rfl) rfl (Yv.pickF rfl rfl) ?_
  refine RW.nil ?_
  refine PW.go ?_
  refine CW.cond rfl (fun hc19 => ?_) (fun hc19 => ?_)
  ·
    rw [hb.2] at hc19; cases hc19
  ·
    refine CW.skip ?_
    refine PW.go ?_
    refine CW.seq ?_
    refine CW.region ?_
    refine RW.mem _ (fun w h => h.emptyRow 72 3) ?_
    refine RW.y (.inl rfl) rfl (Yv.assign rfl) ?_
    refine RW.nil ?_
    refine PW.go ?_
    refine CW.seq ?_
    refine CW.seq ?_
    refine CW.region ?_
    refine RW.y (.inl rfl) rfl (Yv.assign rfl) ?_
    refine RW.nil ?_
    refine PW.go ?_
    refine CW.block ?_
    refine CW.loop (σ := Nat × Value) (fun s => s.1 ≤ l.length) (fun s => [(1, .int .i64 k), (2, .slice B name.length d), (3, .pointer (some ⟨b3, 0, none⟩)), (6, .pointer (some ⟨b6, 0, none⟩)), (7, s.2), (8, .int .i64 (s.1 : Nat))]) (fun s => [row s.2 72 3 (renL name (l.take s.1)).length (cellsE (renL name (l.take s.1))), blk b6 [.int .i64 0, .slice none 0 0, .int .i64 0] 54, blk b3 [.int .i64 n, .slice A l.length c] 37]) (fun s => l.length - s.1) (0, .slice none 0 0) (by simp) ⟨rfl, rfl, rfl, rfl, rfl, rfl, trivial⟩ (fun w h => h) ?_
    rintro ⟨i, vo⟩ hi
    (try dsimp only at *)
    refine CW.seq ?_
    refine CW.seq ?_
    refine CW.region ?_
    refine RW.y (.inl rfl) rfl (Yv.move rfl) ?_
    refine RW.y (.inl rfl) rfl (Yv.fieldAddr Try.underlying37 rfl Try.sizeOf22 rfl rfl) ?_
    refine RW.y (.inl rfl) rfl (Yv.load1 Try.isAgg22 rfl (CF.blk 2 rfl rfl)) ?_
    refine RW.y (.inl rfl) rfl (Yv.len Try.underlying22 rfl) ?_
    refine RW.y (.inl rfl) rfl (Yv.lt rfl rfl) ?_
    refine RW.nil ?_
    refine PW.go ?_
    refine CW.condD rfl (fun hc25 => ?_) (fun hc25 => ?_)
    ·
      refine CW.skip ?_
      refine PW.go ?_
      refine CW.seq ?_
      refine CW.block ?_
      have hil : i < l.length := by omega
      obtain ⟨bE, oE, rfl, hbE, hcE⟩ := hrE.2.2 (by omega)
      obtain ⟨x, hx⟩ : ∃ x, l[i]? = some x := ⟨_, List.getElem?_eq_getElem hil⟩
      have hxr := hok.rng x (List.mem_of_getElem? hx)
      obtain ⟨bn, on, rfl, hbn, hcn⟩ := hr.2.2 (by omega)
      obtain ⟨nu, hnu⟩ : ∃ a, name[x.u.toNat]? = some a := ⟨_, List.getElem?_eq_getElem (by omega)⟩
      obtain ⟨nv, hnv⟩ : ∃ a, name[x.v.toNat]? = some a := ⟨_, List.getElem?_eq_getElem (by omega)⟩
      have hst : renL name (l.take (i + 1)) = renL name (l.take i) ++ [⟨nu, nv, x.w⟩] := by
        rw [take_snocN hx]; unfold renL; rw [List.map_append, List.map_cons, List.map_nil, show renE name x = ⟨nu, nv, x.w⟩ by unfold renE; rw [getD_of hnu, getD_of hnv]]
      have htl := renL_length name (l.take i)
      have htk := List.length_take_le i l
      refine CW.drawE mixed (fun _ h => (h).erase 0) ?_
      refine HW.take 0 rfl (by kernel_rfl) (by kernel_rfl) (by kernel_rfl) (fun _ _ _ h => h) (.inl rfl) rfl (fun _ h => (h).erase 0) (Yv.move rfl) ?_
      refine HW.take 1 rfl (by kernel_rfl) (by kernel_rfl) (by kernel_rfl) (fun _ _ _ h => h) (.inl rfl) rfl (fun _ h => (h).erase 0) (Yv.move rfl) ?_
      refine HW.take 2 rfl (by kernel_rfl) (by kernel_rfl) (by kernel_rfl) (fun _ _ _ h => h) (.inl rfl) rfl (fun _ h => (h).erase 0) (Yv.fieldAddr Try.underlying37 rfl Try.sizeOf22 rfl rfl) ?_
      refine HW.take 3 rfl (by kernel_rfl) (by kernel_rfl) (by kernel_rfl) (fun _ _ _ h => h) (.inl rfl) rfl (fun _ h => (h).erase 0) (Yv.load1 Try.isAgg22 rfl (CF.blk 1 rfl rfl)) ?_
      refine HW.take 4 rfl (by kernel_rfl) (by kernel_rfl) (by kernel_rfl) (fun _ _ _ h => h) (.inl rfl) rfl (fun _ h => (h).erase 0) (Yv.move rfl) ?_
      refine HW.take 5 rfl (by kernel_rfl) (by kernel_rfl) (by kernel_rfl) (fun _ _ _ h => h) (.inl rfl) rfl (fun _ h => (h).erase 0) (Yv.indexK Try.underlying22 Try.sizeOf72 rfl rfl (by omega) (by omega)) ?_
      refine HW.take 6 rfl (by kernel_rfl) (by kernel_rfl) (by kernel_rfl) (fun _ _ _ h => h) (.inl rfl) rfl (fun _ h => (h).erase 0) (Yv.fieldAddr Try.underlying72 rfl Try.sizeOf3 rfl rfl) ?_
      refine HW.take 7 rfl (by kernel_rfl) (by kernel_rfl) (by kernel_rfl) (fun _ _ _ h => h) (.inl rfl) rfl (fun _ h => (h).erase 0) (Yv.load1 Try.isAgg3 rfl (CF.old (by rw [Nat.add_assoc]; exact hcE _ _ (cellsE_get l i x hx 0 _ rfl)) (not_none0 _))) ?_
      refine HW.take 8 rfl (by kernel_rfl) (by kernel_rfl) (by kernel_rfl) (fun _ _ _ h => h) (.inl rfl) rfl (fun _ h => (h).erase 0) (Yv.index1 Try.underlying32 Try.sizeOf3 rfl rfl (by omega) (by omega)) ?_
      refine HW.take 9 rfl (by kernel_rfl) (by kernel_rfl) (by kernel_rfl) (fun _ _ _ h => h) (.inl rfl) rfl (fun _ h => (h).erase 0) (Yv.load1 Try.isAgg3 rfl (CF.old (hcn _ _ (i64s_at rfl hnu)) (not_none0 _))) ?_
      refine HW.take 10 rfl (by kernel_rfl) (by kernel_rfl) (by kernel_rfl) (fun _ _ _ h => h) (.inl rfl) rfl (fun _ h => (h).erase 0) (Yv.move rfl) ?_
      refine HW.take 11 rfl (by kernel_rfl) (by kernel_rfl) (by kernel_rfl) (fun _ _ _ h => h) (.inl rfl) rfl (fun _ h => (h).erase 0) (Yv.fieldAddr Try.underlying37 rfl Try.sizeOf22 rfl rfl) ?_
      refine HW.take 12 rfl (by kernel_rfl) (by kernel_rfl) (by kernel_rfl) (fun _ _ _ h => h) (.inl rfl) rfl (fun _ h => (h).erase 0) (Yv.load1 Try.isAgg22 rfl (CF.blk 1 rfl rfl)) ?_
      refine HW.take 13 rfl (by kernel_rfl) (by kernel_rfl) (by kernel_rfl) (fun _ _ _ h => h) (.inl rfl) rfl (fun _ h => (h).erase 0) (Yv.move rfl) ?_
      refine HW.take 14 rfl (by kernel_rfl) (by kernel_rfl) (by kernel_rfl) (fun _ _ _ h => h) (.inl rfl) rfl (fun _ h => (h).erase 0) (Yv.indexK Try.underlying22 Try.sizeOf72 rfl rfl (by omega) (by omega)) ?_
      refine HW.take 15 rfl (by kernel_rfl) (by kernel_rfl) (by kernel_rfl) (fun _ _ _ h => h) (.inl rfl) rfl (fun _ h => (h).erase 0) (Yv.fieldAddr Try.underlying72 rfl Try.sizeOf3 rfl rfl) ?_
      refine HW.take 16 rfl (by kernel_rfl) (by kernel_rfl) (by kernel_rfl) (fun _ _ _ h => h) (.inl rfl) rfl (fun _ h => (h).erase 0) (Yv.load1 Try.isAgg3 rfl (CF.old (by rw [Nat.add_assoc]; exact hcE _ _ (cellsE_get l i x hx 1 _ rfl)) (not_none0 _))) ?_
      refine HW.take 17 rfl (by kernel_rfl) (by kernel_rfl) (by kernel_rfl) (fun _ _ _ h => h) (.inl rfl) rfl (fun _ h => (h).erase 0) (Yv.index1 Try.underlying32 Try.sizeOf3 rfl rfl (by omega) (by omega)) ?_
      refine HW.take 18 rfl (by kernel_rfl) (by kernel_rfl) (by kernel_rfl) (fun _ _ _ h => h) (.inl rfl) rfl (fun _ h => (h).erase 0) (Yv.load1 Try.isAgg3 rfl (CF.old (hcn _ _ (i64s_at rfl hnv)) (not_none0 _))) ?_
      refine HW.take 19 rfl (by kernel_rfl) (by kernel_rfl) (by kernel_rfl) (fun _ _ _ h => h) (.inl rfl) rfl (fun _ h => (h).erase 0) (Yv.fieldAddr Try.underlying37 rfl Try.sizeOf22 rfl rfl) ?_
      refine HW.take 20 rfl (by kernel_rfl) (by kernel_rfl) (by kernel_rfl) (fun _ _ _ h => h) (.inl rfl) rfl (fun _ h => (h).erase 0) (Yv.load1 Try.isAgg22 rfl (CF.blk 1 rfl rfl)) ?_
      refine HW.take 21 rfl (by kernel_rfl) (by kernel_rfl) (by kernel_rfl) (fun _ _ _ h => h) (.inl rfl) rfl (fun _ h => (h).erase 0) (Yv.move rfl) ?_
      refine HW.take 22 rfl (by kernel_rfl) (by kernel_rfl) (by kernel_rfl) (fun _ _ _ h => h) (.inl rfl) rfl (fun _ h => (h).erase 0) (Yv.indexK Try.underlying22 Try.sizeOf72 rfl rfl (by omega) (by omega)) ?_
      refine HW.take 23 rfl (by kernel_rfl) (by kernel_rfl) (by kernel_rfl) (fun _ _ _ h => h) (.inl rfl) rfl (fun _ h => (h).erase 0) (Yv.fieldAddr Try.underlying72 rfl Try.sizeOf2 rfl rfl) ?_
      refine HW.take 24 rfl (by kernel_rfl) (by kernel_rfl) (by kernel_rfl) (fun _ _ _ h => h) (.inl rfl) rfl (fun _ h => (h).erase 0) (Yv.load1 Try.isAgg2 rfl (CF.old (by rw [Nat.add_assoc]; exact hcE _ _ (cellsE_get l i x hx 2 _ rfl)) (not_none0 _))) ?_
      refine HW.take 25 rfl (by kernel_rfl) (by kernel_rfl) (by kernel_rfl) (fun _ _ _ h => h) (.inl rfl) rfl (fun _ h => (h).erase 0) (Yv.build rfl (fun w => by exact bld72_0_1_2 _ _ _ w)) ?_
      refine HW.run 26 rfl (by kernel_rfl) _ (.inl rfl) rfl (Ow.lit (len := 1) (vs := [_]) (cs := [_, _, _]) Try.underlying22 info72 rfl rfl rfl rfl rfl rfl rfl) (by rintro _ _ ⟨b54, rfl, rfl⟩ w h; exact ((h).erase 0).erase 0) ?_
      rintro _ _ ⟨b54, rfl, rfl⟩
      refine HW.run 27 rfl (by kernel_rfl) _ (.inl rfl) rfl (Ow.append 1 0 Try.underlying22 info72 rfl rfl rfl rfl rfl rfl rfl rfl (by omega) (by omega)) (by rintro v55 _ rfl w h; exact ((h).erase 0).erase 0) ?_
      rintro v55 _ rfl
      refine HW.take 28 rfl (by kernel_rfl) (by kernel_rfl) (by kernel_rfl) (fun _ _ _ h => h) (.inl rfl) rfl (fun _ h => ((h).erase 0).erase 0) (Yv.assign rfl) ?_
      refine HW.done (by kernel_rfl) ?_
      refine PW.block ?_
      refine PW.go ?_
      refine CW.region ?_
      refine RW.y (.inl rfl) rfl (Yv.move rfl) ?_
      refine RW.y (.inl rfl) rfl (Yv.add rfl rfl (by omega)) ?_
      refine RW.y (.inl rfl) rfl (Yv.assign rfl) ?_
      refine RW.nil ?_
      refine PW.mem _ (fun w h => h.erase 0) ?_
      refine PW.mem _ (fun w h => h.row_eq (m' := (renL name (l.take (i + 1))).length) (xs' := cellsE (renL name (l.take (i + 1)))) 0 rfl (by rw [hst]; simp) (by rw [hst, cellsE_append]; rfl)) ?_
      exact PW.next (i + 1, v55) (by show i + 1 ≤ l.length; omega) ⟨rfl, rfl, rfl, rfl, rfl, rfl, trivial⟩ (fun w h => h) (by show l.length - (i + 1) < l.length - i; omega)
    ·
      refine CW.exit ?_
      refine PW.then_exit ?_
      refine PW.then_exit ?_
      refine PW.block_exit ?_
      refine PW.go ?_
      refine CW.seq ?_
      have hie : i = l.length := by omega
      subst hie
      rw [List.take_length]
      refine CW.facts _ (fun w h => h.row_slice 0 rfl) ?_
      rintro ⟨Ao, co, rfl⟩
      refine CW.region ?_
      refine RW.y (.inl rfl) rfl (Yv.move rfl) ?_
      refine RW.y (.inl rfl) rfl (Yv.move rfl) ?_
      refine RW.o _ (.inl rfl) rfl (Ow.call e56 rfl (C.new (val := fun (p : Option Addr × Nat) => .agg #[.slice p.1 (mergeL (renL name l)).length p.2, .bool true]) (φ := fun _ => True) (Ψ := fun p => row (.slice p.1 (mergeL (renL name l)).length p.2) 72 3 (mergeL (renL name l)).length (cellsE (mergeL (renL name l)))) (fun w2 hs => (ref15Merge Ao co (renL name l) w2 (hs.row_Rd 0 rfl (by omega)) hrn (by omega) (by omega)).mono (fun en w3 ⟨p, he, hb, F, hF, hk⟩ => ⟨p, trivial, he, hb, F, hF, hk⟩)))) ?_
      rintro _ _ ⟨⟨Am, cm⟩, -, rfl, rfl⟩
      refine RW.y (.inl rfl) rfl (Yv.field1 Try.underlying97 rfl Try.isAgg22 rfl rfl) ?_
      refine RW.y (.inl rfl) rfl (Yv.build rfl (fun w => by exact bld37_0_1 _ _ _ _ w)) ?_
      refine RW.y (.inl rfl) rfl (Yv.build rfl (fun w => by exact bld54_0 _ _ _ _ w)) ?_
      refine RW.o _ (.inl rfl) rfl (Ow.storeW (vs := [_, _, _]) 2 Try.sizeOf54 rfl rfl (rfl) rfl (rfl)) ?_
      rintro _ _ ⟨rfl, rfl⟩
      refine RW.nil ?_
      refine PW.go ?_
      refine CW.ret ?_
      refine PW.retC (vs := [_, _, _]) Try.results30 rfl Try.isAgg54 Try.sizeOf54 (CFs.whole 2 rfl) (fun w1 hs => ?_)
      obtain ⟨F, hF, hk⟩ := hs.out 0 rfl
      exact ⟨(Am, cm), trivial, rfl, hs.mod.below, F, hF, hk⟩

set_option maxRecDepth 100000 in
theorem ref40Pair (n : Nat) (hn : n ≤ 4096) (u v : Int) (w : World) : Calls Try.prog 35 #[.int .i64 n, .int .i64 u, .int .i64 v] w fun e w1 => ∃ u_, e = .returned u_ ∧ Gr w w1 ∧ ∃ F, (row u_ 3 1 ((pairNm n u v).length) (i64s (pairNm n u v))).holds w1 F ∧ ∀ k, F k → w.heap.size ≤ k ∧ k < w1.heap.size := by
  refine CW.enter (P := Try.prog) (F0 := none0) (L := [(0, _), (1, _), (2, _)]) 42 [] Try.func35 rfl Try.ntmps35 (Nat.le_of_ble_eq_true rfl) (St.start w none0) rfl ?_
  refine CW.seq ?_
  refine CW.region ?_
  refine RW.y (.inl rfl) rfl (Yv.assign rfl) ?_
  refine RW.nil ?_
  refine PW.go ?_
  refine CW.seq ?_
  refine CW.region ?_
  refine RW.mem _ (fun w h => h.emptyRow 3 1) ?_
  refine RW.y (.inl rfl) rfl (Yv.assign rfl) ?_
  refine RW.nil ?_
  refine PW.go ?_
  refine CW.seq ?_
  refine CW.seq ?_
  refine CW.region ?_
  refine RW.y (.inl rfl) rfl (Yv.assign rfl) ?_
  refine RW.nil ?_
  refine PW.go ?_
  refine CW.block ?_
  refine CW.loop (σ := Nat × Value) (fun s => s.1 ≤ n) (fun s => [(0, .int .i64 n), (1, .int .i64 u), (2, .int .i64 v), (7, s.2), (8, .int .i64 (s.1 : Nat))]) (fun s => [row s.2 3 1 (pairNm s.1 u v).length (i64s (pairNm s.1 u v))]) (fun s => n - s.1) (0, .slice none 0 0) (by simp) ⟨rfl, rfl, rfl, rfl, rfl, trivial⟩ (fun w h => h) ?_
  rintro ⟨i, vo⟩ hi
  (try dsimp only at *)
  refine CW.seq ?_
  refine CW.seq ?_
  refine CW.region ?_
  refine RW.y (.inl rfl) rfl (Yv.move rfl) ?_
  refine RW.y (.inl rfl) rfl (Yv.move rfl) ?_
  refine RW.y (.inl rfl) rfl (Yv.lt rfl rfl) ?_
  refine RW.nil ?_
  refine PW.go ?_
  refine CW.condD rfl (fun hc11 => ?_) (fun hc11 => ?_)
  ·
    refine CW.skip ?_
    refine PW.go ?_
    refine CW.seq ?_
    refine CW.block ?_
    refine CW.block ?_
    refine CW.seq ?_
    have hil : i < n := by omega
    have hst : pairNm (i + 1) u v = pairNm i u v ++ [pairF u v i] := by unfold pairNm; rw [List.range_succ, List.map_append]; rfl
    have hpl := pairNm_length i u v
    refine CW.region ?_
    refine RW.y (.inl rfl) rfl (Yv.move rfl) ?_
    refine RW.y (.inl rfl) rfl (Yv.move rfl) ?_
    refine RW.y (.inl rfl) rfl (Yv.move rfl) ?_
    refine RW.y (.inl rfl) rfl (Yv.max rfl rfl) ?_
    refine RW.y (.inl rfl) rfl (Yv.eq rfl rfl) ?_
    refine RW.y (.inl rfl) rfl (Yv.assign rfl) ?_
    refine RW.nil ?_
    refine PW.go ?_
    refine CW.condD rfl (fun hc18 => ?_) (fun hc18 => ?_)
    ·
      refine CW.region ?_
      refine RW.y (.inl rfl) rfl (Yv.move rfl) ?_
      refine RW.y (.inl rfl) rfl (Yv.move rfl) ?_
      refine RW.y (.inl rfl) rfl (Yv.move rfl) ?_
      refine RW.y (.inl rfl) rfl (Yv.min rfl rfl) ?_
      refine RW.o _ (.inl rfl) rfl (Ow.lit (len := 1) (vs := [_]) (cs := [_]) Try.underlying32 info3 rfl rfl rfl rfl rfl rfl rfl) ?_
      rintro _ _ ⟨b28, rfl, rfl⟩
      refine RW.o _ (.inl rfl) rfl (Ow.append 1 0 Try.underlying32 info3 rfl rfl rfl rfl rfl rfl rfl rfl (by omega) (by omega)) ?_
      rintro v29 _ rfl
      refine RW.y (.inl rfl) rfl (Yv.assign rfl) ?_
      refine RW.nil ?_
      refine PW.block ?_
      refine PW.block ?_
      refine PW.go ?_
      refine CW.region ?_
      refine RW.y (.inl rfl) rfl (Yv.move rfl) ?_
      refine RW.y (.inl rfl) rfl (Yv.add rfl rfl (by omega)) ?_
      refine RW.y (.inl rfl) rfl (Yv.assign rfl) ?_
      refine RW.nil ?_
      refine PW.mem _ (fun w h => h.erase 0) ?_
      refine PW.mem _ (fun w h => h.row_eq (m' := (pairNm (i + 1) u v).length) (xs' := i64s (pairNm (i + 1) u v)) 0 rfl (by rw [hst]; simp) (by rw [hst]; simp only [i64s, List.map_append]; congr 1; unfold pairF; first | (rw [if_pos (by omega)]; rfl) | (rw [if_neg (by omega), if_pos (by omega)]; rfl) | (rw [if_neg (by omega), if_neg (by omega)]; rfl))) ?_
      exact PW.next (i + 1, v29) (by show i + 1 ≤ n; omega) ⟨rfl, rfl, rfl, rfl, rfl, trivial⟩ (fun w h => h) (by show n - (i + 1) < n - i; omega)
    ·
      refine CW.seq ?_
      refine CW.region ?_
      refine RW.y (.inl rfl) rfl (Yv.move rfl) ?_
      refine RW.y (.inl rfl) rfl (Yv.move rfl) ?_
      refine RW.y (.inl rfl) rfl (Yv.move rfl) ?_
      refine RW.y (.inl rfl) rfl (Yv.max rfl rfl) ?_
      refine RW.y (.inl rfl) rfl (Yv.gt rfl rfl) ?_
      refine RW.y (.inl rfl) rfl (Yv.assign rfl) ?_
      refine RW.nil ?_
      refine PW.go ?_
      refine CW.condD rfl (fun hc30 => ?_) (fun hc30 => ?_)
      ·
        refine CW.region ?_
        refine RW.y (.inl rfl) rfl (Yv.move rfl) ?_
        refine RW.y (.inl rfl) rfl (Yv.move rfl) ?_
        refine RW.y (.inl rfl) rfl (Yv.sub rfl rfl (by omega)) ?_
        refine RW.o _ (.inl rfl) rfl (Ow.lit (len := 1) (vs := [_]) (cs := [_]) Try.underlying32 info3 rfl rfl rfl rfl rfl rfl rfl) ?_
        rintro _ _ ⟨b39, rfl, rfl⟩
        refine RW.o _ (.inl rfl) rfl (Ow.append 1 0 Try.underlying32 info3 rfl rfl rfl rfl rfl rfl rfl rfl (by omega) (by omega)) ?_
        rintro v40 _ rfl
        refine RW.y (.inl rfl) rfl (Yv.assign rfl) ?_
        refine RW.nil ?_
        refine PW.block ?_
        refine PW.block ?_
        refine PW.go ?_
        refine CW.region ?_
        refine RW.y (.inl rfl) rfl (Yv.move rfl) ?_
        refine RW.y (.inl rfl) rfl (Yv.add rfl rfl (by omega)) ?_
        refine RW.y (.inl rfl) rfl (Yv.assign rfl) ?_
        refine RW.nil ?_
        refine PW.mem _ (fun w h => h.erase 0) ?_
        refine PW.mem _ (fun w h => h.row_eq (m' := (pairNm (i + 1) u v).length) (xs' := i64s (pairNm (i + 1) u v)) 0 rfl (by rw [hst]; simp) (by rw [hst]; simp only [i64s, List.map_append]; congr 1; unfold pairF; first | (rw [if_pos (by omega)]; rfl) | (rw [if_neg (by omega), if_pos (by omega)]; rfl) | (rw [if_neg (by omega), if_neg (by omega)]; rfl))) ?_
        exact PW.next (i + 1, v40) (by show i + 1 ≤ n; omega) ⟨rfl, rfl, rfl, rfl, rfl, trivial⟩ (fun w h => h) (by show n - (i + 1) < n - i; omega)
      ·
        refine CW.region ?_
        refine RW.y (.inl rfl) rfl (Yv.move rfl) ?_
        refine RW.y (.inl rfl) rfl (Yv.move rfl) ?_
        refine RW.o _ (.inl rfl) rfl (Ow.lit (len := 1) (vs := [_]) (cs := [_]) Try.underlying32 info3 rfl rfl rfl rfl rfl rfl rfl) ?_
        rintro _ _ ⟨b16, rfl, rfl⟩
        refine RW.o _ (.inl rfl) rfl (Ow.append 1 0 Try.underlying32 info3 rfl rfl rfl rfl rfl rfl rfl rfl (by omega) (by omega)) ?_
        rintro v17 _ rfl
        refine RW.y (.inl rfl) rfl (Yv.assign rfl) ?_
        refine RW.nil ?_
        refine PW.block ?_
        refine PW.block ?_
        refine PW.go ?_
        refine CW.region ?_
        refine RW.y (.inl rfl) rfl (Yv.move rfl) ?_
        refine RW.y (.inl rfl) rfl (Yv.add rfl rfl (by omega)) ?_
        refine RW.y (.inl rfl) rfl (Yv.assign rfl) ?_
        refine RW.nil ?_
        refine PW.mem _ (fun w h => h.erase 0) ?_
        refine PW.mem _ (fun w h => h.row_eq (m' := (pairNm (i + 1) u v).length) (xs' := i64s (pairNm (i + 1) u v)) 0 rfl (by rw [hst]; simp) (by rw [hst]; simp only [i64s, List.map_append]; congr 1; unfold pairF; first | (rw [if_pos (by omega)]; rfl) | (rw [if_neg (by omega), if_pos (by omega)]; rfl) | (rw [if_neg (by omega), if_neg (by omega)]; rfl))) ?_
        exact PW.next (i + 1, v17) (by show i + 1 ≤ n; omega) ⟨rfl, rfl, rfl, rfl, rfl, trivial⟩ (fun w h => h) (by show n - (i + 1) < n - i; omega)
  ·
    refine CW.exit ?_
    refine PW.then_exit ?_
    refine PW.then_exit ?_
    refine PW.block_exit ?_
    refine PW.go ?_
    refine CW.seq ?_
    refine CW.region ?_
    refine RW.y (.inl rfl) rfl (Yv.move rfl) ?_
    refine RW.y (.inl rfl) rfl (Yv.assign rfl) ?_
    refine RW.nil ?_
    refine PW.go ?_
    refine CW.ret ?_
    refine PW.ret1 Try.results35 rfl (fun w1 hs => ?_)
    have hs' := hs.row_eq (m' := (pairNm n u v).length) (xs' := i64s (pairNm n u v)) 0 rfl (by rw [show i = n by omega]) (by rw [show i = n by omega])
    obtain ⟨F, hF, hk⟩ := hs'.out 0 rfl
    exact ⟨_, rfl, hs.mod.below, F, hF, hk⟩

end Go.Proofs.Ytipoblpnkkcpgaa
