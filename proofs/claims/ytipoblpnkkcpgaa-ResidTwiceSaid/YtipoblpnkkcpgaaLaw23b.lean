/- Walks, written by a program of this session (gen.py) out of a spec. -/
import Derived.Test.YtipoblpnkkcpgaaLaw23
set_option linter.unusedVariables false
set_option linter.unusedSimpArgs false
namespace Go.Proofs.Ytipoblpnkkcpgaa
open Go Go.RowKit Go.Proofs.Ytipoblpnkkcpgaa.B

theorem sumTo_bd {g : Nat → Int} {B : Int} (hB : 0 ≤ B) : ∀ n, (∀ v, v < n → -B ≤ g v ∧ g v ≤ B) → -(n * B) ≤ sumTo g n ∧ sumTo g n ≤ n * B
  | 0, _ => by simp [sumTo]
  | n + 1, h => by
    have ih := sumTo_bd hB n (fun v hv => h v (by omega))
    have h1 := h n (by omega)
    simp only [sumTo]
    have : ((n + 1 : Nat) : Int) * B = n * B + B := by rw [Int.natCast_add, Int.add_mul]; simp
    omega

set_option maxRecDepth 100000 in
theorem residTwice_long (n : Int) (A B : Option Addr) (c d m mo : Nat) (w : World) (h : 40 < m ∨ 40 < mo) : Calls Try.prog 6 #[.int .u8 n, .slice A m c, .slice B mo d] w fun e w1 => e = .returned (.bool true) ∧ Gr w w1 := by
  refine CW.enter (P := Try.prog) (F0 := none0) (L := [(0, _), (1, _), (2, _)]) 192 [] Try.func6 rfl Try.ntmps6 (Nat.le_of_ble_eq_true rfl) (St.start w none0) rfl ?_
  refine CW.seq ?_
  refine CW.region ?_
  refine RW.y (.inl rfl) rfl (Yv.assign rfl) ?_
  refine RW.nil ?_
  refine PW.go ?_
  refine CW.seq ?_
  refine CW.region ?_
  refine RW.y (.inl rfl) rfl (Yv.assign rfl) ?_
  refine RW.nil ?_
  refine PW.go ?_
  refine CW.seq ?_
  refine CW.seq ?_
  refine CW.region ?_
  refine RW.y (.inl rfl) rfl (Yv.move rfl) ?_
  refine RW.o _ (.inl rfl) rfl (Ow.call e36 rfl (C.val (fun w hs => restArcs_nil _))) ?_
  rintro _ _ ⟨rfl, rfl⟩
  refine RW.y (.inl rfl) rfl (Yv.ptrNotNil Try.underlying29 rfl rfl) ?_
  refine RW.y (.inl rfl) rfl (Yv.move rfl) ?_
  refine RW.isB (c := false) 21 rfl (rfl) ?_
  refine RW.y (.inr ⟨_, _, 21, rfl, rfl, rfl⟩) rfl (Yv.move rfl) ?_
  refine RW.o _ (.inr ⟨_, _, 21, rfl, rfl, rfl⟩) rfl (Ow.call e37 rfl (C.val (fun w hs => restLeft_nil 0 _))) ?_
  rintro _ _ ⟨rfl, rfl⟩
  refine RW.y (.inr ⟨_, _, 21, rfl, rfl, rfl⟩) rfl (Yv.ne rfl rfl) ?_
  refine RW.y (.inl rfl) rfl (Yv.pickF rfl rfl) ?_
  refine RW.y (.inl rfl) rfl (Yv.move rfl) ?_
  refine RW.isF 26 rfl (by simp) ?_
  refine RW.y (.inr ⟨_, _, 26, rfl, rfl, rfl⟩) rfl (Yv.move rfl) ?_
  refine RW.o _ (.inr ⟨_, _, 26, rfl, rfl, rfl⟩) rfl (Ow.call e38 rfl (C.val (fun w hs => restPush_nil 0 0 _))) ?_
  rintro _ _ ⟨rfl, rfl⟩
  refine RW.y (.inl rfl) rfl (Yv.pickF rfl rfl) ?_
  refine RW.y (.inl rfl) rfl (Yv.move rfl) ?_
  refine RW.isB (c := false) 30 rfl (rfl) ?_
  refine RW.y (.inr ⟨_, _, 30, rfl, rfl, rfl⟩) rfl (Yv.move rfl) ?_
  refine RW.o _ (.inr ⟨_, _, 30, rfl, rfl, rfl⟩) rfl (Ow.call e39 rfl (C.val (fun w hs => restFlow_nil 0 _))) ?_
  rintro _ _ ⟨rfl, rfl⟩
  refine RW.y (.inr ⟨_, _, 30, rfl, rfl, rfl⟩) rfl (Yv.ne rfl rfl) ?_
  refine RW.y (.inl rfl) rfl (Yv.pickF rfl rfl) ?_
  refine RW.y (.inl rfl) rfl (Yv.move rfl) ?_
  refine RW.isF 35 rfl (by simp) ?_
  refine RW.y (.inr ⟨_, _, 35, rfl, rfl, rfl⟩) rfl (Yv.move rfl) ?_
  refine RW.o _ (.inr ⟨_, _, 35, rfl, rfl, rfl⟩) rfl (Ow.call e40 rfl (C.ex (fun w2 hs => restFlows_nil w2))) ?_
  rintro _ _ ⟨bfl, -, rfl, rfl⟩
  refine RW.y (.inr ⟨_, _, 35, rfl, rfl, rfl⟩) rfl (Yv.len Try.underlying65 rfl) ?_
  refine RW.y (.inr ⟨_, _, 35, rfl, rfl, rfl⟩) rfl (Yv.ne rfl rfl) ?_
  refine RW.y (.inl rfl) rfl (Yv.pickF rfl rfl) ?_
  refine RW.y (.inl rfl) rfl (Yv.move rfl) ?_
  refine RW.isF 41 rfl (by simp) ?_
  refine RW.y (.inr ⟨_, _, 41, rfl, rfl, rfl⟩) rfl (Yv.move rfl) ?_
  refine RW.o _ (.inr ⟨_, _, 41, rfl, rfl, rfl⟩) rfl (Ow.call e41 rfl (C.val (fun w hs => restExcess_nil 0 _))) ?_
  rintro _ _ ⟨rfl, rfl⟩
  refine RW.y (.inr ⟨_, _, 41, rfl, rfl, rfl⟩) rfl (Yv.ne rfl rfl) ?_
  refine RW.y (.inl rfl) rfl (Yv.pickF rfl rfl) ?_
  refine RW.y (.inl rfl) rfl (Yv.move rfl) ?_
  refine RW.isF 46 rfl (by simp) ?_
  refine RW.y (.inr ⟨_, _, 46, rfl, rfl, rfl⟩) rfl (Yv.move rfl) ?_
  refine RW.o _ (.inr ⟨_, _, 46, rfl, rfl, rfl⟩) rfl (Ow.call e42 rfl (C.val (fun w hs => restReach_nil 0 _))) ?_
  rintro _ _ ⟨rfl, rfl⟩
  refine RW.y (.inr ⟨_, _, 46, rfl, rfl, rfl⟩) rfl (Yv.len Try.underlying32 rfl) ?_
  refine RW.y (.inr ⟨_, _, 46, rfl, rfl, rfl⟩) rfl (Yv.ne rfl rfl) ?_
  refine RW.y (.inl rfl) rfl (Yv.pickF rfl rfl) ?_
  refine RW.y (.inl rfl) rfl (Yv.move rfl) ?_
  refine RW.isF 52 rfl (by simp) ?_
  refine RW.y (.inr ⟨_, _, 52, rfl, rfl, rfl⟩) rfl (Yv.move rfl) ?_
  refine RW.o _ (.inr ⟨_, _, 52, rfl, rfl, rfl⟩) rfl (Ow.call e43 rfl (C.val (fun w hs => restTwin_nil _))) ?_
  rintro _ _ ⟨rfl, rfl⟩
  refine RW.y (.inr ⟨_, _, 52, rfl, rfl, rfl⟩) rfl (Yv.ptrNotNil Try.underlying62 rfl rfl) ?_
  refine RW.y (.inl rfl) rfl (Yv.pickF rfl rfl) ?_
  refine RW.nil ?_
  refine PW.go ?_
  refine CW.cond rfl (fun hc56 => ?_) (fun hc56 => ?_)
  ·
    cases hc56
  ·
    refine CW.skip ?_
    refine PW.go ?_
    refine CW.seq ?_
    refine CW.seq ?_
    refine CW.region ?_
    refine RW.y (.inl rfl) rfl (Yv.move rfl) ?_
    refine RW.y (.inl rfl) rfl (Yv.len Try.underlying22 rfl) ?_
    refine RW.y (.inl rfl) rfl (Yv.gt rfl rfl) ?_
    refine RW.y (.inl rfl) rfl (Yv.move rfl) ?_
    refine RW.splitD 60 rfl (fun hc60 => ?_) (fun hc60 => ?_)
    ·
      refine RW.no ⟨_, _, 60, _, rfl, rfl, rfl, fun h => by simp [undef] at h⟩ rfl ?_
      refine RW.no ⟨_, _, 60, _, rfl, rfl, rfl, fun h => by simp [undef] at h⟩ rfl ?_
      refine RW.no ⟨_, _, 60, _, rfl, rfl, rfl, fun h => by simp [undef] at h⟩ rfl ?_
      refine RW.y (.inl rfl) rfl (Yv.pickT rfl rfl) ?_
      refine RW.nil ?_
      refine PW.go ?_
      refine CW.condT rfl ?_
      refine CW.seq ?_
      refine CW.region ?_
      refine RW.o _ (.inl rfl) rfl (Ow.call e44 rfl (C.val (fun w hs => awake23 _))) ?_
      rintro _ _ ⟨rfl, rfl⟩
      refine RW.y (.inl rfl) rfl (Yv.assign rfl) ?_
      refine RW.nil ?_
      refine PW.go ?_
      refine CW.ret ?_
      refine PW.then_ret ?_
      refine PW.ret1 Try.results6 rfl (fun w1 hs => ?_)
      exact ⟨rfl, hs.mod.below⟩
    ·
      refine RW.y (.inr ⟨_, _, 60, rfl, rfl, rfl⟩) rfl (Yv.move rfl) ?_
      refine RW.y (.inr ⟨_, _, 60, rfl, rfl, rfl⟩) rfl (Yv.len Try.underlying61 rfl) ?_
      refine RW.y (.inr ⟨_, _, 60, rfl, rfl, rfl⟩) rfl (Yv.gt rfl rfl) ?_
      refine RW.y (.inl rfl) rfl (Yv.pickF rfl rfl) ?_
      refine RW.nil ?_
      refine PW.go ?_
      refine CW.condD rfl (fun hc64 => ?_) (fun hc64 => ?_)
      ·
        refine CW.seq ?_
        refine CW.region ?_
        refine RW.o _ (.inl rfl) rfl (Ow.call e44 rfl (C.val (fun w hs => awake23 _))) ?_
        rintro _ _ ⟨rfl, rfl⟩
        refine RW.y (.inl rfl) rfl (Yv.assign rfl) ?_
        refine RW.nil ?_
        refine PW.go ?_
        refine CW.ret ?_
        refine PW.then_ret ?_
        refine PW.ret1 Try.results6 rfl (fun w1 hs => ?_)
        exact ⟨rfl, hs.mod.below⟩
      ·
        omega

set_option maxRecDepth 100000 in
theorem residTwice_err (n : Int) (hn : 0 ≤ n ∧ n ≤ 255) (A : Option Addr) (c : Nat) (l : List Edg) (B : Option Addr) (d : Nat) (ops : List (Int × Int)) (w : World) (hr : Rd w A 3 l.length (cellsE l)) (hrO : Rd w B 2 ops.length (cellsA ops)) (hl40 : l.length ≤ 40) (ho40 : ops.length ≤ 40) (k : Int) (i : Nat) (hk : k ≠ 0) (he : NewE n l k i) : Calls Try.prog 6 #[.int .u8 n, .slice A l.length c, .slice B ops.length d] w fun e w1 => e = .returned (.bool true) ∧ Gr w w1 := by
  have hF0 : FlowOk [] (List.replicate ([] : List Edg).length 0) := FlowOk.zero 0 (by simp)
  refine CW.enter (P := Try.prog) (F0 := none0) (L := [(0, _), (1, _), (2, _)]) 192 [] Try.func6 rfl Try.ntmps6 (Nat.le_of_ble_eq_true rfl) (St.start w none0) rfl ?_
  refine CW.seq ?_
  refine CW.region ?_
  refine RW.y (.inl rfl) rfl (Yv.assign rfl) ?_
  refine RW.nil ?_
  refine PW.go ?_
  refine CW.seq ?_
  refine CW.region ?_
  refine RW.y (.inl rfl) rfl (Yv.assign rfl) ?_
  refine RW.nil ?_
  refine PW.go ?_
  refine CW.seq ?_
  refine CW.seq ?_
  refine CW.region ?_
  refine RW.y (.inl rfl) rfl (Yv.move rfl) ?_
  refine RW.o _ (.inl rfl) rfl (Ow.call e36 rfl (C.val (fun w hs => restArcs_nil _))) ?_
  rintro _ _ ⟨rfl, rfl⟩
  refine RW.y (.inl rfl) rfl (Yv.ptrNotNil Try.underlying29 rfl rfl) ?_
  refine RW.y (.inl rfl) rfl (Yv.move rfl) ?_
  refine RW.isB (c := false) 21 rfl (rfl) ?_
  refine RW.y (.inr ⟨_, _, 21, rfl, rfl, rfl⟩) rfl (Yv.move rfl) ?_
  refine RW.o _ (.inr ⟨_, _, 21, rfl, rfl, rfl⟩) rfl (Ow.call e37 rfl (C.val (fun w hs => restLeft_nil 0 _))) ?_
  rintro _ _ ⟨rfl, rfl⟩
  refine RW.y (.inr ⟨_, _, 21, rfl, rfl, rfl⟩) rfl (Yv.ne rfl rfl) ?_
  refine RW.y (.inl rfl) rfl (Yv.pickF rfl rfl) ?_
  refine RW.y (.inl rfl) rfl (Yv.move rfl) ?_
  refine RW.isF 26 rfl (by simp) ?_
  refine RW.y (.inr ⟨_, _, 26, rfl, rfl, rfl⟩) rfl (Yv.move rfl) ?_
  refine RW.o _ (.inr ⟨_, _, 26, rfl, rfl, rfl⟩) rfl (Ow.call e38 rfl (C.val (fun w hs => restPush_nil 0 0 _))) ?_
  rintro _ _ ⟨rfl, rfl⟩
  refine RW.y (.inl rfl) rfl (Yv.pickF rfl rfl) ?_
  refine RW.y (.inl rfl) rfl (Yv.move rfl) ?_
  refine RW.isB (c := false) 30 rfl (rfl) ?_
  refine RW.y (.inr ⟨_, _, 30, rfl, rfl, rfl⟩) rfl (Yv.move rfl) ?_
  refine RW.o _ (.inr ⟨_, _, 30, rfl, rfl, rfl⟩) rfl (Ow.call e39 rfl (C.val (fun w hs => restFlow_nil 0 _))) ?_
  rintro _ _ ⟨rfl, rfl⟩
  refine RW.y (.inr ⟨_, _, 30, rfl, rfl, rfl⟩) rfl (Yv.ne rfl rfl) ?_
  refine RW.y (.inl rfl) rfl (Yv.pickF rfl rfl) ?_
  refine RW.y (.inl rfl) rfl (Yv.move rfl) ?_
  refine RW.isF 35 rfl (by simp) ?_
  refine RW.y (.inr ⟨_, _, 35, rfl, rfl, rfl⟩) rfl (Yv.move rfl) ?_
  refine RW.o _ (.inr ⟨_, _, 35, rfl, rfl, rfl⟩) rfl (Ow.call e40 rfl (C.ex (fun w2 hs => restFlows_nil w2))) ?_
  rintro _ _ ⟨bfl, -, rfl, rfl⟩
  refine RW.y (.inr ⟨_, _, 35, rfl, rfl, rfl⟩) rfl (Yv.len Try.underlying65 rfl) ?_
  refine RW.y (.inr ⟨_, _, 35, rfl, rfl, rfl⟩) rfl (Yv.ne rfl rfl) ?_
  refine RW.y (.inl rfl) rfl (Yv.pickF rfl rfl) ?_
  refine RW.y (.inl rfl) rfl (Yv.move rfl) ?_
  refine RW.isF 41 rfl (by simp) ?_
  refine RW.y (.inr ⟨_, _, 41, rfl, rfl, rfl⟩) rfl (Yv.move rfl) ?_
  refine RW.o _ (.inr ⟨_, _, 41, rfl, rfl, rfl⟩) rfl (Ow.call e41 rfl (C.val (fun w hs => restExcess_nil 0 _))) ?_
  rintro _ _ ⟨rfl, rfl⟩
  refine RW.y (.inr ⟨_, _, 41, rfl, rfl, rfl⟩) rfl (Yv.ne rfl rfl) ?_
  refine RW.y (.inl rfl) rfl (Yv.pickF rfl rfl) ?_
  refine RW.y (.inl rfl) rfl (Yv.move rfl) ?_
  refine RW.isF 46 rfl (by simp) ?_
  refine RW.y (.inr ⟨_, _, 46, rfl, rfl, rfl⟩) rfl (Yv.move rfl) ?_
  refine RW.o _ (.inr ⟨_, _, 46, rfl, rfl, rfl⟩) rfl (Ow.call e42 rfl (C.val (fun w hs => restReach_nil 0 _))) ?_
  rintro _ _ ⟨rfl, rfl⟩
  refine RW.y (.inr ⟨_, _, 46, rfl, rfl, rfl⟩) rfl (Yv.len Try.underlying32 rfl) ?_
  refine RW.y (.inr ⟨_, _, 46, rfl, rfl, rfl⟩) rfl (Yv.ne rfl rfl) ?_
  refine RW.y (.inl rfl) rfl (Yv.pickF rfl rfl) ?_
  refine RW.y (.inl rfl) rfl (Yv.move rfl) ?_
  refine RW.isF 52 rfl (by simp) ?_
  refine RW.y (.inr ⟨_, _, 52, rfl, rfl, rfl⟩) rfl (Yv.move rfl) ?_
  refine RW.o _ (.inr ⟨_, _, 52, rfl, rfl, rfl⟩) rfl (Ow.call e43 rfl (C.val (fun w hs => restTwin_nil _))) ?_
  rintro _ _ ⟨rfl, rfl⟩
  refine RW.y (.inr ⟨_, _, 52, rfl, rfl, rfl⟩) rfl (Yv.ptrNotNil Try.underlying62 rfl rfl) ?_
  refine RW.y (.inl rfl) rfl (Yv.pickF rfl rfl) ?_
  refine RW.nil ?_
  refine PW.go ?_
  refine CW.cond rfl (fun hc56 => ?_) (fun hc56 => ?_)
  ·
    cases hc56
  ·
    refine CW.skip ?_
    refine PW.go ?_
    refine CW.seq ?_
    refine CW.seq ?_
    refine CW.region ?_
    refine RW.y (.inl rfl) rfl (Yv.move rfl) ?_
    refine RW.y (.inl rfl) rfl (Yv.len Try.underlying22 rfl) ?_
    refine RW.y (.inl rfl) rfl (Yv.gt rfl rfl) ?_
    refine RW.y (.inl rfl) rfl (Yv.move rfl) ?_
    refine RW.isF 60 rfl (by omega) ?_
    refine RW.y (.inr ⟨_, _, 60, rfl, rfl, rfl⟩) rfl (Yv.move rfl) ?_
    refine RW.y (.inr ⟨_, _, 60, rfl, rfl, rfl⟩) rfl (Yv.len Try.underlying61 rfl) ?_
    refine RW.y (.inr ⟨_, _, 60, rfl, rfl, rfl⟩) rfl (Yv.gt rfl rfl) ?_
    refine RW.y (.inl rfl) rfl (Yv.pickF rfl rfl) ?_
    refine RW.nil ?_
    refine PW.go ?_
    refine CW.condD rfl (fun hc64 => ?_) (fun hc64 => ?_)
    ·
      omega
    ·
      refine CW.skip ?_
      refine PW.go ?_
      refine CW.seq ?_
      refine CW.region ?_
      refine RW.y (.inl rfl) rfl (Yv.move rfl) ?_
      refine RW.y (.inl rfl) rfl (Yv.conv64 Try.underlying5 Try.underlying3 rfl (by omega)) ?_
      refine RW.y (.inl rfl) rfl (Yv.move rfl) ?_
      refine RW.o _ (.inl rfl) rfl (Ow.call e8 rfl (C.val (fun w hs => netNew_err n A c l _ (hr.below hs.mod.below) k i hk he))) ?_
      rintro _ _ ⟨rfl, rfl⟩
      refine RW.y (.inl rfl) rfl (Yv.move rfl) ?_
      refine RW.y (.inl rfl) rfl (Yv.extract rfl rfl) ?_
      refine RW.y (.inl rfl) rfl (Yv.extract rfl rfl) ?_
      refine RW.y (.inl rfl) rfl (Yv.extract rfl rfl) ?_
      refine RW.y (.inl rfl) rfl (Yv.assign rfl) ?_
      refine RW.y (.inl rfl) rfl (Yv.assign rfl) ?_
      refine RW.y (.inl rfl) rfl (Yv.assign rfl) ?_
      refine RW.nil ?_
      refine PW.go ?_
      refine CW.seq ?_
      refine CW.seq ?_
      refine CW.region ?_
      refine RW.y (.inl rfl) rfl (Yv.move rfl) ?_
      refine RW.y (.inl rfl) rfl (Yv.ne rfl rfl) ?_
      refine RW.nil ?_
      refine PW.go ?_
      refine CW.condD rfl (fun hc75 => ?_) (fun hc75 => ?_)
      ·
        refine CW.seq ?_
        refine CW.region ?_
        refine RW.o _ (.inl rfl) rfl (Ow.call e45 rfl (C.new (val := fun (x : RI × List Int) => .pointer (some ⟨x.1.b, 0, none⟩)) (φ := fun x => ∀ v, v < 0 → (csrD (0) ([] : List Edg) x.2).of v = outOf (0) ([] : List Edg) v) (Ψ := fun x => Ass.star (nowA (fun w' => IsArcs w' x.1.ba (csrD (0) ([] : List Edg) x.2))) (restA x.1 (0) (2 * ([] : List Edg).length) (leftL ([] : List Edg) (List.replicate ([] : List Edg).length 0)) (overL (0) ([] : List Edg) (List.replicate ([] : List Edg).length 0)))) (fun w2 hs => residNewNil w2))) ?_
        rintro _ _ ⟨⟨R, out⟩, hof, rfl, rfl⟩
        refine RW.y (.inl rfl) rfl (Yv.assign rfl) ?_
        refine RW.nil ?_
        refine PW.go ?_
        refine CW.seq ?_
        refine CW.mem _ (fun w h => h.front 0 rfl) ?_
        refine CW.mem _ (fun w h => h.split) ?_
        refine CW.mem _ (fun w h => h.front 1 rfl) ?_
        refine CW.region ?_
        refine RW.y (.inl rfl) rfl (Yv.move rfl) ?_
        refine RW.o _ (.inl rfl) rfl (Ow.call e38 rfl (C.mut0 (val := fun _ : List Int => .bool (decide (okPush ([] : List Edg) (List.replicate ([] : List Edg).length 0) 0 0))) (Ψ := fun f_ => restA R (0) (2 * ([] : List Edg).length) (leftL ([] : List Edg) f_) (overL (0) ([] : List Edg) f_)) (φ := fun f_ => f_ = pushR ([] : List Edg) (List.replicate ([] : List Edg).length 0) 0 0) (fun w2 F2 h2 h3 h4 => restPush R (csrD 0 [] out) (List.replicate ([] : List Edg).length 0) arcsOk_nil (show totalW ([] : List Edg) ≤ 2251799813685248 by decide) hF0 0 0 w2 F2 h2 h3 (fun W hM => now_of (h4 W hM 0 _ rfl))))) ?_
        rintro _ _ ⟨f', hf', rfl, rfl⟩
        obtain rfl : f' = (List.replicate ([] : List Edg).length 0) := by rw [hf']; decide
        refine RW.y (.inl rfl) rfl (Yv.not rfl) ?_
        refine RW.y (.inl rfl) rfl (Yv.move rfl) ?_
        refine RW.isB (c := true) 80 rfl (by decide) ?_
        refine RW.y (.inr ⟨_, _, 80, rfl, rfl, rfl⟩) rfl (Yv.move rfl) ?_
        refine RW.o _ (.inr ⟨_, _, 80, rfl, rfl, rfl⟩) rfl (Ow.call e37 rfl (C.val (fun w hs => restLeft R (csrD 0 [] out) _ _ 0 _ (IsRest.of (hs.hold 0 _ rfl) (hs.now 1 rfl))))) ?_
        rintro _ _ ⟨rfl, rfl⟩
        refine RW.y (.inr ⟨_, _, 80, rfl, rfl, rfl⟩) rfl (Yv.eq rfl rfl) ?_
        refine RW.y (.inl rfl) rfl (Yv.pickT rfl rfl) ?_
        refine RW.y (.inl rfl) rfl (Yv.move rfl) ?_
        refine RW.isT 85 rfl (by decide) ?_
        refine RW.y (.inr ⟨_, _, 85, rfl, rfl, rfl⟩) rfl (Yv.move rfl) ?_
        refine RW.o _ (.inr ⟨_, _, 85, rfl, rfl, rfl⟩) rfl (Ow.call e40 rfl (C.new (val := id) (φ := fun _ => True) (Ψ := fun v_ => row v_ 2 1 (0) (i64s [])) (fun w2 hs => (restFlows R (csrD 0 [] out) _ _ arcsOk_nil hF0 w2 (IsRest.of (hs.hold 0 _ rfl) (hs.now 1 rfl))).mono (fun e w3 ⟨v_, hv_, hb, F, hF, hk_⟩ => ⟨v_, trivial, hv_, hb, F, hF, hk_⟩)))) ?_
        rintro _ _ ⟨v_fl, -, rfl, rfl⟩
        refine RW.y (.inr ⟨_, _, 85, rfl, rfl, rfl⟩) rfl (Yv.lenRow 0 Try.underlying65 rfl rfl) ?_
        refine RW.y (.inr ⟨_, _, 85, rfl, rfl, rfl⟩) rfl (Yv.eq rfl rfl) ?_
        refine RW.y (.inl rfl) rfl (Yv.pickT rfl rfl) ?_
        refine RW.y (.inl rfl) rfl (Yv.move rfl) ?_
        refine RW.isT 91 rfl (rfl) ?_
        refine RW.y (.inr ⟨_, _, 91, rfl, rfl, rfl⟩) rfl (Yv.move rfl) ?_
        refine RW.o _ (.inr ⟨_, _, 91, rfl, rfl, rfl⟩) rfl (Ow.call e42 rfl (C.val (fun w hs => restReach_out R (csrD 0 [] out) _ _ 0 _ (IsRest.of (hs.hold 1 _ rfl) (hs.now 2 rfl)) (by right; show ((0 : Nat) : Int) ≤ 0; omega)))) ?_
        rintro _ _ ⟨rfl, rfl⟩
        refine RW.y (.inr ⟨_, _, 91, rfl, rfl, rfl⟩) rfl (Yv.len Try.underlying32 rfl) ?_
        refine RW.y (.inr ⟨_, _, 91, rfl, rfl, rfl⟩) rfl (Yv.eq rfl rfl) ?_
        refine RW.y (.inl rfl) rfl (Yv.pickT rfl rfl) ?_
        refine RW.y (.inl rfl) rfl (Yv.move rfl) ?_
        refine RW.isT 97 rfl (rfl) ?_
        refine RW.o _ (.inr ⟨_, _, 97, rfl, rfl, rfl⟩) rfl (Ow.call e44 rfl (C.val (fun w hs => awake23 _))) ?_
        rintro _ _ ⟨rfl, rfl⟩
        refine RW.y (.inl rfl) rfl (Yv.pickT rfl rfl) ?_
        refine RW.y (.inl rfl) rfl (Yv.assign rfl) ?_
        refine RW.nil ?_
        refine PW.go ?_
        refine CW.ret ?_
        refine PW.then_ret ?_
        refine PW.ret1 Try.results6 rfl (fun w1 hs => ?_)
        exact ⟨by first | rfl | simp, hs.mod.below⟩
      ·
        exact absurd hk hc75

set_option maxRecDepth 100000 in
theorem residTwice_ok (n : Int) (hn : 0 ≤ n ∧ n ≤ 255) (A : Option Addr) (c : Nat) (l : List Edg) (B : Option Addr) (d : Nat) (ops : List (Int × Int)) (w : World) (hr : Rd w A 3 l.length (cellsE l)) (hrO : Rd w B 2 ops.length (cellsA ops)) (hl40 : l.length ≤ 40) (ho40 : ops.length ≤ 40) (hok : NewOk n l) : Calls Try.prog 6 #[.int .u8 n, .slice A l.length c, .slice B ops.length d] w fun e w1 => e = .returned (.bool true) ∧ Gr w w1 := by
  have hml := mergeL_length l
  have hao := hok.arcs
  have hT := hok.mtot
  have hF0 := flow0 hok
  have hnE : ∀ z ∈ mergeL l, z.u ≠ z.v := fun z hz => by have := hao.rng z hz; omega
  refine CW.enter (P := Try.prog) (F0 := none0) (L := [(0, _), (1, _), (2, _)]) 192 [] Try.func6 rfl Try.ntmps6 (Nat.le_of_ble_eq_true rfl) (St.start w none0) rfl ?_
  refine CW.seq ?_
  refine CW.region ?_
  refine RW.y (.inl rfl) rfl (Yv.assign rfl) ?_
  refine RW.nil ?_
  refine PW.go ?_
  refine CW.seq ?_
  refine CW.region ?_
  refine RW.y (.inl rfl) rfl (Yv.assign rfl) ?_
  refine RW.nil ?_
  refine PW.go ?_
  refine CW.seq ?_
  refine CW.seq ?_
  refine CW.region ?_
  refine RW.y (.inl rfl) rfl (Yv.move rfl) ?_
  refine RW.o _ (.inl rfl) rfl (Ow.call e36 rfl (C.val (fun w hs => restArcs_nil _))) ?_
  rintro _ _ ⟨rfl, rfl⟩
  refine RW.y (.inl rfl) rfl (Yv.ptrNotNil Try.underlying29 rfl rfl) ?_
  refine RW.y (.inl rfl) rfl (Yv.move rfl) ?_
  refine RW.isB (c := false) 21 rfl (rfl) ?_
  refine RW.y (.inr ⟨_, _, 21, rfl, rfl, rfl⟩) rfl (Yv.move rfl) ?_
  refine RW.o _ (.inr ⟨_, _, 21, rfl, rfl, rfl⟩) rfl (Ow.call e37 rfl (C.val (fun w hs => restLeft_nil 0 _))) ?_
  rintro _ _ ⟨rfl, rfl⟩
  refine RW.y (.inr ⟨_, _, 21, rfl, rfl, rfl⟩) rfl (Yv.ne rfl rfl) ?_
  refine RW.y (.inl rfl) rfl (Yv.pickF rfl rfl) ?_
  refine RW.y (.inl rfl) rfl (Yv.move rfl) ?_
  refine RW.isF 26 rfl (by simp) ?_
  refine RW.y (.inr ⟨_, _, 26, rfl, rfl, rfl⟩) rfl (Yv.move rfl) ?_
  refine RW.o _ (.inr ⟨_, _, 26, rfl, rfl, rfl⟩) rfl (Ow.call e38 rfl (C.val (fun w hs => restPush_nil 0 0 _))) ?_
  rintro _ _ ⟨rfl, rfl⟩
  refine RW.y (.inl rfl) rfl (Yv.pickF rfl rfl) ?_
  refine RW.y (.inl rfl) rfl (Yv.move rfl) ?_
  refine RW.isB (c := false) 30 rfl (rfl) ?_
  refine RW.y (.inr ⟨_, _, 30, rfl, rfl, rfl⟩) rfl (Yv.move rfl) ?_
  refine RW.o _ (.inr ⟨_, _, 30, rfl, rfl, rfl⟩) rfl (Ow.call e39 rfl (C.val (fun w hs => restFlow_nil 0 _))) ?_
  rintro _ _ ⟨rfl, rfl⟩
  refine RW.y (.inr ⟨_, _, 30, rfl, rfl, rfl⟩) rfl (Yv.ne rfl rfl) ?_
  refine RW.y (.inl rfl) rfl (Yv.pickF rfl rfl) ?_
  refine RW.y (.inl rfl) rfl (Yv.move rfl) ?_
  refine RW.isF 35 rfl (by simp) ?_
  refine RW.y (.inr ⟨_, _, 35, rfl, rfl, rfl⟩) rfl (Yv.move rfl) ?_
  refine RW.o _ (.inr ⟨_, _, 35, rfl, rfl, rfl⟩) rfl (Ow.call e40 rfl (C.ex (fun w2 hs => restFlows_nil w2))) ?_
  rintro _ _ ⟨bfl, -, rfl, rfl⟩
  refine RW.y (.inr ⟨_, _, 35, rfl, rfl, rfl⟩) rfl (Yv.len Try.underlying65 rfl) ?_
  refine RW.y (.inr ⟨_, _, 35, rfl, rfl, rfl⟩) rfl (Yv.ne rfl rfl) ?_
  refine RW.y (.inl rfl) rfl (Yv.pickF rfl rfl) ?_
  refine RW.y (.inl rfl) rfl (Yv.move rfl) ?_
  refine RW.isF 41 rfl (by simp) ?_
  refine RW.y (.inr ⟨_, _, 41, rfl, rfl, rfl⟩) rfl (Yv.move rfl) ?_
  refine RW.o _ (.inr ⟨_, _, 41, rfl, rfl, rfl⟩) rfl (Ow.call e41 rfl (C.val (fun w hs => restExcess_nil 0 _))) ?_
  rintro _ _ ⟨rfl, rfl⟩
  refine RW.y (.inr ⟨_, _, 41, rfl, rfl, rfl⟩) rfl (Yv.ne rfl rfl) ?_
  refine RW.y (.inl rfl) rfl (Yv.pickF rfl rfl) ?_
  refine RW.y (.inl rfl) rfl (Yv.move rfl) ?_
  refine RW.isF 46 rfl (by simp) ?_
  refine RW.y (.inr ⟨_, _, 46, rfl, rfl, rfl⟩) rfl (Yv.move rfl) ?_
  refine RW.o _ (.inr ⟨_, _, 46, rfl, rfl, rfl⟩) rfl (Ow.call e42 rfl (C.val (fun w hs => restReach_nil 0 _))) ?_
  rintro _ _ ⟨rfl, rfl⟩
  refine RW.y (.inr ⟨_, _, 46, rfl, rfl, rfl⟩) rfl (Yv.len Try.underlying32 rfl) ?_
  refine RW.y (.inr ⟨_, _, 46, rfl, rfl, rfl⟩) rfl (Yv.ne rfl rfl) ?_
  refine RW.y (.inl rfl) rfl (Yv.pickF rfl rfl) ?_
  refine RW.y (.inl rfl) rfl (Yv.move rfl) ?_
  refine RW.isF 52 rfl (by simp) ?_
  refine RW.y (.inr ⟨_, _, 52, rfl, rfl, rfl⟩) rfl (Yv.move rfl) ?_
  refine RW.o _ (.inr ⟨_, _, 52, rfl, rfl, rfl⟩) rfl (Ow.call e43 rfl (C.val (fun w hs => restTwin_nil _))) ?_
  rintro _ _ ⟨rfl, rfl⟩
  refine RW.y (.inr ⟨_, _, 52, rfl, rfl, rfl⟩) rfl (Yv.ptrNotNil Try.underlying62 rfl rfl) ?_
  refine RW.y (.inl rfl) rfl (Yv.pickF rfl rfl) ?_
  refine RW.nil ?_
  refine PW.go ?_
  refine CW.cond rfl (fun hc56 => ?_) (fun hc56 => ?_)
  ·
    cases hc56
  ·
    refine CW.skip ?_
    refine PW.go ?_
    refine CW.seq ?_
    refine CW.seq ?_
    refine CW.region ?_
    refine RW.y (.inl rfl) rfl (Yv.move rfl) ?_
    refine RW.y (.inl rfl) rfl (Yv.len Try.underlying22 rfl) ?_
    refine RW.y (.inl rfl) rfl (Yv.gt rfl rfl) ?_
    refine RW.y (.inl rfl) rfl (Yv.move rfl) ?_
    refine RW.isF 60 rfl (by omega) ?_
    refine RW.y (.inr ⟨_, _, 60, rfl, rfl, rfl⟩) rfl (Yv.move rfl) ?_
    refine RW.y (.inr ⟨_, _, 60, rfl, rfl, rfl⟩) rfl (Yv.len Try.underlying61 rfl) ?_
    refine RW.y (.inr ⟨_, _, 60, rfl, rfl, rfl⟩) rfl (Yv.gt rfl rfl) ?_
    refine RW.y (.inl rfl) rfl (Yv.pickF rfl rfl) ?_
    refine RW.nil ?_
    refine PW.go ?_
    refine CW.condD rfl (fun hc64 => ?_) (fun hc64 => ?_)
    ·
      omega
    ·
      refine CW.skip ?_
      refine PW.go ?_
      refine CW.seq ?_
      refine CW.region ?_
      refine RW.y (.inl rfl) rfl (Yv.move rfl) ?_
      refine RW.y (.inl rfl) rfl (Yv.conv64 Try.underlying5 Try.underlying3 rfl (by omega)) ?_
      refine RW.y (.inl rfl) rfl (Yv.move rfl) ?_
      refine RW.o _ (.inl rfl) rfl (Ow.call e8 rfl (C.new (val := fun (b : Nat) => .tuple #[.pointer (some ⟨b, 0, none⟩), .int .i64 0, .int .i64 0]) (φ := fun _ => True) (Ψ := fun b => nowA (fun w' => IsNet w' b (netOf n l))) (fun w2 hs => (netNew_ok n A c l w2 (hr.below hs.mod.below) hok).mono (fun en w3 ⟨b, ht, he, hb, F, hF, hk⟩ => ⟨b, ht, he, hb, F, hF, hk⟩)))) ?_
      rintro _ _ ⟨bg, -, rfl, rfl⟩
      refine RW.y (.inl rfl) rfl (Yv.move rfl) ?_
      refine RW.y (.inl rfl) rfl (Yv.extract rfl rfl) ?_
      refine RW.y (.inl rfl) rfl (Yv.extract rfl rfl) ?_
      refine RW.y (.inl rfl) rfl (Yv.extract rfl rfl) ?_
      refine RW.y (.inl rfl) rfl (Yv.assign rfl) ?_
      refine RW.y (.inl rfl) rfl (Yv.assign rfl) ?_
      refine RW.y (.inl rfl) rfl (Yv.assign rfl) ?_
      refine RW.nil ?_
      refine PW.go ?_
      refine CW.seq ?_
      refine CW.seq ?_
      refine CW.region ?_
      refine RW.y (.inl rfl) rfl (Yv.move rfl) ?_
      refine RW.y (.inl rfl) rfl (Yv.ne rfl rfl) ?_
      refine RW.nil ?_
      refine PW.go ?_
      refine CW.condD rfl (fun hc75 => ?_) (fun hc75 => ?_)
      ·
        exact absurd rfl hc75
      ·
        refine CW.skip ?_
        refine PW.go ?_
        refine CW.seq ?_
        refine CW.region ?_
        refine RW.y (.inl rfl) rfl (Yv.move rfl) ?_
        refine RW.o _ (.inl rfl) rfl (Ow.call e45 rfl (C.new (val := fun (x : RI × List Int) => .pointer (some ⟨x.1.b, 0, none⟩)) (φ := fun x => ∀ v, v < n.toNat → (csrD (n.toNat) (mergeL l) x.2).of v = outOf (n.toNat) (mergeL l) v) (Ψ := fun x => Ass.star (nowA (fun w' => IsArcs w' x.1.ba (csrD (n.toNat) (mergeL l) x.2))) (restA x.1 (n.toNat) (2 * (mergeL l).length) (leftL (mergeL l) (List.replicate (mergeL l).length 0)) (overL (n.toNat) (mergeL l) (List.replicate (mergeL l).length 0)))) (fun w2 hs => residNewG bg n l hok w2 (hs.now 0 rfl)))) ?_
        rintro _ _ ⟨⟨R, out⟩, hof, rfl, rfl⟩
        refine RW.y (.inl rfl) rfl (Yv.assign rfl) ?_
        refine RW.nil ?_
        refine PW.go ?_
        refine CW.seq ?_
        refine CW.seq ?_
        refine CW.mem _ (fun w h => h.front 0 rfl) ?_
        refine CW.mem _ (fun w h => h.split) ?_
        refine CW.mem _ (fun w h => h.front 1 rfl) ?_
        refine CW.region ?_
        refine RW.y (.inl rfl) rfl (Yv.assign rfl) ?_
        refine RW.nil ?_
        refine PW.go ?_
        refine CW.block ?_
        refine CW.loop (σ := Nat × List Int) (fun s => s.1 ≤ ops.length ∧ FlowOk (mergeL l) s.2) (fun s => [(2, .slice B ops.length d), (0, .int .u8 n), (8, .pointer (some ⟨bg, 0, none⟩)), (12, .pointer (some ⟨R.b, 0, none⟩)), (13, .int .i64 (s.1 : Nat))]) (fun s => [restA R n.toNat (2 * (mergeL l).length) (leftL (mergeL l) s.2) (overL n.toNat (mergeL l) s.2), nowA (fun w' => IsArcs w' R.ba (csrD n.toNat (mergeL l) out)), nowA (fun w' => IsNet w' bg (netOf n l))]) (fun s => ops.length - s.1) (0, (List.replicate (mergeL l).length 0)) (⟨by simp, hF0⟩) ⟨rfl, rfl, rfl, rfl, rfl, trivial⟩ (fun w h => h) ?_
        rintro ⟨k, f⟩ ⟨hk, hF⟩
        (try dsimp only at *)
        refine CW.seq ?_
        refine CW.seq ?_
        refine CW.region ?_
        refine RW.y (.inl rfl) rfl (Yv.move rfl) ?_
        refine RW.y (.inl rfl) rfl (Yv.move rfl) ?_
        refine RW.y (.inl rfl) rfl (Yv.len Try.underlying61 rfl) ?_
        refine RW.y (.inl rfl) rfl (Yv.lt rfl rfl) ?_
        refine RW.nil ?_
        refine PW.go ?_
        refine CW.condD rfl (fun hc105 => ?_) (fun hc105 => ?_)
        ·
          refine CW.skip ?_
          refine PW.go ?_
          refine CW.seq ?_
          refine CW.block ?_
          have hko : k < ops.length := by omega
          obtain ⟨bO, oO, rfl, hbO, hcO⟩ := hrO.2.2 (by omega)
          obtain ⟨o, ho⟩ : ∃ x, ops[k]? = some x := ⟨_, List.getElem?_eq_getElem hko⟩
          have hca := cellsA_get ops k o ho
          refine CW.drawE mixed (fun _ h => (h).erase 0) ?_
          refine HW.take 0 rfl (by kernel_rfl) (by kernel_rfl) (by kernel_rfl) (fun _ _ _ h => h) (.inl rfl) rfl (fun _ h => (h).erase 0) (Yv.move rfl) ?_
          refine HW.take 1 rfl (by kernel_rfl) (by kernel_rfl) (by kernel_rfl) (fun _ _ _ h => h) (.inl rfl) rfl (fun _ h => (h).erase 0) (Yv.move rfl) ?_
          refine HW.take 2 rfl (by kernel_rfl) (by kernel_rfl) (by kernel_rfl) (fun _ _ _ h => h) (.inl rfl) rfl (fun _ h => (h).erase 0) (Yv.move rfl) ?_
          refine HW.take 3 rfl (by kernel_rfl) (by kernel_rfl) (by kernel_rfl) (fun _ _ _ h => h) (.inl rfl) rfl (fun _ h => (h).erase 0) (Yv.indexK Try.underlying61 Try.sizeOf70 rfl rfl (by omega) (by omega)) ?_
          refine HW.take 4 rfl (by kernel_rfl) (by kernel_rfl) (by kernel_rfl) (fun _ _ _ h => h) (.inl rfl) rfl (fun _ h => (h).erase 0) (Yv.fieldAddr Try.underlying70 rfl Try.sizeOf3 rfl rfl) ?_
          refine HW.take 5 rfl (by kernel_rfl) (by kernel_rfl) (by kernel_rfl) (fun _ _ _ h => h) (.inl rfl) rfl (fun _ h => (h).erase 0) (Yv.load1 Try.isAgg3 rfl (CF.old (hcO _ _ hca.1) (not_none0 _))) ?_
          refine HW.take 6 rfl (by kernel_rfl) (by kernel_rfl) (by kernel_rfl) (fun _ _ _ h => h) (.inl rfl) rfl (fun _ h => (h).erase 0) (Yv.move rfl) ?_
          refine HW.take 7 rfl (by kernel_rfl) (by kernel_rfl) (by kernel_rfl) (fun _ _ _ h => h) (.inl rfl) rfl (fun _ h => (h).erase 0) (Yv.move rfl) ?_
          refine HW.take 8 rfl (by kernel_rfl) (by kernel_rfl) (by kernel_rfl) (fun _ _ _ h => h) (.inl rfl) rfl (fun _ h => (h).erase 0) (Yv.indexK Try.underlying61 Try.sizeOf70 rfl rfl (by omega) (by omega)) ?_
          refine HW.take 9 rfl (by kernel_rfl) (by kernel_rfl) (by kernel_rfl) (fun _ _ _ h => h) (.inl rfl) rfl (fun _ h => (h).erase 0) (Yv.fieldAddr Try.underlying70 rfl Try.sizeOf2 rfl rfl) ?_
          refine HW.take 10 rfl (by kernel_rfl) (by kernel_rfl) (by kernel_rfl) (fun _ _ _ h => h) (.inl rfl) rfl (fun _ h => (h).erase 0) (Yv.load1 Try.isAgg2 rfl (CF.old (hcO _ _ hca.2) (not_none0 _))) ?_
          refine HW.run 11 rfl (by kernel_rfl) _ (.inl rfl) rfl (Ow.call e38 rfl (C.mut0 (val := fun _ : List Int => .bool (decide (okPush (mergeL l) f o.1 o.2))) (Ψ := fun f_ => restA R (n.toNat) (2 * (mergeL l).length) (leftL (mergeL l) f_) (overL (n.toNat) (mergeL l) f_)) (φ := fun f_ => f_ = pushR (mergeL l) f o.1 o.2) (fun w2 F2 h2 h3 h4 => restPush R (csrD n.toNat (mergeL l) out) f hao hT hF o.1 o.2 w2 F2 h2 h3 (fun W hM => now_of (h4 W hM 0 _ rfl))))) (by rintro _ _ ⟨f', hf', rfl, rfl⟩ w h; exact (h).erase 0) ?_
          rintro _ _ ⟨f', hf', rfl, rfl⟩
          refine HW.done (by kernel_rfl) ?_
          refine PW.block ?_
          refine PW.go ?_
          refine CW.region ?_
          refine RW.y (.inl rfl) rfl (Yv.move rfl) ?_
          refine RW.y (.inl rfl) rfl (Yv.add rfl rfl (by omega)) ?_
          refine RW.y (.inl rfl) rfl (Yv.assign rfl) ?_
          refine RW.nil ?_
          exact PW.next (k + 1, f') (⟨by show k + 1 ≤ ops.length; omega, hf' ▸ pushR_ok hF⟩) ⟨rfl, rfl, rfl, rfl, rfl, trivial⟩ (fun w h => h) (by show ops.length - (k + 1) < ops.length - k; omega)
        ·
          refine CW.exit ?_
          refine PW.then_exit ?_
          refine PW.then_exit ?_
          refine PW.block_exit ?_
          refine PW.go ?_
          refine CW.seq ?_
          have hxb := fun v : Nat => exc_bd (mergeL l) f (v : Int) hnE hF
          refine CW.region ?_
          refine RW.y (.inl rfl) rfl (Yv.assign rfl) ?_
          refine RW.nil ?_
          refine PW.go ?_
          refine CW.seq ?_
          refine CW.seq ?_
          refine CW.region ?_
          refine RW.y (.inl rfl) rfl (Yv.assign rfl) ?_
          refine RW.nil ?_
          refine PW.go ?_
          refine CW.block ?_
          refine CW.loop (σ := Nat) (fun v => v ≤ n.toNat) (fun v => [(0, .int .u8 n), (8, .pointer (some ⟨bg, 0, none⟩)), (12, .pointer (some ⟨R.b, 0, none⟩)), (14, .int .i64 (sumTo (fun (v : Nat) => exc (mergeL l) f (v : Int)) v)), (15, .int .i64 (v : Nat))]) (fun v => [restA R n.toNat (2 * (mergeL l).length) (leftL (mergeL l) f) (overL n.toNat (mergeL l) f), nowA (fun w' => IsArcs w' R.ba (csrD n.toNat (mergeL l) out)), nowA (fun w' => IsNet w' bg (netOf n l))]) (fun v => n.toNat - v) 0 (by simp) ⟨rfl, rfl, rfl, rfl, rfl, trivial⟩ (fun w h => h) ?_
          intro v hv
          refine CW.seq ?_
          refine CW.seq ?_
          refine CW.region ?_
          refine RW.y (.inl rfl) rfl (Yv.move rfl) ?_
          refine RW.y (.inl rfl) rfl (Yv.move rfl) ?_
          refine RW.y (.inl rfl) rfl (Yv.conv64 Try.underlying5 Try.underlying3 rfl (by omega)) ?_
          refine RW.y (.inl rfl) rfl (Yv.lt rfl rfl) ?_
          refine RW.nil ?_
          refine PW.go ?_
          refine CW.condD rfl (fun hc123 => ?_) (fun hc123 => ?_)
          ·
            refine CW.skip ?_
            refine PW.go ?_
            refine CW.seq ?_
            refine CW.block ?_
            have hvn : v < n.toNat := by omega
            have hat : atI (overL n.toNat (mergeL l) f) (v : Nat) = exc (mergeL l) f (v : Nat) := by rw [atI_nat, getD_of (overL_get hvn)]
            have hsb := sumTo_bd (g := fun (v : Nat) => exc (mergeL l) f (v : Int)) (B := 2251799813685248) (by omega) v (fun u _ => by have := hxb u; omega)
            have hx1 := hxb v
            have hvB : (v : Int) * 2251799813685248 ≤ 255 * 2251799813685248 := Int.mul_le_mul_of_nonneg_right (by omega) (by omega)
            refine CW.region ?_
            refine RW.y (.inl rfl) rfl (Yv.move rfl) ?_
            refine RW.y (.inl rfl) rfl (Yv.move rfl) ?_
            refine RW.y (.inl rfl) rfl (Yv.move rfl) ?_
            refine RW.o _ (.inl rfl) rfl (Ow.call e41 rfl (C.val (fun w hs => restExcessT R (csrD n.toNat (mergeL l) out) _ _ (v : Nat) _ (IsRest.of (hs.hold 0 _ rfl) (hs.now 1 rfl)) hat))) ?_
            rintro _ _ ⟨rfl, rfl⟩
            refine RW.y (.inl rfl) rfl (Yv.add rfl rfl (by omega)) ?_
            refine RW.y (.inl rfl) rfl (Yv.assign rfl) ?_
            refine RW.nil ?_
            refine PW.block ?_
            refine PW.go ?_
            refine CW.region ?_
            refine RW.y (.inl rfl) rfl (Yv.move rfl) ?_
            refine RW.y (.inl rfl) rfl (Yv.add rfl rfl (by omega)) ?_
            refine RW.y (.inl rfl) rfl (Yv.assign rfl) ?_
            refine RW.nil ?_
            exact PW.next (v + 1) (by omega) ⟨rfl, rfl, rfl, rfl, rfl, trivial⟩ (fun w h => h) (by omega)
          ·
            refine CW.exit ?_
            refine PW.then_exit ?_
            refine PW.then_exit ?_
            refine PW.block_exit ?_
            refine PW.go ?_
            refine CW.seq ?_
            refine CW.region ?_
            refine RW.y (.inl rfl) rfl (Yv.move rfl) ?_
            refine RW.o _ (.inl rfl) rfl (Ow.call e33 rfl (C.new (val := id) (φ := fun _ => True) (Ψ := fun v_ => row v_ 72 3 ((mergeL l).length) (cellsE (mergeL l))) (fun w2 hs => (netEdges bg (netOf n l) w2 (hs.now 2 rfl)).mono (fun e w3 ⟨v_, hv_, hb, F, hF, hk_⟩ => ⟨v_, trivial, hv_, hb, F, hF, hk_⟩)))) ?_
            rintro _ _ ⟨v_E, -, rfl, rfl⟩
            refine RW.y (.inl rfl) rfl (Yv.assign rfl) ?_
            refine RW.nil ?_
            refine PW.go ?_
            refine CW.seq ?_
            refine CW.seq ?_
            refine CW.facts _ (fun w h => h.row_slice 0 rfl) ?_
            rintro ⟨Ae, ce, rfl⟩
            refine CW.mem _ (fun w h => h.front 3 rfl) ?_
            refine CW.mem _ (fun w h => h.front 3 rfl) ?_
            refine CW.mem _ (fun w h => h.front 3 rfl) ?_
            refine CW.region ?_
            refine RW.y (.inl rfl) rfl (Yv.assign rfl) ?_
            refine RW.nil ?_
            refine PW.go ?_
            refine CW.block ?_
            refine CW.loop (σ := Nat) (fun k => k ≤ (mergeL l).length) (fun k => [(0, .int .u8 n), (8, .pointer (some ⟨bg, 0, none⟩)), (12, .pointer (some ⟨R.b, 0, none⟩)), (14, .int .i64 (sumTo (fun (v : Nat) => exc (mergeL l) f (v : Int)) v)), (16, .slice Ae (mergeL l).length ce), (17, .int .i64 (k : Nat))]) (fun k => [restA R n.toNat (2 * (mergeL l).length) (leftL (mergeL l) f) (overL n.toNat (mergeL l) f), nowA (fun w' => IsArcs w' R.ba (csrD n.toNat (mergeL l) out)), nowA (fun w' => IsNet w' bg (netOf n l)), row (.slice Ae (mergeL l).length ce) 72 3 (mergeL l).length (cellsE (mergeL l))]) (fun k => (mergeL l).length - k) 0 (by simp) ⟨rfl, rfl, rfl, rfl, rfl, rfl, trivial⟩ (fun w h => h) ?_
            intro k hk
            refine CW.seq ?_
            refine CW.seq ?_
            refine CW.region ?_
            refine RW.y (.inl rfl) rfl (Yv.move rfl) ?_
            refine RW.y (.inl rfl) rfl (Yv.move rfl) ?_
            refine RW.y (.inl rfl) rfl (Yv.len Try.underlying22 rfl) ?_
            refine RW.y (.inl rfl) rfl (Yv.lt rfl rfl) ?_
            refine RW.nil ?_
            refine PW.go ?_
            refine CW.condD rfl (fun hc136 => ?_) (fun hc136 => ?_)
            ·
              refine CW.skip ?_
              refine PW.go ?_
              refine CW.seq ?_
              refine CW.block ?_
              refine CW.seq ?_
              have hkl : k < (mergeL l).length := by omega
              refine CW.facts _ (fun w h => h.row_some 3 rfl (by omega)) ?_
              rintro ⟨be, rfl⟩
              obtain ⟨x, hx⟩ : ∃ x, (mergeL l)[k]? = some x := ⟨_, List.getElem?_eq_getElem hkl⟩
              have hcx := cellsE_get _ k x hx
              have hxw := hao.wts x (List.mem_of_getElem? hx)
              have hle := left_even (f := f) hx
              have hlo := left_odd (f := f) hx
              obtain ⟨_, _, he0, _⟩ := left_bd hF (by omega) hle
              obtain ⟨_, _, ho0, _⟩ := left_bd hF (by omega) hlo
              have hae : atI (leftL (mergeL l) f) (2 * (k : Int)) = x.w - f.getD k 0 := atI_of (by omega) (by rw [show (2 * (k : Int)).toNat = 2 * k by omega]; exact hle)
              have hao2 : atI (leftL (mergeL l) f) (2 * (k : Int) + 1) = x.w + f.getD k 0 := atI_of (by omega) (by rw [show (2 * (k : Int) + 1).toNat = 2 * k + 1 by omega]; exact hlo)
              refine CW.draw0 mixed ?_
              refine HW.take 0 rfl (by kernel_rfl) (by kernel_rfl) (by kernel_rfl) (fun _ _ _ h => h) (.inl rfl) rfl (fun _ h => h) (Yv.move rfl) ?_
              refine HW.take 1 rfl (by kernel_rfl) (by kernel_rfl) (by kernel_rfl) (fun _ _ _ h => h) (.inl rfl) rfl (fun _ h => h) (Yv.move rfl) ?_
              refine HW.take 2 rfl (by kernel_rfl) (by kernel_rfl) (by kernel_rfl) (fun _ _ _ h => h) (.inl rfl) rfl (fun _ h => h) (Yv.mul rfl rfl (by omega)) ?_
              refine HW.take 4 rfl (by kernel_rfl) (by kernel_rfl) (by kernel_rfl) (fun _ _ _ h => h) (.inl rfl) rfl (fun _ h => h) (Yv.move rfl) ?_
              refine HW.take 5 rfl (by kernel_rfl) (by kernel_rfl) (by kernel_rfl) (fun _ _ _ h => h) (.inl rfl) rfl (fun _ h => h) (Yv.move rfl) ?_
              refine HW.take 6 rfl (by kernel_rfl) (by kernel_rfl) (by kernel_rfl) (fun _ _ _ h => h) (.inl rfl) rfl (fun _ h => h) (Yv.mul rfl rfl (by omega)) ?_
              refine HW.take 7 rfl (by kernel_rfl) (by kernel_rfl) (by kernel_rfl) (fun _ _ _ h => h) (.inl rfl) rfl (fun _ h => h) (Yv.add rfl rfl (by omega)) ?_
              refine HW.take 10 rfl (by kernel_rfl) (by kernel_rfl) (by kernel_rfl) (fun _ _ _ h => h) (.inl rfl) rfl (fun _ h => h) (Yv.move rfl) ?_
              refine HW.take 11 rfl (by kernel_rfl) (by kernel_rfl) (by kernel_rfl) (fun _ _ _ h => h) (.inl rfl) rfl (fun _ h => h) (Yv.move rfl) ?_
              refine HW.take 12 rfl (by kernel_rfl) (by kernel_rfl) (by kernel_rfl) (fun _ _ _ h => h) (.inl rfl) rfl (fun _ h => h) (Yv.index0K Try.underlying22 Try.sizeOf72 rfl rfl (by omega) (by omega)) ?_
              refine HW.take 13 rfl (by kernel_rfl) (by kernel_rfl) (by kernel_rfl) (fun _ _ _ h => h) (.inl rfl) rfl (fun _ h => h) (Yv.fieldAddr Try.underlying72 rfl Try.sizeOf2 rfl rfl) ?_
              refine HW.take 14 rfl (by kernel_rfl) (by kernel_rfl) (by kernel_rfl) (fun _ _ _ h => h) (.inl rfl) rfl (fun _ h => h) (Yv.load1 Try.isAgg2 rfl (CF.row 3 rfl (hcx 2 _ rfl))) ?_
              refine HW.take 15 rfl (by kernel_rfl) (by kernel_rfl) (by kernel_rfl) (fun _ _ _ h => h) (.inl rfl) rfl (fun _ h => h) (Yv.mul rfl rfl (by omega)) ?_
              refine HW.run 3 rfl (by kernel_rfl) _ (.inl rfl) rfl (Ow.call e37 rfl (C.val (fun w hs => restLeftT R (csrD n.toNat (mergeL l) out) _ _ (2 * (k : Int)) _ (IsRest.of (hs.hold 0 _ rfl) (hs.now 1 rfl)) hae))) (by rintro _ _ ⟨rfl, rfl⟩ w h; exact h) ?_
              rintro _ _ ⟨rfl, rfl⟩
              refine HW.run 8 rfl (by kernel_rfl) _ (.inl rfl) rfl (Ow.call e37 rfl (C.val (fun w hs => restLeftT R (csrD n.toNat (mergeL l) out) _ _ (2 * (k : Int) + 1) _ (IsRest.of (hs.hold 0 _ rfl) (hs.now 1 rfl)) hao2))) (by rintro _ _ ⟨rfl, rfl⟩ w h; exact h) ?_
              rintro _ _ ⟨rfl, rfl⟩
              refine HW.take 9 rfl (by kernel_rfl) (by kernel_rfl) (by kernel_rfl) (fun _ _ _ h => h) (.inl rfl) rfl (fun _ h => h) (Yv.add rfl rfl (by omega)) ?_
              refine HW.take 16 rfl (by kernel_rfl) (by kernel_rfl) (by kernel_rfl) (fun _ _ _ h => h) (.inl rfl) rfl (fun _ h => h) (Yv.ne rfl rfl) ?_
              refine HW.take 17 rfl (by kernel_rfl) (by kernel_rfl) (by kernel_rfl) (fun _ _ _ h => h) (.inl rfl) rfl (fun _ h => h) (Yv.move rfl) ?_
              refine HW.isF 156 rfl (by omega) ?_
              refine HW.take 18 rfl (by kernel_rfl) (by kernel_rfl) (by kernel_rfl) (fun _ _ _ h => h) (.inr ⟨_, _, 156, rfl, rfl, rfl⟩) rfl (fun _ h => h) (Yv.move rfl) ?_
              refine HW.take 19 rfl (by kernel_rfl) (by kernel_rfl) (by kernel_rfl) (fun _ _ _ h => h) (.inr ⟨_, _, 156, rfl, rfl, rfl⟩) rfl (fun _ h => h) (Yv.move rfl) ?_
              refine HW.take 20 rfl (by kernel_rfl) (by kernel_rfl) (by kernel_rfl) (fun _ _ _ h => h) (.inr ⟨_, _, 156, rfl, rfl, rfl⟩) rfl (fun _ h => h) (Yv.mul rfl rfl (by omega)) ?_
              refine HW.run 21 rfl (by kernel_rfl) _ (.inr ⟨_, _, 156, rfl, rfl, rfl⟩) rfl (Ow.call e37 rfl (C.val (fun w hs => restLeftT R (csrD n.toNat (mergeL l) out) _ _ (2 * (k : Int)) _ (IsRest.of (hs.hold 0 _ rfl) (hs.now 1 rfl)) hae))) (by rintro _ _ ⟨rfl, rfl⟩ w h; exact h) ?_
              rintro _ _ ⟨rfl, rfl⟩
              refine HW.take 22 rfl (by kernel_rfl) (by kernel_rfl) (by kernel_rfl) (fun _ _ _ h => h) (.inr ⟨_, _, 156, rfl, rfl, rfl⟩) rfl (fun _ h => h) (Yv.lt rfl rfl) ?_
              refine HW.take 23 rfl (by kernel_rfl) (by kernel_rfl) (by kernel_rfl) (fun _ _ _ h => h) (.inl rfl) rfl (fun _ h => h) (Yv.pickF rfl rfl) ?_
              refine HW.take 24 rfl (by kernel_rfl) (by kernel_rfl) (by kernel_rfl) (fun _ _ _ h => h) (.inl rfl) rfl (fun _ h => h) (Yv.move rfl) ?_
              refine HW.isF 163 rfl (by omega) ?_
              refine HW.take 25 rfl (by kernel_rfl) (by kernel_rfl) (by kernel_rfl) (fun _ _ _ h => h) (.inr ⟨_, _, 163, rfl, rfl, rfl⟩) rfl (fun _ h => h) (Yv.move rfl) ?_
              refine HW.take 26 rfl (by kernel_rfl) (by kernel_rfl) (by kernel_rfl) (fun _ _ _ h => h) (.inr ⟨_, _, 163, rfl, rfl, rfl⟩) rfl (fun _ h => h) (Yv.move rfl) ?_
              refine HW.take 27 rfl (by kernel_rfl) (by kernel_rfl) (by kernel_rfl) (fun _ _ _ h => h) (.inr ⟨_, _, 163, rfl, rfl, rfl⟩) rfl (fun _ h => h) (Yv.mul rfl rfl (by omega)) ?_
              refine HW.take 28 rfl (by kernel_rfl) (by kernel_rfl) (by kernel_rfl) (fun _ _ _ h => h) (.inr ⟨_, _, 163, rfl, rfl, rfl⟩) rfl (fun _ h => h) (Yv.add rfl rfl (by omega)) ?_
              refine HW.run 29 rfl (by kernel_rfl) _ (.inr ⟨_, _, 163, rfl, rfl, rfl⟩) rfl (Ow.call e37 rfl (C.val (fun w hs => restLeftT R (csrD n.toNat (mergeL l) out) _ _ (2 * (k : Int) + 1) _ (IsRest.of (hs.hold 0 _ rfl) (hs.now 1 rfl)) hao2))) (by rintro _ _ ⟨rfl, rfl⟩ w h; exact h) ?_
              rintro _ _ ⟨rfl, rfl⟩
              refine HW.take 30 rfl (by kernel_rfl) (by kernel_rfl) (by kernel_rfl) (fun _ _ _ h => h) (.inr ⟨_, _, 163, rfl, rfl, rfl⟩) rfl (fun _ h => h) (Yv.lt rfl rfl) ?_
              refine HW.take 31 rfl (by kernel_rfl) (by kernel_rfl) (by kernel_rfl) (fun _ _ _ h => h) (.inl rfl) rfl (fun _ h => h) (Yv.pickF rfl rfl) ?_
              refine HW.take 32 rfl (by kernel_rfl) (by kernel_rfl) (by kernel_rfl) (fun _ _ _ h => h) (.inl rfl) rfl (fun _ h => h) (Yv.move rfl) ?_
              refine HW.isF 171 rfl (by omega) ?_
              refine HW.take 33 rfl (by kernel_rfl) (by kernel_rfl) (by kernel_rfl) (fun _ _ _ h => h) (.inr ⟨_, _, 171, rfl, rfl, rfl⟩) rfl (fun _ h => h) (Yv.move rfl) ?_
              refine HW.take 34 rfl (by kernel_rfl) (by kernel_rfl) (by kernel_rfl) (fun _ _ _ h => h) (.inr ⟨_, _, 171, rfl, rfl, rfl⟩) rfl (fun _ h => h) (Yv.move rfl) ?_
              refine HW.take 36 rfl (by kernel_rfl) (by kernel_rfl) (by kernel_rfl) (fun _ _ _ h => h) (.inr ⟨_, _, 171, rfl, rfl, rfl⟩) rfl (fun _ h => h) (Yv.move rfl) ?_
              refine HW.take 37 rfl (by kernel_rfl) (by kernel_rfl) (by kernel_rfl) (fun _ _ _ h => h) (.inr ⟨_, _, 171, rfl, rfl, rfl⟩) rfl (fun _ h => h) (Yv.move rfl) ?_
              refine HW.take 38 rfl (by kernel_rfl) (by kernel_rfl) (by kernel_rfl) (fun _ _ _ h => h) (.inr ⟨_, _, 171, rfl, rfl, rfl⟩) rfl (fun _ h => h) (Yv.index0K Try.underlying22 Try.sizeOf72 rfl rfl (by omega) (by omega)) ?_
              refine HW.take 39 rfl (by kernel_rfl) (by kernel_rfl) (by kernel_rfl) (fun _ _ _ h => h) (.inr ⟨_, _, 171, rfl, rfl, rfl⟩) rfl (fun _ h => h) (Yv.fieldAddr Try.underlying72 rfl Try.sizeOf2 rfl rfl) ?_
              refine HW.take 40 rfl (by kernel_rfl) (by kernel_rfl) (by kernel_rfl) (fun _ _ _ h => h) (.inr ⟨_, _, 171, rfl, rfl, rfl⟩) rfl (fun _ h => h) (Yv.load1 Try.isAgg2 rfl (CF.row 3 rfl (hcx 2 _ rfl))) ?_
              refine HW.take 41 rfl (by kernel_rfl) (by kernel_rfl) (by kernel_rfl) (fun _ _ _ h => h) (.inr ⟨_, _, 171, rfl, rfl, rfl⟩) rfl (fun _ h => h) (Yv.move rfl) ?_
              refine HW.take 42 rfl (by kernel_rfl) (by kernel_rfl) (by kernel_rfl) (fun _ _ _ h => h) (.inr ⟨_, _, 171, rfl, rfl, rfl⟩) rfl (fun _ h => h) (Yv.move rfl) ?_
              refine HW.take 43 rfl (by kernel_rfl) (by kernel_rfl) (by kernel_rfl) (fun _ _ _ h => h) (.inr ⟨_, _, 171, rfl, rfl, rfl⟩) rfl (fun _ h => h) (Yv.mul rfl rfl (by omega)) ?_
              refine HW.run 35 rfl (by kernel_rfl) _ (.inr ⟨_, _, 171, rfl, rfl, rfl⟩) rfl (Ow.call e39 rfl (C.val (fun w hs => restFlow R (csrD n.toNat (mergeL l) out) _ _ hao hF (k : Nat) _ (IsRest.of (hs.hold 0 _ rfl) (hs.now 1 rfl))))) (by rintro _ _ ⟨rfl, rfl⟩ w h; exact h) ?_
              rintro _ _ ⟨rfl, rfl⟩
              refine HW.run 44 rfl (by kernel_rfl) _ (.inr ⟨_, _, 171, rfl, rfl, rfl⟩) rfl (Ow.call e37 rfl (C.val (fun w hs => restLeftT R (csrD n.toNat (mergeL l) out) _ _ (2 * (k : Int)) _ (IsRest.of (hs.hold 0 _ rfl) (hs.now 1 rfl)) hae))) (by rintro _ _ ⟨rfl, rfl⟩ w h; exact h) ?_
              rintro _ _ ⟨rfl, rfl⟩
              refine HW.take 45 rfl (by kernel_rfl) (by kernel_rfl) (by kernel_rfl) (fun _ _ _ h => h) (.inr ⟨_, _, 171, rfl, rfl, rfl⟩) rfl (fun _ h => h) (Yv.sub rfl rfl (by omega)) ?_
              refine HW.take 46 rfl (by kernel_rfl) (by kernel_rfl) (by kernel_rfl) (fun _ _ _ h => h) (.inr ⟨_, _, 171, rfl, rfl, rfl⟩) rfl (fun _ h => h) (Yv.ne rfl rfl) ?_
              refine HW.take 47 rfl (by kernel_rfl) (by kernel_rfl) (by kernel_rfl) (fun _ _ _ h => h) (.inl rfl) rfl (fun _ h => h) (Yv.pickF rfl rfl) ?_
              refine HW.done (by kernel_rfl) ?_
              refine PW.go ?_
              refine CW.condD rfl (fun hc186 => ?_) (fun hc186 => ?_)
              ·
                rw [atI_nat] at hc186; omega
              ·
                refine CW.skip ?_
                refine PW.block ?_
                refine PW.go ?_
                refine CW.region ?_
                refine RW.y (.inl rfl) rfl (Yv.move rfl) ?_
                refine RW.y (.inl rfl) rfl (Yv.add rfl rfl (by omega)) ?_
                refine RW.y (.inl rfl) rfl (Yv.assign rfl) ?_
                refine RW.nil ?_
                exact PW.next (k + 1) (by omega) ⟨rfl, rfl, rfl, rfl, rfl, rfl, trivial⟩ (fun w h => h) (by omega)
            ·
              refine CW.exit ?_
              refine PW.then_exit ?_
              refine PW.then_exit ?_
              refine PW.block_exit ?_
              refine PW.go ?_
              refine CW.seq ?_
              have hsum := exc_sum n.toNat (mergeL l) f (fun e he => by have := hao.rng e he; omega)
              have hve : v = n.toNat := by omega
              refine CW.region ?_
              refine RW.y (.inl rfl) rfl (Yv.move rfl) ?_
              refine RW.y (.inl rfl) rfl (Yv.eq rfl rfl) ?_
              refine RW.y (.inl rfl) rfl (Yv.move rfl) ?_
              refine RW.isT 189 rfl (by rw [hve]; exact hsum) ?_
              refine RW.o _ (.inr ⟨_, _, 189, rfl, rfl, rfl⟩) rfl (Ow.call e44 rfl (C.val (fun w hs => awake23 _))) ?_
              rintro _ _ ⟨rfl, rfl⟩
              refine RW.y (.inl rfl) rfl (Yv.pickT rfl rfl) ?_
              refine RW.y (.inl rfl) rfl (Yv.assign rfl) ?_
              refine RW.nil ?_
              refine PW.go ?_
              refine CW.ret ?_
              refine PW.ret1 Try.results6 rfl (fun w1 hs => ?_)
              exact ⟨by first | rfl | simp, hs.mod.below⟩

theorem residTwiceLaw (n : Int) (hn : 0 ≤ n ∧ n ≤ 255) (A : Option Addr) (c : Nat) (l : List Edg) (B : Option Addr) (d : Nat) (ops : List (Int × Int)) (w : World) (hr : l.length ≤ 4611686018427387904 → Rd w A 3 l.length (cellsE l)) (hrO : ops.length ≤ 4611686018427387904 → Rd w B 2 ops.length (cellsA ops)) :
    Calls Try.prog 6 #[.int .u8 n, .slice A l.length c, .slice B ops.length d] w fun e w1 => e = .returned (.bool true) ∧ Gr w w1 := by
  by_cases hl : 40 < l.length ∨ 40 < ops.length
  · exact residTwice_long n A B c d l.length ops.length w hl
  · have r := hr (by omega)
    have ro := hrO (by omega)
    obtain ⟨k, i, h⟩ := newE_total n l
    by_cases z : k = 0
    · subst z; exact residTwice_ok n hn A c l B d ops w r ro (by omega) (by omega) (newE_ok h).1
    · exact residTwice_err n hn A c l B d ops w r ro (by omega) (by omega) k i z h

end Go.Proofs.Ytipoblpnkkcpgaa
