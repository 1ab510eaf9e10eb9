/- Walks, written by a program of this session (gen.py) out of a spec. -/
import Derived.Test.YtipoblpnkkcpgaaRef40
import Derived.Test.YtipoblpnkkcpgaaNet4
import Derived.Test.YtipoblpnkkcpgaaNet2
set_option linter.unusedVariables false
set_option linter.unusedSimpArgs false
namespace Go.Proofs.Ytipoblpnkkcpgaa
open Go Go.RowKit Go.Proofs.Ytipoblpnkkcpgaa.B

theorem newOk_of {n : Int} {l : List Edg} (h0 : 0 ≤ n) (hn : n ≤ 4096) (hl : l.length ≤ 1048576) (hc : ∀ e ∈ l, chkE n e = 0) : NewOk n l := ⟨h0, hn, hl, .inl ⟨rfl, rfl, hc⟩⟩
theorem netOf_sorted (n : Int) (l : List Edg) : sortedE (netOf n l).l := (sumAll_ok l).1.filter _
theorem arcsOk_nil : ArcsOk 0 [] := ⟨by simp, List.Pairwise.nil, by simp, by omega, by simp⟩
theorem nilN (w : World) : ∀ w', Gr w w' → Calls Try.prog 31 #[.pointer none] w' fun e w1 => e = .returned (.int .i64 ((0 : Nat) : Int)) ∧ Gr w' w1 := fun w' _ => netN_nil w'
theorem nilE (w : World) : ∀ w', Gr w w' → Calls Try.prog 33 #[.pointer none] w' fun e w1 => ∃ v, e = .returned v ∧ Gr w' w1 ∧ ∃ F, (row v 72 3 ([] : List Edg).length (cellsE [])).holds w1 F ∧ ∀ k, F k → w'.heap.size ≤ k ∧ k < w1.heap.size :=
  fun w' _ => (netEdges_nil w').mono fun e w1 ⟨he, hb⟩ => ⟨_, he, hb, none0, ⟨World.ownsRow_nil w1 0 72 3, fun k => ⟨fun h => h.elim, fun h => by simp [Value.ownBlock] at h⟩⟩, fun k h => h.elim⟩
theorem gN {w : World} {b : Nat} {G : NetD} (hN : IsNet w b G) : ∀ w', Gr w w' → Calls Try.prog 31 #[.pointer (some ⟨b, 0, none⟩)] w' fun e w1 => e = .returned (.int .i64 (G.n : Int)) ∧ Gr w' w1 := fun w' hg => netN b G w' (hN.below hg)
theorem gE {w : World} {b : Nat} {G : NetD} (hN : IsNet w b G) : ∀ w', Gr w w' → Calls Try.prog 33 #[.pointer (some ⟨b, 0, none⟩)] w' fun e w1 => ∃ v, e = .returned v ∧ Gr w' w1 ∧ ∃ F, (row v 72 3 G.l.length (cellsE G.l)).holds w1 F ∧ ∀ k, F k → w'.heap.size ≤ k ∧ k < w1.heap.size := fun w' hg => netEdges b G w' (hN.below hg)
theorem netEdgesIs (b : Nat) (G : NetD) (w : World) (hN : IsNet w b G) {xs : List Edg} (hx : G.l = xs) : Calls Try.prog 33 #[.pointer (some ⟨b, 0, none⟩)] w fun e w1 => ∃ v, e = .returned v ∧ Gr w w1 ∧ ∃ F, (row v 72 3 xs.length (cellsE xs)).holds w1 F ∧ ∀ k, F k → w.heap.size ≤ k ∧ k < w1.heap.size := by
  subst hx; exact netEdges b G w hN
def awk40 : List Edg := [⟨0, 1, 1⟩, ⟨1, 2, 1⟩, ⟨0, 2, 1⟩]
theorem awk40_ok : NewOk 3 awk40 := newOk_of (by decide) (by decide) (by decide) (by decide)
theorem newOk_tot {n : Int} {l : List Edg} (h : NewOk n l) (hl : l.length ≤ 60) : totalW (mergeL l) ≤ 8796093022208 := by
  have h1 := mergeL_total h.nonneg
  have h2 := total_le (l := l) (B := 2147483648) (fun e he => (chkE_zero (h.all e he)).2.2.2.2.2)
  omega

set_option maxRecDepth 100000 in
theorem awake40 (w : World) : Calls Try.prog 27 #[] w fun e w1 => e = .returned (.bool true) ∧ Gr w w1 := by
  refine CW.enter (P := Try.prog) (F0 := none0) (L := []) 47 [] Try.func27 rfl Try.ntmps27 (Nat.le_of_ble_eq_true rfl) (St.start w none0) rfl ?_
  refine CW.seq ?_
  refine CW.region ?_
  refine RW.y (.inl rfl) rfl (Yv.assign rfl) ?_
  refine RW.nil ?_
  refine PW.go ?_
  refine CW.seq ?_
  refine CW.region ?_
  refine RW.y (.inl rfl) rfl (Yv.build rfl (fun w => by exact bld72_1_2 _ _ w)) ?_
  refine RW.y (.inl rfl) rfl (Yv.build rfl (fun w => by exact bld72_0_1_2 _ _ _ w)) ?_
  refine RW.y (.inl rfl) rfl (Yv.build rfl (fun w => by exact bld72_1_2 _ _ w)) ?_
  refine RW.o _ (.inl rfl) rfl (Ow.lit (len := 3) (vs := [_, _, _]) (cs := [_, _, _, _, _, _, _, _, _]) Try.underlying22 info72 rfl rfl rfl rfl rfl rfl rfl) ?_
  rintro _ _ ⟨b11, rfl, rfl⟩
  refine RW.o _ (.inl rfl) rfl (Ow.call e8 rfl (C.new (val := fun (b : Nat) => .tuple #[.pointer (some ⟨b, 0, none⟩), .int .i64 0, .int .i64 0]) (φ := fun _ => True) (Ψ := fun b => nowA (fun w' => IsNet w' b (netOf 3 awk40))) (fun w2 hs => (netNew_ok 3 (some ⟨b11, 0, none⟩) 3 awk40 w2 (hs.blk_Rd 0 rfl rfl (by decide)) awk40_ok).mono (fun en w3 ⟨b, ht, he, hb, F, hF, hk⟩ => ⟨b, ht, he, hb, F, hF, hk⟩)))) ?_
  rintro _ _ ⟨bg, -, rfl, rfl⟩
  refine RW.y (.inl rfl) rfl (Yv.move rfl) ?_
  refine RW.y (.inl rfl) rfl (Yv.extract rfl rfl) ?_
  refine RW.y (.inl rfl) rfl (Yv.extract rfl rfl) ?_
  refine RW.y (.inl rfl) rfl (Yv.extract rfl rfl) ?_
  refine RW.y (.inl rfl) rfl (Yv.assign rfl) ?_
  refine RW.y (.inl rfl) rfl (Yv.assign rfl) ?_
  refine RW.y (.inl rfl) rfl (Yv.assign rfl) ?_
  refine RW.nil ?_
  refine PW.go ?_
  refine CW.seq ?_
  refine CW.region ?_
  refine RW.y (.inl rfl) rfl (Yv.move rfl) ?_
  refine RW.o _ (.inl rfl) rfl (Ow.call e29 rfl (C.new (val := fun (x : Nat × Value) => .tuple #[.pointer (some ⟨x.1, 0, none⟩), x.2, .int .i64 0]) (φ := fun _ => True) (Ψ := fun x => Ass.star (nowA (fun w' => IsNet w' x.1 (netOf ((((3 : Int).toNat : Nat) : Int) - 1) (splitL (mergeL (renL (pairNm (3 : Int).toNat 1 0) (mergeL awk40))))))) (row x.2 3 1 ((3 : Int).toNat) (i64s (pairNm (3 : Int).toNat 1 0)))) (fun w2 hs => contractPair _ (3 : Int).toNat (mergeL awk40) awk40_ok.arcs (by decide) (by decide) 1 0 w2 (gN (hs.now 0 rfl)) (gE (hs.now 0 rfl)) (by decide)))) ?_
  rintro _ _ ⟨⟨bp, vp⟩, -, rfl, rfl⟩
  refine RW.mem _ (fun w h => h.split) ?_
  refine RW.facts _ (fun w h => h.row_slice 1 rfl) ?_
  rintro ⟨An, cn, rfl⟩
  refine RW.y (.inl rfl) rfl (Yv.move rfl) ?_
  refine RW.y (.inl rfl) rfl (Yv.extract rfl rfl) ?_
  refine RW.y (.inl rfl) rfl (Yv.extract rfl rfl) ?_
  refine RW.y (.inl rfl) rfl (Yv.extract rfl rfl) ?_
  refine RW.y (.inl rfl) rfl (Yv.assign rfl) ?_
  refine RW.y (.inl rfl) rfl (Yv.assign rfl) ?_
  refine RW.y (.inl rfl) rfl (Yv.assign rfl) ?_
  refine RW.nil ?_
  refine PW.go ?_
  refine CW.seq ?_
  refine CW.region ?_
  refine RW.y (.inl rfl) rfl (Yv.move rfl) ?_
  refine RW.y (.inl rfl) rfl (Yv.eq rfl rfl) ?_
  refine RW.y (.inl rfl) rfl (Yv.move rfl) ?_
  refine RW.isB (c := true) 24 rfl (by first | rfl | exact decide_eq_true (by first | rfl | decide)) ?_
  refine RW.y (.inr ⟨_, _, 24, rfl, rfl, rfl⟩) rfl (Yv.move rfl) ?_
  refine RW.y (.inr ⟨_, _, 24, rfl, rfl, rfl⟩) rfl (Yv.eq rfl rfl) ?_
  refine RW.y (.inl rfl) rfl (Yv.pickT rfl rfl) ?_
  refine RW.y (.inl rfl) rfl (Yv.move rfl) ?_
  refine RW.isB (c := true) 28 rfl (by first | rfl | exact decide_eq_true (by first | rfl | decide)) ?_
  refine RW.y (.inr ⟨_, _, 28, rfl, rfl, rfl⟩) rfl (Yv.move rfl) ?_
  refine RW.y (.inr ⟨_, _, 28, rfl, rfl, rfl⟩) rfl (Yv.ptrNotNil Try.underlying25 rfl rfl) ?_
  refine RW.y (.inl rfl) rfl (Yv.pickT rfl rfl) ?_
  refine RW.y (.inl rfl) rfl (Yv.move rfl) ?_
  refine RW.isB (c := true) 32 rfl (by first | rfl | exact decide_eq_true (by first | rfl | decide)) ?_
  refine RW.y (.inr ⟨_, _, 32, rfl, rfl, rfl⟩) rfl (Yv.move rfl) ?_
  refine RW.o _ (.inr ⟨_, _, 32, rfl, rfl, rfl⟩) rfl (Ow.call e31 rfl (C.val (fun w hs => netN bp (netOf ((((3 : Int).toNat : Nat) : Int) - 1) (splitL (mergeL (renL (pairNm (3 : Int).toNat 1 0) (mergeL awk40))))) _ (hs.now 0 rfl)))) ?_
  rintro _ _ ⟨rfl, rfl⟩
  refine RW.y (.inr ⟨_, _, 32, rfl, rfl, rfl⟩) rfl (Yv.eq rfl rfl) ?_
  refine RW.y (.inl rfl) rfl (Yv.pickT rfl rfl) ?_
  refine RW.y (.inl rfl) rfl (Yv.move rfl) ?_
  refine RW.isB (c := true) 37 rfl (by first | rfl | exact decide_eq_true (by first | rfl | decide)) ?_
  refine RW.y (.inr ⟨_, _, 37, rfl, rfl, rfl⟩) rfl (Yv.move rfl) ?_
  refine RW.o _ (.inr ⟨_, _, 37, rfl, rfl, rfl⟩) rfl (Ow.call e57 rfl (C.val (fun w hs => netWeight bp (netOf ((((3 : Int).toNat : Nat) : Int) - 1) (splitL (mergeL (renL (pairNm (3 : Int).toNat 1 0) (mergeL awk40))))) 0 1 _ (hs.now 0 rfl) (netOf_sorted _ _)))) ?_
  rintro _ _ ⟨rfl, rfl⟩
  refine RW.y (.inr ⟨_, _, 37, rfl, rfl, rfl⟩) rfl (Yv.eq rfl rfl) ?_
  refine RW.y (.inl rfl) rfl (Yv.pickT rfl rfl) ?_
  refine RW.y (.inl rfl) rfl (Yv.move rfl) ?_
  refine RW.isB (c := true) 42 rfl (by first | rfl | exact decide_eq_true (by first | rfl | decide)) ?_
  refine RW.y (.inr ⟨_, _, 42, rfl, rfl, rfl⟩) rfl (Yv.move rfl) ?_
  refine RW.o _ (.inr ⟨_, _, 42, rfl, rfl, rfl⟩) rfl (Ow.lit (len := 3) (vs := [_, _, _]) (cs := [_, _, _]) Try.underlying32 info3 rfl rfl rfl rfl rfl rfl rfl) ?_
  rintro _ _ ⟨b44, rfl, rfl⟩
  refine RW.o _ (.inr ⟨_, _, 42, rfl, rfl, rfl⟩) rfl (Ow.call e20 rfl (C.val (fun w hs => ref09Ints _ An cn (pairNm (3 : Int).toNat 1 0) (hs.row_Rd 2 rfl (by decide)) (some ⟨b44, 0, none⟩) 3 [0, 0, 1] (hs.blk_Rd 0 rfl rfl (by decide))))) ?_
  rintro _ _ ⟨rfl, rfl⟩
  refine RW.y (.inl rfl) rfl (Yv.pickT rfl rfl) ?_
  refine RW.y (.inl rfl) rfl (Yv.assign rfl) ?_
  refine RW.nil ?_
  refine PW.go ?_
  refine CW.ret ?_
  refine PW.ret1 Try.results27 rfl (fun w1 hs => ?_)
  exact ⟨by first | rfl | (rw [decide_eq_true (by decide)]), hs.mod.below⟩

set_option maxRecDepth 100000 in
theorem contractTells_long (n K U W : Int) (A B : Option Addr) (c d m mn : Nat) (w : World) (h : 60 < m ∨ 300 < mn ∨ 300 < K) : Calls Try.prog 5 #[.int .u8 n, .slice A m c, .agg #[.int .i64 K, .slice B mn d, .int .i64 U, .int .i64 W]] w fun e w1 => e = .returned (.bool true) ∧ Gr w w1 := by
  refine CW.enter (P := Try.prog) (F0 := none0) (L := [(0, _), (1, _), (2, _)]) 180 [] Try.func5 rfl Try.ntmps5 (Nat.le_of_ble_eq_true rfl) (St.start w none0) rfl ?_
  refine CW.seq ?_
  refine CW.region ?_
  refine RW.o _ (.inl rfl) rfl (Ow.box (cs := [_, _, _, _]) rfl rfl) ?_
  rintro _ _ ⟨b5, rfl, rfl⟩
  refine RW.y (.inl rfl) rfl (Yv.assign rfl) ?_
  refine RW.nil ?_
  refine PW.go ?_
  refine CW.seq ?_
  refine CW.seq ?_
  refine CW.region ?_
  refine RW.y (.inl rfl) rfl (Yv.move rfl) ?_
  refine RW.y (.inl rfl) rfl (Yv.len Try.underlying22 rfl) ?_
  refine RW.y (.inl rfl) rfl (Yv.gt rfl rfl) ?_
  refine RW.y (.inl rfl) rfl (Yv.move rfl) ?_
  refine RW.splitD 27 rfl (fun hc27 => ?_) (fun hc27 => ?_)
  ·
    refine RW.no ⟨_, _, 27, _, rfl, rfl, rfl, fun h => by simp [undef] at h⟩ rfl ?_
    refine RW.no ⟨_, _, 27, _, rfl, rfl, rfl, fun h => by simp [undef] at h⟩ rfl ?_
    refine RW.no ⟨_, _, 27, _, rfl, rfl, rfl, fun h => by simp [undef] at h⟩ rfl ?_
    refine RW.no ⟨_, _, 27, _, rfl, rfl, rfl, fun h => by simp [undef] at h⟩ rfl ?_
    refine RW.y (.inl rfl) rfl (Yv.pickT rfl rfl) ?_
    refine RW.y (.inl rfl) rfl (Yv.move rfl) ?_
    refine RW.no ⟨_, _, 33, _, rfl, rfl, rfl, fun h => by simp [undef] at h⟩ rfl ?_
    refine RW.no ⟨_, _, 33, _, rfl, rfl, rfl, fun h => by simp [undef] at h⟩ rfl ?_
    refine RW.no ⟨_, _, 33, _, rfl, rfl, rfl, fun h => by simp [undef] at h⟩ rfl ?_
    refine RW.y (.inl rfl) rfl (Yv.pickT rfl rfl) ?_
    refine RW.nil ?_
    refine PW.go ?_
    refine CW.condT rfl ?_
    refine CW.seq ?_
    refine CW.region ?_
    refine RW.o _ (.inl rfl) rfl (Ow.call e27 rfl (C.val (fun w hs => awake40 _))) ?_
    rintro _ _ ⟨rfl, rfl⟩
    refine RW.y (.inl rfl) rfl (Yv.assign rfl) ?_
    refine RW.nil ?_
    refine PW.go ?_
    refine CW.ret ?_
    refine PW.then_ret ?_
    refine PW.ret1 Try.results5 rfl (fun w1 hs => ?_)
    exact ⟨rfl, hs.mod.below⟩
  ·
    refine RW.y (.inr ⟨_, _, 27, rfl, rfl, rfl⟩) rfl (Yv.fieldAddr Try.underlying48 rfl Try.sizeOf32 rfl rfl) ?_
    refine RW.y (.inr ⟨_, _, 27, rfl, rfl, rfl⟩) rfl (Yv.load1 Try.isAgg32 rfl (CF.blk 0 rfl rfl)) ?_
    refine RW.y (.inr ⟨_, _, 27, rfl, rfl, rfl⟩) rfl (Yv.len Try.underlying32 rfl) ?_
    refine RW.y (.inr ⟨_, _, 27, rfl, rfl, rfl⟩) rfl (Yv.gt rfl rfl) ?_
    refine RW.y (.inl rfl) rfl (Yv.pickF rfl rfl) ?_
    refine RW.y (.inl rfl) rfl (Yv.move rfl) ?_
    refine RW.splitD 33 rfl (fun hc33 => ?_) (fun hc33 => ?_)
    ·
      refine RW.no ⟨_, _, 33, _, rfl, rfl, rfl, fun h => by simp [undef] at h⟩ rfl ?_
      refine RW.no ⟨_, _, 33, _, rfl, rfl, rfl, fun h => by simp [undef] at h⟩ rfl ?_
      refine RW.no ⟨_, _, 33, _, rfl, rfl, rfl, fun h => by simp [undef] at h⟩ rfl ?_
      refine RW.y (.inl rfl) rfl (Yv.pickT rfl rfl) ?_
      refine RW.nil ?_
      refine PW.go ?_
      refine CW.condT rfl ?_
      refine CW.seq ?_
      refine CW.region ?_
      refine RW.o _ (.inl rfl) rfl (Ow.call e27 rfl (C.val (fun w hs => awake40 _))) ?_
      rintro _ _ ⟨rfl, rfl⟩
      refine RW.y (.inl rfl) rfl (Yv.assign rfl) ?_
      refine RW.nil ?_
      refine PW.go ?_
      refine CW.ret ?_
      refine PW.then_ret ?_
      refine PW.ret1 Try.results5 rfl (fun w1 hs => ?_)
      exact ⟨rfl, hs.mod.below⟩
    ·
      refine RW.y (.inr ⟨_, _, 33, rfl, rfl, rfl⟩) rfl (Yv.fieldAddr Try.underlying48 rfl Try.sizeOf3 rfl rfl) ?_
      refine RW.y (.inr ⟨_, _, 33, rfl, rfl, rfl⟩) rfl (Yv.load1 Try.isAgg3 rfl (CF.blk 0 rfl rfl)) ?_
      refine RW.y (.inr ⟨_, _, 33, rfl, rfl, rfl⟩) rfl (Yv.gt rfl rfl) ?_
      refine RW.y (.inl rfl) rfl (Yv.pickF rfl rfl) ?_
      refine RW.nil ?_
      refine PW.go ?_
      refine CW.condD rfl (fun hc37 => ?_) (fun hc37 => ?_)
      ·
        refine CW.seq ?_
        refine CW.region ?_
        refine RW.o _ (.inl rfl) rfl (Ow.call e27 rfl (C.val (fun w hs => awake40 _))) ?_
        rintro _ _ ⟨rfl, rfl⟩
        refine RW.y (.inl rfl) rfl (Yv.assign rfl) ?_
        refine RW.nil ?_
        refine PW.go ?_
        refine CW.ret ?_
        refine PW.then_ret ?_
        refine PW.ret1 Try.results5 rfl (fun w1 hs => ?_)
        exact ⟨rfl, hs.mod.below⟩
      ·
        omega

set_option maxRecDepth 100000 in
theorem contractTells_err (n : Int) (hn : 0 ≤ n ∧ n ≤ 255) (A : Option Addr) (c : Nat) (l : List Edg) (K U W : Int) (hK : -9223372036854775808 ≤ K ∧ K ≤ 9223372036854775807) (hU : -9223372036854775808 ≤ U ∧ U ≤ 9223372036854775807) (hW : -9223372036854775808 ≤ W ∧ W ≤ 9223372036854775807) (B : Option Addr) (d : Nat) (name : List Int) (w : World) (hr : Rd w A 3 l.length (cellsE l)) (hrn : Rd w B 1 name.length (i64s name)) (hl60 : l.length ≤ 60) (hnm : name.length ≤ 300) (hK3 : K ≤ 300) (k : Int) (i : Nat) (hk : k ≠ 0) (he : NewE n l k i) : Calls Try.prog 5 #[.int .u8 n, .slice A l.length c, .agg #[.int .i64 K, .slice B name.length d, .int .i64 U, .int .i64 W]] w fun e w1 => e = .returned (.bool true) ∧ Gr w w1 := by
  refine CW.enter (P := Try.prog) (F0 := none0) (L := [(0, _), (1, _), (2, _)]) 180 [] Try.func5 rfl Try.ntmps5 (Nat.le_of_ble_eq_true rfl) (St.start w none0) rfl ?_
  refine CW.seq ?_
  refine CW.region ?_
  refine RW.o _ (.inl rfl) rfl (Ow.box (cs := [_, _, _, _]) rfl rfl) ?_
  rintro _ _ ⟨b5, rfl, rfl⟩
  refine RW.y (.inl rfl) rfl (Yv.assign rfl) ?_
  refine RW.nil ?_
  refine PW.go ?_
  refine CW.seq ?_
  refine CW.seq ?_
  refine CW.region ?_
  refine RW.y (.inl rfl) rfl (Yv.move rfl) ?_
  refine RW.y (.inl rfl) rfl (Yv.len Try.underlying22 rfl) ?_
  refine RW.y (.inl rfl) rfl (Yv.gt rfl rfl) ?_
  refine RW.y (.inl rfl) rfl (Yv.move rfl) ?_
  refine RW.isF 27 rfl (by omega) ?_
  refine RW.y (.inr ⟨_, _, 27, rfl, rfl, rfl⟩) rfl (Yv.fieldAddr Try.underlying48 rfl Try.sizeOf32 rfl rfl) ?_
  refine RW.y (.inr ⟨_, _, 27, rfl, rfl, rfl⟩) rfl (Yv.load1 Try.isAgg32 rfl (CF.blk 0 rfl rfl)) ?_
  refine RW.y (.inr ⟨_, _, 27, rfl, rfl, rfl⟩) rfl (Yv.len Try.underlying32 rfl) ?_
  refine RW.y (.inr ⟨_, _, 27, rfl, rfl, rfl⟩) rfl (Yv.gt rfl rfl) ?_
  refine RW.y (.inl rfl) rfl (Yv.pickF rfl rfl) ?_
  refine RW.y (.inl rfl) rfl (Yv.move rfl) ?_
  refine RW.isF 33 rfl (by omega) ?_
  refine RW.y (.inr ⟨_, _, 33, rfl, rfl, rfl⟩) rfl (Yv.fieldAddr Try.underlying48 rfl Try.sizeOf3 rfl rfl) ?_
  refine RW.y (.inr ⟨_, _, 33, rfl, rfl, rfl⟩) rfl (Yv.load1 Try.isAgg3 rfl (CF.blk 0 rfl rfl)) ?_
  refine RW.y (.inr ⟨_, _, 33, rfl, rfl, rfl⟩) rfl (Yv.gt rfl rfl) ?_
  refine RW.y (.inl rfl) rfl (Yv.pickF rfl rfl) ?_
  refine RW.nil ?_
  refine PW.go ?_
  refine CW.condD rfl (fun hc37 => ?_) (fun hc37 => ?_)
  ·
    omega
  ·
    refine CW.skip ?_
    refine PW.go ?_
    refine CW.seq ?_
    refine CW.region ?_
    refine RW.y (.inl rfl) rfl (Yv.move rfl) ?_
    refine RW.y (.inl rfl) rfl (Yv.conv64 Try.underlying5 Try.underlying3 rfl (by omega)) ?_
    refine RW.y (.inl rfl) rfl (Yv.move rfl) ?_
    refine RW.o _ (.inl rfl) rfl (Ow.call e8 rfl (C.val (fun w hs => netNew_err n A c l _ (hr.below hs.mod.below) k i hk he))) ?_
    rintro _ _ ⟨rfl, rfl⟩
    refine RW.y (.inl rfl) rfl (Yv.move rfl) ?_
    refine RW.y (.inl rfl) rfl (Yv.extract rfl rfl) ?_
    refine RW.y (.inl rfl) rfl (Yv.extract rfl rfl) ?_
    refine RW.y (.inl rfl) rfl (Yv.extract rfl rfl) ?_
    refine RW.y (.inl rfl) rfl (Yv.assign rfl) ?_
    refine RW.y (.inl rfl) rfl (Yv.assign rfl) ?_
    refine RW.y (.inl rfl) rfl (Yv.assign rfl) ?_
    refine RW.nil ?_
    refine PW.go ?_
    refine CW.seq ?_
    refine CW.seq ?_
    refine CW.region ?_
    refine RW.y (.inl rfl) rfl (Yv.move rfl) ?_
    refine RW.y (.inl rfl) rfl (Yv.ne rfl rfl) ?_
    refine RW.nil ?_
    refine PW.go ?_
    refine CW.condD rfl (fun hc48 => ?_) (fun hc48 => ?_)
    ·
      refine CW.seq ?_
      refine CW.region ?_
      refine RW.o _ (.inl rfl) rfl (Ow.call e28 rfl (C.new (val := fun (b : Nat) => .tuple #[.pointer (some ⟨b, 0, none⟩), .int .i64 0]) (φ := fun _ => True) (Ψ := fun b => nowA (fun w' => IsNet w' b (netOf (0) (splitL (mergeL (renL [] [])))))) (fun w2 hs => contractOf (.pointer none) 0 [] arcsOk_nil (by decide) (by decide) 0 none 0 [] w2 (Rd.nil _ _ _) (nilN w2) (nilE w2) ⟨rfl, by decide⟩))) ?_
      rintro _ _ ⟨bh, -, rfl, rfl⟩
      refine RW.y (.inl rfl) rfl (Yv.move rfl) ?_
      refine RW.y (.inl rfl) rfl (Yv.extract rfl rfl) ?_
      refine RW.y (.inl rfl) rfl (Yv.extract rfl rfl) ?_
      refine RW.y (.inl rfl) rfl (Yv.assign rfl) ?_
      refine RW.y (.inl rfl) rfl (Yv.assign rfl) ?_
      refine RW.nil ?_
      refine PW.go ?_
      refine CW.seq ?_
      refine CW.region ?_
      refine RW.o _ (.inl rfl) rfl (Ow.call e29 rfl (C.val (fun w hs => contractPair_err (.pointer none) 0 0 1 (by omega) (by omega) _ (nilN _) (by omega)))) ?_
      rintro _ _ ⟨rfl, rfl⟩
      refine RW.y (.inl rfl) rfl (Yv.move rfl) ?_
      refine RW.y (.inl rfl) rfl (Yv.extract rfl rfl) ?_
      refine RW.y (.inl rfl) rfl (Yv.extract rfl rfl) ?_
      refine RW.y (.inl rfl) rfl (Yv.extract rfl rfl) ?_
      refine RW.y (.inl rfl) rfl (Yv.assign rfl) ?_
      refine RW.y (.inl rfl) rfl (Yv.assign rfl) ?_
      refine RW.y (.inl rfl) rfl (Yv.assign rfl) ?_
      refine RW.nil ?_
      refine PW.go ?_
      refine CW.seq ?_
      refine CW.region ?_
      refine RW.y (.inl rfl) rfl (Yv.move rfl) ?_
      refine RW.y (.inl rfl) rfl (Yv.eq rfl rfl) ?_
      refine RW.y (.inl rfl) rfl (Yv.move rfl) ?_
      refine RW.isT 60 rfl (rfl) ?_
      refine RW.y (.inr ⟨_, _, 60, rfl, rfl, rfl⟩) rfl (Yv.move rfl) ?_
      refine RW.y (.inr ⟨_, _, 60, rfl, rfl, rfl⟩) rfl (Yv.eq rfl rfl) ?_
      refine RW.y (.inl rfl) rfl (Yv.pickT rfl rfl) ?_
      refine RW.y (.inl rfl) rfl (Yv.move rfl) ?_
      refine RW.isT 64 rfl (by decide) ?_
      refine RW.o _ (.inr ⟨_, _, 64, rfl, rfl, rfl⟩) rfl (Ow.call e27 rfl (C.val (fun w hs => awake40 _))) ?_
      rintro _ _ ⟨rfl, rfl⟩
      refine RW.y (.inl rfl) rfl (Yv.pickT rfl rfl) ?_
      refine RW.y (.inl rfl) rfl (Yv.assign rfl) ?_
      refine RW.nil ?_
      refine PW.go ?_
      refine CW.ret ?_
      refine PW.then_ret ?_
      refine PW.ret1 Try.results5 rfl (fun w1 hs => ?_)
      exact ⟨rfl, hs.mod.below⟩
    ·
      exact absurd hk hc48

set_option maxRecDepth 100000 in
theorem ct_oo (n : Int) (hn : 0 ≤ n ∧ n ≤ 255) (A : Option Addr) (c : Nat) (l : List Edg) (K U W : Int) (hK : -9223372036854775808 ≤ K ∧ K ≤ 9223372036854775807) (hU : -9223372036854775808 ≤ U ∧ U ≤ 9223372036854775807) (hW : -9223372036854775808 ≤ W ∧ W ≤ 9223372036854775807) (B : Option Addr) (d : Nat) (name : List Int) (w : World) (hr : Rd w A 3 l.length (cellsE l)) (hrn : Rd w B 1 name.length (i64s name)) (hl60 : l.length ≤ 60) (hnm : name.length ≤ 300) (hK3 : K ≤ 300) (hok : NewOk n l) (hb1 : name.length = n.toNat ∧ namB K name = true) (hb2 : (0 ≤ U ∧ U < (n.toNat : Int)) ∧ (0 ≤ W ∧ W < (n.toNat : Int)) ∧ U ≠ W) : Calls Try.prog 5 #[.int .u8 n, .slice A l.length c, .agg #[.int .i64 K, .slice B name.length d, .int .i64 U, .int .i64 W]] w fun e w1 => e = .returned (.bool true) ∧ Gr w w1 := by
  have hml := mergeL_length l
  have hao := hok.arcs
  have htt := newOk_tot hok hl60
  have hnn : nonneg (mergeL l) := fun e he => (hao.wts e he).1
  have hrl := renL_length name (mergeL l)
  have hml2 := mergeL_length (renL name (mergeL l))
  have hml3 := mergeL_length (renL (pairNm n.toNat U W) (mergeL l))
  have hrl3 := renL_length (pairNm n.toNat U W) (mergeL l)
  have hms := merge_split (renL_nonneg (name := name) hnn)
  have hms2 := merge_split (renL_nonneg (name := pairNm n.toNat U W) hnn)
  have hpl := pairNm_length n.toNat U W
  have hnt : ((n.toNat : Nat) : Int) = n := by omega
  have hnb := (namB_iff K name).1 hb1.2
  have hpb := pair_nam (n := n.toNat) (u := U) (v := W) (by omega) hb2.1 hb2.2.1 hb2.2.2
  refine CW.enter (P := Try.prog) (F0 := none0) (L := [(0, _), (1, _), (2, _)]) 180 [] Try.func5 rfl Try.ntmps5 (Nat.le_of_ble_eq_true rfl) (St.start w none0) rfl ?_
  refine CW.seq ?_
  refine CW.region ?_
  refine RW.o _ (.inl rfl) rfl (Ow.box (cs := [_, _, _, _]) rfl rfl) ?_
  rintro _ _ ⟨b5, rfl, rfl⟩
  refine RW.y (.inl rfl) rfl (Yv.assign rfl) ?_
  refine RW.nil ?_
  refine PW.go ?_
  refine CW.seq ?_
  refine CW.seq ?_
  refine CW.region ?_
  refine RW.y (.inl rfl) rfl (Yv.move rfl) ?_
  refine RW.y (.inl rfl) rfl (Yv.len Try.underlying22 rfl) ?_
  refine RW.y (.inl rfl) rfl (Yv.gt rfl rfl) ?_
  refine RW.y (.inl rfl) rfl (Yv.move rfl) ?_
  refine RW.isF 27 rfl (by omega) ?_
  refine RW.y (.inr ⟨_, _, 27, rfl, rfl, rfl⟩) rfl (Yv.fieldAddr Try.underlying48 rfl Try.sizeOf32 rfl rfl) ?_
  refine RW.y (.inr ⟨_, _, 27, rfl, rfl, rfl⟩) rfl (Yv.load1 Try.isAgg32 rfl (CF.blk 0 rfl rfl)) ?_
  refine RW.y (.inr ⟨_, _, 27, rfl, rfl, rfl⟩) rfl (Yv.len Try.underlying32 rfl) ?_
  refine RW.y (.inr ⟨_, _, 27, rfl, rfl, rfl⟩) rfl (Yv.gt rfl rfl) ?_
  refine RW.y (.inl rfl) rfl (Yv.pickF rfl rfl) ?_
  refine RW.y (.inl rfl) rfl (Yv.move rfl) ?_
  refine RW.isF 33 rfl (by omega) ?_
  refine RW.y (.inr ⟨_, _, 33, rfl, rfl, rfl⟩) rfl (Yv.fieldAddr Try.underlying48 rfl Try.sizeOf3 rfl rfl) ?_
  refine RW.y (.inr ⟨_, _, 33, rfl, rfl, rfl⟩) rfl (Yv.load1 Try.isAgg3 rfl (CF.blk 0 rfl rfl)) ?_
  refine RW.y (.inr ⟨_, _, 33, rfl, rfl, rfl⟩) rfl (Yv.gt rfl rfl) ?_
  refine RW.y (.inl rfl) rfl (Yv.pickF rfl rfl) ?_
  refine RW.nil ?_
  refine PW.go ?_
  refine CW.condD rfl (fun hc37 => ?_) (fun hc37 => ?_)
  ·
    omega
  ·
    refine CW.skip ?_
    refine PW.go ?_
    refine CW.seq ?_
    refine CW.region ?_
    refine RW.y (.inl rfl) rfl (Yv.move rfl) ?_
    refine RW.y (.inl rfl) rfl (Yv.conv64 Try.underlying5 Try.underlying3 rfl (by omega)) ?_
    refine RW.y (.inl rfl) rfl (Yv.move rfl) ?_
    refine RW.o _ (.inl rfl) rfl (Ow.call e8 rfl (C.new (val := fun (b : Nat) => .tuple #[.pointer (some ⟨b, 0, none⟩), .int .i64 0, .int .i64 0]) (φ := fun _ => True) (Ψ := fun b => nowA (fun w' => IsNet w' b (netOf n l))) (fun w2 hs => (netNew_ok n A c l w2 (hr.below hs.mod.below) hok).mono (fun en w3 ⟨b, ht, he, hb, F, hF, hk⟩ => ⟨b, ht, he, hb, F, hF, hk⟩)))) ?_
    rintro _ _ ⟨bg, -, rfl, rfl⟩
    refine RW.y (.inl rfl) rfl (Yv.move rfl) ?_
    refine RW.y (.inl rfl) rfl (Yv.extract rfl rfl) ?_
    refine RW.y (.inl rfl) rfl (Yv.extract rfl rfl) ?_
    refine RW.y (.inl rfl) rfl (Yv.extract rfl rfl) ?_
    refine RW.y (.inl rfl) rfl (Yv.assign rfl) ?_
    refine RW.y (.inl rfl) rfl (Yv.assign rfl) ?_
    refine RW.y (.inl rfl) rfl (Yv.assign rfl) ?_
    refine RW.nil ?_
    refine PW.go ?_
    refine CW.seq ?_
    refine CW.seq ?_
    refine CW.region ?_
    refine RW.y (.inl rfl) rfl (Yv.move rfl) ?_
    refine RW.y (.inl rfl) rfl (Yv.ne rfl rfl) ?_
    refine RW.nil ?_
    refine PW.go ?_
    refine CW.condD rfl (fun hc48 => ?_) (fun hc48 => ?_)
    ·
      exact absurd rfl hc48
    ·
      refine CW.skip ?_
      refine PW.go ?_
      refine CW.seq ?_
      refine CW.region ?_
      refine RW.y (.inl rfl) rfl (Yv.move rfl) ?_
      refine RW.y (.inl rfl) rfl (Yv.conv64 Try.underlying5 Try.underlying3 rfl (by omega)) ?_
      refine RW.y (.inl rfl) rfl (Yv.move rfl) ?_
      refine RW.o _ (.inl rfl) rfl (Ow.call e16 rfl (C.new (val := fun (p : Option Addr × Nat) => .agg #[.int .i64 n, .slice p.1 (mergeL l).length p.2, .int .i64 0, .int .i64 0]) (φ := fun _ => True) (Ψ := fun p => row (.slice p.1 (mergeL l).length p.2) 72 3 (mergeL l).length (cellsE (mergeL l))) (fun w2 hs => (ref16New_ok n A c l w2 (hr.below hs.mod.below) hok).mono (fun en w3 ⟨p, he, hb, F, hF, hk⟩ => ⟨p, trivial, he, hb, F, hF, hk⟩)))) ?_
      rintro _ _ ⟨⟨Am, cm⟩, -, rfl, rfl⟩
      refine RW.y (.inl rfl) rfl (Yv.fieldK (vs := [_, _]) Try.underlying39 rfl Try.isAgg37 Try.sizeOf37 rfl rfl) ?_
      refine RW.o _ (.inl rfl) rfl (Ow.alloc (cs := [_, _]) Try.zeroValue37 rfl) ?_
      rintro _ _ ⟨b15, rfl, rfl⟩
      refine RW.o _ (.inl rfl) rfl (Ow.storeW (vs := [_, _]) 0 Try.sizeOf37 rfl rfl (rfl) rfl (rfl)) ?_
      rintro _ _ ⟨rfl, rfl⟩
      refine RW.nil ?_
      refine PW.go ?_
      refine CW.seq ?_
      refine CW.region ?_
      refine RW.y (.inl rfl) rfl (Yv.move rfl) ?_
      refine RW.y (.inl rfl) rfl (Yv.fieldAddr Try.underlying48 rfl Try.sizeOf3 rfl rfl) ?_
      refine RW.y (.inl rfl) rfl (Yv.load1 Try.isAgg3 rfl (CF.blk 3 rfl rfl)) ?_
      refine RW.y (.inl rfl) rfl (Yv.fieldAddr Try.underlying48 rfl Try.sizeOf32 rfl rfl) ?_
      refine RW.y (.inl rfl) rfl (Yv.load1 Try.isAgg32 rfl (CF.blk 3 rfl rfl)) ?_
      refine RW.o _ (.inl rfl) rfl (Ow.call e28 rfl (C.new (val := fun (b : Nat) => .tuple #[.pointer (some ⟨b, 0, none⟩), .int .i64 0]) (φ := fun _ => True) (Ψ := fun b => nowA (fun w' => IsNet w' b (netOf (K) (splitL (mergeL (renL name (mergeL l))))))) (fun w2 hs => contractOf (.pointer (some ⟨bg, 0, none⟩)) n.toNat (mergeL l) hao (by omega) htt K B d name w2 (hrn.below hs.mod.below) (gN (hs.now 2 rfl)) (gE (hs.now 2 rfl)) hb1))) ?_
      rintro _ _ ⟨bh, -, rfl, rfl⟩
      refine RW.y (.inl rfl) rfl (Yv.move rfl) ?_
      refine RW.y (.inl rfl) rfl (Yv.extract rfl rfl) ?_
      refine RW.y (.inl rfl) rfl (Yv.extract rfl rfl) ?_
      refine RW.y (.inl rfl) rfl (Yv.assign rfl) ?_
      refine RW.y (.inl rfl) rfl (Yv.assign rfl) ?_
      refine RW.nil ?_
      refine PW.go ?_
      refine CW.seq ?_
      refine CW.region ?_
      refine RW.y (.inl rfl) rfl (Yv.loadK (vs := [_, _]) Try.isAgg37 Try.sizeOf37 rfl (CFs.whole 1 rfl)) ?_
      refine RW.y (.inl rfl) rfl (Yv.fieldAddr Try.underlying48 rfl Try.sizeOf3 rfl rfl) ?_
      refine RW.y (.inl rfl) rfl (Yv.load1 Try.isAgg3 rfl (CF.blk 4 rfl rfl)) ?_
      refine RW.y (.inl rfl) rfl (Yv.fieldAddr Try.underlying48 rfl Try.sizeOf32 rfl rfl) ?_
      refine RW.y (.inl rfl) rfl (Yv.load1 Try.isAgg32 rfl (CF.blk 4 rfl rfl)) ?_
      have hx0 := hnt
      refine RW.o _ (.inl rfl) rfl (Ow.call e30 rfl (C.new (val := fun (p : Option Addr × Nat) => .agg #[.int .i64 K, .slice p.1 (mergeL (renL name (mergeL l))).length p.2, .int .i64 0]) (φ := fun _ => True) (Ψ := fun p => row (.slice p.1 (mergeL (renL name (mergeL l))).length p.2) 72 3 (mergeL (renL name (mergeL l))).length (cellsE (mergeL (renL name (mergeL l))))) (fun w2 hs => by
          have h := ref40Of n.toNat Am cm (mergeL l) K hK B d name w2 (hs.row_Rd 2 rfl (by omega)) (hrn.below hs.mod.below) hao (by omega) htt hb1
          rw [hnt] at h
          exact h))) ?_
      rintro _ _ ⟨⟨Aw, cw⟩, -, rfl, rfl⟩
      refine RW.o _ (.inl rfl) rfl (Ow.alloc (cs := [_, _, _]) Try.zeroValue54 rfl) ?_
      rintro _ _ ⟨b18, rfl, rfl⟩
      refine RW.o _ (.inl rfl) rfl (Ow.storeW (vs := [_, _, _]) 0 Try.sizeOf54 rfl rfl (rfl) rfl (rfl)) ?_
      rintro _ _ ⟨rfl, rfl⟩
      refine RW.nil ?_
      refine PW.go ?_
      refine CW.seq ?_
      refine CW.seq ?_
      refine CW.draw0 mixed ?_
      refine HW.take 0 rfl (by kernel_rfl) (by kernel_rfl) (by kernel_rfl) (fun _ _ _ h => h) (.inl rfl) rfl (fun _ h => h) (Yv.move rfl) ?_
      refine HW.take 1 rfl (by kernel_rfl) (by kernel_rfl) (by kernel_rfl) (fun _ _ _ h => h) (.inl rfl) rfl (fun _ h => h) (Yv.fieldAddr Try.underlying54 rfl Try.sizeOf26 rfl rfl) ?_
      refine HW.take 2 rfl (by kernel_rfl) (by kernel_rfl) (by kernel_rfl) (fun _ _ _ h => h) (.inl rfl) rfl (fun _ h => h) (Yv.load1 Try.isAgg26 rfl (CF.blk 0 rfl rfl)) ?_
      refine HW.take 3 rfl (by kernel_rfl) (by kernel_rfl) (by kernel_rfl) (fun _ _ _ h => h) (.inl rfl) rfl (fun _ h => h) (Yv.ne rfl rfl) ?_
      refine HW.take 4 rfl (by kernel_rfl) (by kernel_rfl) (by kernel_rfl) (fun _ _ _ h => h) (.inl rfl) rfl (fun _ h => h) (Yv.move rfl) ?_
      refine HW.isF 91 rfl (by simp) ?_
      refine HW.take 5 rfl (by kernel_rfl) (by kernel_rfl) (by kernel_rfl) (fun _ _ _ h => h) (.inr ⟨_, _, 91, rfl, rfl, rfl⟩) rfl (fun _ h => h) (Yv.move rfl) ?_
      refine HW.take 6 rfl (by kernel_rfl) (by kernel_rfl) (by kernel_rfl) (fun _ _ _ h => h) (.inr ⟨_, _, 91, rfl, rfl, rfl⟩) rfl (fun _ h => h) (Yv.ptrNotNil Try.underlying25 rfl rfl) ?_
      refine HW.take 7 rfl (by kernel_rfl) (by kernel_rfl) (by kernel_rfl) (fun _ _ _ h => h) (.inr ⟨_, _, 91, rfl, rfl, rfl⟩) rfl (fun _ h => h) (Yv.move rfl) ?_
      refine HW.take 8 rfl (by kernel_rfl) (by kernel_rfl) (by kernel_rfl) (fun _ _ _ h => h) (.inr ⟨_, _, 91, rfl, rfl, rfl⟩) rfl (fun _ h => h) (Yv.eq rfl rfl) ?_
      refine HW.take 9 rfl (by kernel_rfl) (by kernel_rfl) (by kernel_rfl) (fun _ _ _ h => h) (.inr ⟨_, _, 91, rfl, rfl, rfl⟩) rfl (fun _ h => h) (Yv.boolNe Try.underlying4 rfl rfl) ?_
      refine HW.take 10 rfl (by kernel_rfl) (by kernel_rfl) (by kernel_rfl) (fun _ _ _ h => h) (.inl rfl) rfl (fun _ h => h) (Yv.pickF rfl rfl) ?_
      refine HW.take 11 rfl (by kernel_rfl) (by kernel_rfl) (by kernel_rfl) (fun _ _ _ h => h) (.inl rfl) rfl (fun _ h => h) (Yv.move rfl) ?_
      refine HW.isB (c := false) 98 rfl (by simp) ?_
      refine HW.take 12 rfl (by kernel_rfl) (by kernel_rfl) (by kernel_rfl) (fun _ _ _ h => h) (.inr ⟨_, _, 98, rfl, rfl, rfl⟩) rfl (fun _ h => h) (Yv.move rfl) ?_
      refine HW.take 13 rfl (by kernel_rfl) (by kernel_rfl) (by kernel_rfl) (fun _ _ _ h => h) (.inr ⟨_, _, 98, rfl, rfl, rfl⟩) rfl (fun _ h => h) (Yv.eq rfl rfl) ?_
      refine HW.take 14 rfl (by kernel_rfl) (by kernel_rfl) (by kernel_rfl) (fun _ _ _ h => h) (.inr ⟨_, _, 98, rfl, rfl, rfl⟩) rfl (fun _ h => h) (Yv.move rfl) ?_
      refine HW.isT 101 rfl (rfl) ?_
      refine HW.take 15 rfl (by kernel_rfl) (by kernel_rfl) (by kernel_rfl) (fun _ _ _ h => h) (.inr ⟨_, _, 101, rfl, rfl, rfl⟩) rfl (fun _ h => h) (Yv.move rfl) ?_
      refine HW.take 17 rfl (by kernel_rfl) (by kernel_rfl) (by kernel_rfl) (fun _ _ _ h => h) (.inr ⟨_, _, 101, rfl, rfl, rfl⟩) rfl (fun _ h => h) (Yv.fieldAddr Try.underlying48 rfl Try.sizeOf3 rfl rfl) ?_
      refine HW.take 18 rfl (by kernel_rfl) (by kernel_rfl) (by kernel_rfl) (fun _ _ _ h => h) (.inr ⟨_, _, 101, rfl, rfl, rfl⟩) rfl (fun _ h => h) (Yv.load1 Try.isAgg3 rfl (CF.blk 6 rfl rfl)) ?_
      refine HW.run 16 rfl (by kernel_rfl) _ (.inr ⟨_, _, 101, rfl, rfl, rfl⟩) rfl (Ow.call e31 rfl (C.val (fun w hs => netN bh (netOf K (splitL (mergeL (renL name (mergeL l))))) _ (hs.now 2 rfl)))) (by rintro _ _ ⟨rfl, rfl⟩ w h; exact h) ?_
      rintro _ _ ⟨rfl, rfl⟩
      refine HW.take 19 rfl (by kernel_rfl) (by kernel_rfl) (by kernel_rfl) (fun _ _ _ h => h) (.inr ⟨_, _, 101, rfl, rfl, rfl⟩) rfl (fun _ h => h) (Yv.ne rfl rfl) ?_
      refine HW.take 20 rfl (by kernel_rfl) (by kernel_rfl) (by kernel_rfl) (fun _ _ _ h => h) (.inr ⟨_, _, 101, rfl, rfl, rfl⟩) rfl (fun _ h => h) (Yv.move rfl) ?_
      refine HW.isF 107 rfl (fun h => h (by show ((K.toNat : Nat) : Int) = K; omega)) ?_
      refine HW.take 21 rfl (by kernel_rfl) (by kernel_rfl) (by kernel_rfl) (fun _ _ _ h => h) (.inr ⟨_, _, 107, rfl, rfl, rfl⟩) rfl (fun _ h => h) (Yv.move rfl) ?_
      refine HW.take 23 rfl (by kernel_rfl) (by kernel_rfl) (by kernel_rfl) (fun _ _ _ h => h) (.inr ⟨_, _, 107, rfl, rfl, rfl⟩) rfl (fun _ h => h) (Yv.fieldAddr Try.underlying54 rfl Try.sizeOf37 rfl rfl) ?_
      refine HW.take 24 rfl (by kernel_rfl) (by kernel_rfl) (by kernel_rfl) (fun _ _ _ h => h) (.inr ⟨_, _, 107, rfl, rfl, rfl⟩) rfl (fun _ h => h) (Yv.fieldAddr Try.underlying37 rfl Try.sizeOf22 rfl rfl) ?_
      refine HW.take 25 rfl (by kernel_rfl) (by kernel_rfl) (by kernel_rfl) (fun _ _ _ h => h) (.inr ⟨_, _, 107, rfl, rfl, rfl⟩) rfl (fun _ h => h) (Yv.load1 Try.isAgg22 rfl (CF.blk 0 rfl rfl)) ?_
      refine HW.run 22 rfl (by kernel_rfl) _ (.inr ⟨_, _, 107, rfl, rfl, rfl⟩) rfl (Ow.call e33 rfl (C.new (val := id) (φ := fun _ => True) (Ψ := fun v_ => row v_ 72 3 ((mergeL (renL name (mergeL l))).length) (cellsE (mergeL (renL name (mergeL l))))) (fun w2 hs => (netEdgesIs bh (netOf K (splitL (mergeL (renL name (mergeL l))))) w2 (hs.now 2 rfl) (xs := mergeL (renL name (mergeL l))) hms).mono (fun e w3 ⟨v_, hv_, hb, F, hF, hk_⟩ => ⟨v_, trivial, hv_, hb, F, hF, hk_⟩)))) (by rintro _ _ ⟨v_he, -, rfl, rfl⟩ w h; exact (h).erase 0) ?_
      rintro _ _ ⟨v_he, -, rfl, rfl⟩
      refine HW.facts _ (fun w h => h.row_slice 0 rfl) ?_
      rintro ⟨Ah, ch, rfl⟩
      refine HW.run 26 rfl (by kernel_rfl) _ (.inr ⟨_, _, 107, rfl, rfl, rfl⟩) rfl (Ow.call e32 rfl (C.val (fun w hs => ref15Same _ Ah ch (mergeL (renL name (mergeL l))) (hs.row_Rd 0 rfl (by omega)) Aw cw (mergeL (renL name (mergeL l))) (hs.row_Rd 2 rfl (by omega))))) (by rintro _ _ ⟨rfl, rfl⟩ w h; exact (h).erase 0) ?_
      rintro _ _ ⟨rfl, rfl⟩
      refine HW.take 27 rfl (by kernel_rfl) (by kernel_rfl) (by kernel_rfl) (fun _ _ _ h => h) (.inr ⟨_, _, 107, rfl, rfl, rfl⟩) rfl (fun _ h => (h).erase 0) (Yv.not rfl) ?_
      refine HW.take 28 rfl (by kernel_rfl) (by kernel_rfl) (by kernel_rfl) (fun _ _ _ h => h) (.inr ⟨_, _, 101, rfl, rfl, rfl⟩) rfl (fun _ h => (h).erase 0) (Yv.pickF rfl rfl) ?_
      refine HW.take 29 rfl (by kernel_rfl) (by kernel_rfl) (by kernel_rfl) (fun _ _ _ h => h) (.inr ⟨_, _, 98, rfl, rfl, rfl⟩) rfl (fun _ h => (h).erase 0) (Yv.pickT rfl rfl) ?_
      refine HW.take 30 rfl (by kernel_rfl) (by kernel_rfl) (by kernel_rfl) (fun _ _ _ h => h) (.inl rfl) rfl (fun _ h => (h).erase 0) (Yv.pickF rfl rfl) ?_
      refine HW.done (by kernel_rfl) ?_
      refine PW.go ?_
      refine CW.cond rfl (fun hc117 => ?_) (fun hc117 => ?_)
      ·
        simp at hc117
      ·
        refine CW.skip ?_
        refine PW.go ?_
        refine CW.seq ?_
        refine CW.region ?_
        refine RW.y (.inl rfl) rfl (Yv.move rfl) ?_
        refine RW.y (.inl rfl) rfl (Yv.fieldAddr Try.underlying48 rfl Try.sizeOf3 rfl rfl) ?_
        refine RW.y (.inl rfl) rfl (Yv.load1 Try.isAgg3 rfl (CF.blk 7 rfl rfl)) ?_
        refine RW.y (.inl rfl) rfl (Yv.fieldAddr Try.underlying48 rfl Try.sizeOf3 rfl rfl) ?_
        refine RW.y (.inl rfl) rfl (Yv.load1 Try.isAgg3 rfl (CF.blk 7 rfl rfl)) ?_
        refine RW.o _ (.inl rfl) rfl (Ow.call e29 rfl (C.new (val := fun (x : Nat × Value) => .tuple #[.pointer (some ⟨x.1, 0, none⟩), x.2, .int .i64 0]) (φ := fun _ => True) (Ψ := fun x => Ass.star (nowA (fun w' => IsNet w' x.1 (netOf (((n.toNat : Nat) : Int) - 1) (splitL (mergeL (renL (pairNm n.toNat U W) (mergeL l))))))) (row x.2 3 1 (n.toNat) (i64s (pairNm n.toNat U W)))) (fun w2 hs => contractPair (.pointer (some ⟨bg, 0, none⟩)) n.toNat (mergeL l) hao (by omega) htt U W w2 (gN (hs.now 6 rfl)) (gE (hs.now 6 rfl)) hb2))) ?_
        rintro _ _ ⟨⟨bp, vp⟩, -, rfl, rfl⟩
        refine RW.mem _ (fun w h => h.split) ?_
        refine RW.facts _ (fun w h => h.row_slice 1 rfl) ?_
        rintro ⟨An, cn, rfl⟩
        refine RW.y (.inl rfl) rfl (Yv.move rfl) ?_
        refine RW.y (.inl rfl) rfl (Yv.extract rfl rfl) ?_
        refine RW.y (.inl rfl) rfl (Yv.extract rfl rfl) ?_
        refine RW.y (.inl rfl) rfl (Yv.extract rfl rfl) ?_
        refine RW.y (.inl rfl) rfl (Yv.assign rfl) ?_
        refine RW.y (.inl rfl) rfl (Yv.assign rfl) ?_
        refine RW.y (.inl rfl) rfl (Yv.assign rfl) ?_
        refine RW.nil ?_
        refine PW.go ?_
        refine CW.seq ?_
        refine CW.seq ?_
        refine CW.region ?_
        refine RW.y (.inl rfl) rfl (Yv.move rfl) ?_
        refine RW.y (.inl rfl) rfl (Yv.conv64 Try.underlying5 Try.underlying3 rfl (by omega)) ?_
        refine RW.y (.inl rfl) rfl (Yv.fieldAddr Try.underlying48 rfl Try.sizeOf3 rfl rfl) ?_
        refine RW.y (.inl rfl) rfl (Yv.load1 Try.isAgg3 rfl (CF.blk 9 rfl rfl)) ?_
        refine RW.y (.inl rfl) rfl (Yv.fieldAddr Try.underlying48 rfl Try.sizeOf3 rfl rfl) ?_
        refine RW.y (.inl rfl) rfl (Yv.load1 Try.isAgg3 rfl (CF.blk 9 rfl rfl)) ?_
        refine RW.o _ (.inl rfl) rfl (Ow.call e34 rfl (C.val (fun w hs => (hnt ▸ ref25Check (n.toNat : Int) U W _)))) ?_
        rintro _ _ ⟨rfl, rfl⟩
        refine RW.y (.inl rfl) rfl (Yv.assign rfl) ?_
        refine RW.nil ?_
        refine PW.go ?_
        refine CW.seq ?_
        refine CW.region ?_
        refine RW.y (.inl rfl) rfl (Yv.move rfl) ?_
        refine RW.y (.inl rfl) rfl (Yv.move rfl) ?_
        refine RW.y (.inl rfl) rfl (Yv.ne rfl rfl) ?_
        refine RW.nil ?_
        refine PW.go ?_
        refine CW.condD rfl (fun hc137 => ?_) (fun hc137 => ?_)
        ·
          exact absurd (by unfold pairErr; rw [if_neg (by omega), if_neg (by omega)]) hc137
        ·
          refine CW.skip ?_
          refine PW.go ?_
          refine CW.seq ?_
          refine CW.seq ?_
          refine CW.region ?_
          refine RW.y (.inl rfl) rfl (Yv.move rfl) ?_
          refine RW.y (.inl rfl) rfl (Yv.ne rfl rfl) ?_
          refine RW.nil ?_
          refine PW.go ?_
          refine CW.condD rfl (fun hc139 => ?_) (fun hc139 => ?_)
          ·
            exact absurd rfl hc139
          ·
            refine CW.skip ?_
            refine PW.go ?_
            refine CW.seq ?_
            refine CW.region ?_
            refine RW.y (.inl rfl) rfl (Yv.move rfl) ?_
            refine RW.y (.inl rfl) rfl (Yv.conv64 Try.underlying5 Try.underlying3 rfl (by omega)) ?_
            refine RW.y (.inl rfl) rfl (Yv.fieldAddr Try.underlying48 rfl Try.sizeOf3 rfl rfl) ?_
            refine RW.y (.inl rfl) rfl (Yv.load1 Try.isAgg3 rfl (CF.blk 9 rfl rfl)) ?_
            refine RW.y (.inl rfl) rfl (Yv.fieldAddr Try.underlying48 rfl Try.sizeOf3 rfl rfl) ?_
            refine RW.y (.inl rfl) rfl (Yv.load1 Try.isAgg3 rfl (CF.blk 9 rfl rfl)) ?_
            refine RW.o _ (.inl rfl) rfl (Ow.call e35 rfl (C.new (val := id) (φ := fun _ => True) (Ψ := fun v_ => row v_ 3 1 ((pairNm n.toNat U W).length) (i64s (pairNm n.toNat U W))) (fun w2 hs => ((hnt ▸ ref40Pair n.toNat (by omega) U W w2)).mono (fun e w3 ⟨v_, hv_, hb, F, hF, hk_⟩ => ⟨v_, trivial, hv_, hb, F, hF, hk_⟩)))) ?_
            rintro _ _ ⟨v_q, -, rfl, rfl⟩
            refine RW.y (.inl rfl) rfl (Yv.assign rfl) ?_
            refine RW.nil ?_
            refine PW.go ?_
            refine CW.seq ?_
            refine CW.facts _ (fun w h => h.row_slice 0 rfl) ?_
            rintro ⟨Aq, cq, rfl⟩
            refine CW.draw0 mixed ?_
            refine HW.take 0 rfl (by kernel_rfl) (by kernel_rfl) (by kernel_rfl) (fun _ _ _ h => h) (.inl rfl) rfl (fun _ h => h) (Yv.move rfl) ?_
            refine HW.take 1 rfl (by kernel_rfl) (by kernel_rfl) (by kernel_rfl) (fun _ _ _ h => h) (.inl rfl) rfl (fun _ h => h) (Yv.move rfl) ?_
            refine HW.run 2 rfl (by kernel_rfl) _ (.inl rfl) rfl (Ow.call e20 rfl (C.val (fun w hs => (by have h := ref09Ints w An cn (pairNm n.toNat U W) (by rw [hpl]; exact hs.row_Rd 2 rfl (by omega)) Aq cq (pairNm n.toNat U W) (hs.row_Rd 0 rfl (by omega)); rw [hpl] at h ⊢; exact h)))) (by rintro _ _ ⟨rfl, rfl⟩ w h; exact h) ?_
            rintro _ _ ⟨rfl, rfl⟩
            refine HW.take 3 rfl (by kernel_rfl) (by kernel_rfl) (by kernel_rfl) (fun _ _ _ h => h) (.inl rfl) rfl (fun _ h => h) (Yv.move rfl) ?_
            refine HW.isT 160 rfl (rfl) ?_
            refine HW.take 4 rfl (by kernel_rfl) (by kernel_rfl) (by kernel_rfl) (fun _ _ _ h => h) (.inr ⟨_, _, 160, rfl, rfl, rfl⟩) rfl (fun _ h => h) (Yv.move rfl) ?_
            refine HW.take 5 rfl (by kernel_rfl) (by kernel_rfl) (by kernel_rfl) (fun _ _ _ h => h) (.inr ⟨_, _, 160, rfl, rfl, rfl⟩) rfl (fun _ h => h) (Yv.ptrNotNil Try.underlying25 rfl rfl) ?_
            refine HW.take 6 rfl (by kernel_rfl) (by kernel_rfl) (by kernel_rfl) (fun _ _ _ h => h) (.inl rfl) rfl (fun _ h => h) (Yv.pickT rfl rfl) ?_
            refine HW.take 7 rfl (by kernel_rfl) (by kernel_rfl) (by kernel_rfl) (fun _ _ _ h => h) (.inl rfl) rfl (fun _ h => h) (Yv.move rfl) ?_
            refine HW.isB (c := true) 164 rfl (rfl) ?_
            refine HW.take 8 rfl (by kernel_rfl) (by kernel_rfl) (by kernel_rfl) (fun _ _ _ h => h) (.inr ⟨_, _, 164, rfl, rfl, rfl⟩) rfl (fun _ h => h) (Yv.move rfl) ?_
            refine HW.take 10 rfl (by kernel_rfl) (by kernel_rfl) (by kernel_rfl) (fun _ _ _ h => h) (.inr ⟨_, _, 164, rfl, rfl, rfl⟩) rfl (fun _ h => h) (Yv.loadK (vs := [_, _]) Try.isAgg37 Try.sizeOf37 rfl (CFs.whole 7 rfl)) ?_
            refine HW.take 11 rfl (by kernel_rfl) (by kernel_rfl) (by kernel_rfl) (fun _ _ _ h => h) (.inr ⟨_, _, 164, rfl, rfl, rfl⟩) rfl (fun _ h => h) (Yv.move rfl) ?_
            refine HW.take 12 rfl (by kernel_rfl) (by kernel_rfl) (by kernel_rfl) (fun _ _ _ h => h) (.inr ⟨_, _, 164, rfl, rfl, rfl⟩) rfl (fun _ h => h) (Yv.conv64 Try.underlying5 Try.underlying3 rfl (by omega)) ?_
            refine HW.take 13 rfl (by kernel_rfl) (by kernel_rfl) (by kernel_rfl) (fun _ _ _ h => h) (.inr ⟨_, _, 164, rfl, rfl, rfl⟩) rfl (fun _ h => h) (Yv.sub rfl rfl (by omega)) ?_
            refine HW.take 14 rfl (by kernel_rfl) (by kernel_rfl) (by kernel_rfl) (fun _ _ _ h => h) (.inr ⟨_, _, 164, rfl, rfl, rfl⟩) rfl (fun _ h => h) (Yv.move rfl) ?_
            refine HW.run 9 rfl (by kernel_rfl) _ (.inr ⟨_, _, 164, rfl, rfl, rfl⟩) rfl (Ow.call e33 rfl (C.new (val := id) (φ := fun _ => True) (Ψ := fun v_ => row v_ 72 3 ((mergeL (renL (pairNm n.toNat U W) (mergeL l))).length) (cellsE (mergeL (renL (pairNm n.toNat U W) (mergeL l))))) (fun w2 hs => (netEdgesIs bp (netOf (((n.toNat : Nat) : Int) - 1) (splitL (mergeL (renL (pairNm n.toNat U W) (mergeL l))))) w2 (hs.now 1 rfl) (xs := mergeL (renL (pairNm n.toNat U W) (mergeL l))) hms2).mono (fun e w3 ⟨v_, hv_, hb, F, hF, hk_⟩ => ⟨v_, trivial, hv_, hb, F, hF, hk_⟩)))) (by rintro _ _ ⟨v_pe, -, rfl, rfl⟩ w h; exact (h).erase 0) ?_
            rintro _ _ ⟨v_pe, -, rfl, rfl⟩
            refine HW.run 15 rfl (by kernel_rfl) _ (.inr ⟨_, _, 164, rfl, rfl, rfl⟩) rfl (Ow.call e30 rfl (C.new (val := fun (p : Option Addr × Nat) => .agg #[.int .i64 (n - 1), .slice p.1 (mergeL (renL (pairNm n.toNat U W) (mergeL l))).length p.2, .int .i64 0]) (φ := fun _ => True) (Ψ := fun p => row (.slice p.1 (mergeL (renL (pairNm n.toNat U W) (mergeL l))).length p.2) 72 3 (mergeL (renL (pairNm n.toNat U W) (mergeL l))).length (cellsE (mergeL (renL (pairNm n.toNat U W) (mergeL l))))) (fun w2 hs => by
                have h := ref40Of n.toNat Am cm (mergeL l) (((n.toNat : Nat) : Int) - 1) (by omega) Aq cq (pairNm n.toNat U W) w2 (hs.row_Rd 9 rfl (by omega)) (hs.row_Rd 1 rfl (by omega)) hao (by omega) htt ⟨hpl, hpb⟩
                rw [hnt] at h
                exact h))) (by rintro _ _ ⟨⟨Av, cv⟩, -, rfl, rfl⟩ w h; exact ((h).erase 0).erase 0) ?_
            rintro _ _ ⟨⟨Av, cv⟩, -, rfl, rfl⟩
            refine HW.take 16 rfl (by kernel_rfl) (by kernel_rfl) (by kernel_rfl) (fun _ _ _ h => h) (.inr ⟨_, _, 164, rfl, rfl, rfl⟩) rfl (fun _ h => ((h).erase 0).erase 0) (Yv.fieldK (vs := [_, _]) Try.underlying54 rfl Try.isAgg37 Try.sizeOf37 rfl rfl) ?_
            refine HW.take 17 rfl (by kernel_rfl) (by kernel_rfl) (by kernel_rfl) (fun _ _ _ h => h) (.inr ⟨_, _, 164, rfl, rfl, rfl⟩) rfl (fun _ h => ((h).erase 0).erase 0) (Yv.field1 Try.underlying37 rfl Try.isAgg22 rfl rfl) ?_
            refine HW.facts _ (fun w h => h.row_slice 1 rfl) ?_
            rintro ⟨Ap, cp, rfl⟩
            refine HW.run 18 rfl (by kernel_rfl) _ (.inr ⟨_, _, 164, rfl, rfl, rfl⟩) rfl (Ow.call e32 rfl (C.val (fun w hs => ref15Same _ Ap cp (mergeL (renL (pairNm n.toNat U W) (mergeL l))) (hs.row_Rd 1 rfl (by omega)) Av cv (mergeL (renL (pairNm n.toNat U W) (mergeL l))) (hs.row_Rd 0 rfl (by omega))))) (by rintro _ _ ⟨rfl, rfl⟩ w h; exact ((h).erase 0).erase 0) ?_
            rintro _ _ ⟨rfl, rfl⟩
            refine HW.take 19 rfl (by kernel_rfl) (by kernel_rfl) (by kernel_rfl) (fun _ _ _ h => h) (.inl rfl) rfl (fun _ h => ((h).erase 0).erase 0) (Yv.pickT rfl rfl) ?_
            refine HW.take 20 rfl (by kernel_rfl) (by kernel_rfl) (by kernel_rfl) (fun _ _ _ h => h) (.inl rfl) rfl (fun _ h => ((h).erase 0).erase 0) (Yv.move rfl) ?_
            refine HW.isT 177 rfl (rfl) ?_
            refine HW.run 21 rfl (by kernel_rfl) _ (.inr ⟨_, _, 177, rfl, rfl, rfl⟩) rfl (Ow.call e27 rfl (C.val (fun w hs => awake40 _))) (by rintro _ _ ⟨rfl, rfl⟩ w h; exact ((h).erase 0).erase 0) ?_
            rintro _ _ ⟨rfl, rfl⟩
            refine HW.take 22 rfl (by kernel_rfl) (by kernel_rfl) (by kernel_rfl) (fun _ _ _ h => h) (.inl rfl) rfl (fun _ h => ((h).erase 0).erase 0) (Yv.pickT rfl rfl) ?_
            refine HW.take 23 rfl (by kernel_rfl) (by kernel_rfl) (by kernel_rfl) (fun _ _ _ h => h) (.inl rfl) rfl (fun _ h => ((h).erase 0).erase 0) (Yv.assign rfl) ?_
            refine HW.done (by kernel_rfl) ?_
            refine PW.go ?_
            refine CW.ret ?_
            refine PW.ret1 Try.results5 rfl (fun w1 hs => ?_)
            exact ⟨by first | rfl | simp, hs.mod.below⟩

set_option maxRecDepth 100000 in
theorem ct_oe (n : Int) (hn : 0 ≤ n ∧ n ≤ 255) (A : Option Addr) (c : Nat) (l : List Edg) (K U W : Int) (hK : -9223372036854775808 ≤ K ∧ K ≤ 9223372036854775807) (hU : -9223372036854775808 ≤ U ∧ U ≤ 9223372036854775807) (hW : -9223372036854775808 ≤ W ∧ W ≤ 9223372036854775807) (B : Option Addr) (d : Nat) (name : List Int) (w : World) (hr : Rd w A 3 l.length (cellsE l)) (hrn : Rd w B 1 name.length (i64s name)) (hl60 : l.length ≤ 60) (hnm : name.length ≤ 300) (hK3 : K ≤ 300) (hok : NewOk n l) (hb1 : name.length = n.toNat ∧ namB K name = true) (hb2 : U < 0 ∨ (n.toNat : Int) ≤ U ∨ W < 0 ∨ (n.toNat : Int) ≤ W ∨ U = W) : Calls Try.prog 5 #[.int .u8 n, .slice A l.length c, .agg #[.int .i64 K, .slice B name.length d, .int .i64 U, .int .i64 W]] w fun e w1 => e = .returned (.bool true) ∧ Gr w w1 := by
  have hml := mergeL_length l
  have hao := hok.arcs
  have htt := newOk_tot hok hl60
  have hnn : nonneg (mergeL l) := fun e he => (hao.wts e he).1
  have hrl := renL_length name (mergeL l)
  have hml2 := mergeL_length (renL name (mergeL l))
  have hml3 := mergeL_length (renL (pairNm n.toNat U W) (mergeL l))
  have hrl3 := renL_length (pairNm n.toNat U W) (mergeL l)
  have hms := merge_split (renL_nonneg (name := name) hnn)
  have hms2 := merge_split (renL_nonneg (name := pairNm n.toNat U W) hnn)
  have hpl := pairNm_length n.toNat U W
  have hnt : ((n.toNat : Nat) : Int) = n := by omega
  have hnb := (namB_iff K name).1 hb1.2
  refine CW.enter (P := Try.prog) (F0 := none0) (L := [(0, _), (1, _), (2, _)]) 180 [] Try.func5 rfl Try.ntmps5 (Nat.le_of_ble_eq_true rfl) (St.start w none0) rfl ?_
  refine CW.seq ?_
  refine CW.region ?_
  refine RW.o _ (.inl rfl) rfl (Ow.box (cs := [_, _, _, _]) rfl rfl) ?_
  rintro _ _ ⟨b5, rfl, rfl⟩
  refine RW.y (.inl rfl) rfl (Yv.assign rfl) ?_
  refine RW.nil ?_
  refine PW.go ?_
  refine CW.seq ?_
  refine CW.seq ?_
  refine CW.region ?_
  refine RW.y (.inl rfl) rfl (Yv.move rfl) ?_
  refine RW.y (.inl rfl) rfl (Yv.len Try.underlying22 rfl) ?_
  refine RW.y (.inl rfl) rfl (Yv.gt rfl rfl) ?_
  refine RW.y (.inl rfl) rfl (Yv.move rfl) ?_
  refine RW.isF 27 rfl (by omega) ?_
  refine RW.y (.inr ⟨_, _, 27, rfl, rfl, rfl⟩) rfl (Yv.fieldAddr Try.underlying48 rfl Try.sizeOf32 rfl rfl) ?_
  refine RW.y (.inr ⟨_, _, 27, rfl, rfl, rfl⟩) rfl (Yv.load1 Try.isAgg32 rfl (CF.blk 0 rfl rfl)) ?_
  refine RW.y (.inr ⟨_, _, 27, rfl, rfl, rfl⟩) rfl (Yv.len Try.underlying32 rfl) ?_
  refine RW.y (.inr ⟨_, _, 27, rfl, rfl, rfl⟩) rfl (Yv.gt rfl rfl) ?_
  refine RW.y (.inl rfl) rfl (Yv.pickF rfl rfl) ?_
  refine RW.y (.inl rfl) rfl (Yv.move rfl) ?_
  refine RW.isF 33 rfl (by omega) ?_
  refine RW.y (.inr ⟨_, _, 33, rfl, rfl, rfl⟩) rfl (Yv.fieldAddr Try.underlying48 rfl Try.sizeOf3 rfl rfl) ?_
  refine RW.y (.inr ⟨_, _, 33, rfl, rfl, rfl⟩) rfl (Yv.load1 Try.isAgg3 rfl (CF.blk 0 rfl rfl)) ?_
  refine RW.y (.inr ⟨_, _, 33, rfl, rfl, rfl⟩) rfl (Yv.gt rfl rfl) ?_
  refine RW.y (.inl rfl) rfl (Yv.pickF rfl rfl) ?_
  refine RW.nil ?_
  refine PW.go ?_
  refine CW.condD rfl (fun hc37 => ?_) (fun hc37 => ?_)
  ·
    omega
  ·
    refine CW.skip ?_
    refine PW.go ?_
    refine CW.seq ?_
    refine CW.region ?_
    refine RW.y (.inl rfl) rfl (Yv.move rfl) ?_
    refine RW.y (.inl rfl) rfl (Yv.conv64 Try.underlying5 Try.underlying3 rfl (by omega)) ?_
    refine RW.y (.inl rfl) rfl (Yv.move rfl) ?_
    refine RW.o _ (.inl rfl) rfl (Ow.call e8 rfl (C.new (val := fun (b : Nat) => .tuple #[.pointer (some ⟨b, 0, none⟩), .int .i64 0, .int .i64 0]) (φ := fun _ => True) (Ψ := fun b => nowA (fun w' => IsNet w' b (netOf n l))) (fun w2 hs => (netNew_ok n A c l w2 (hr.below hs.mod.below) hok).mono (fun en w3 ⟨b, ht, he, hb, F, hF, hk⟩ => ⟨b, ht, he, hb, F, hF, hk⟩)))) ?_
    rintro _ _ ⟨bg, -, rfl, rfl⟩
    refine RW.y (.inl rfl) rfl (Yv.move rfl) ?_
    refine RW.y (.inl rfl) rfl (Yv.extract rfl rfl) ?_
    refine RW.y (.inl rfl) rfl (Yv.extract rfl rfl) ?_
    refine RW.y (.inl rfl) rfl (Yv.extract rfl rfl) ?_
    refine RW.y (.inl rfl) rfl (Yv.assign rfl) ?_
    refine RW.y (.inl rfl) rfl (Yv.assign rfl) ?_
    refine RW.y (.inl rfl) rfl (Yv.assign rfl) ?_
    refine RW.nil ?_
    refine PW.go ?_
    refine CW.seq ?_
    refine CW.seq ?_
    refine CW.region ?_
    refine RW.y (.inl rfl) rfl (Yv.move rfl) ?_
    refine RW.y (.inl rfl) rfl (Yv.ne rfl rfl) ?_
    refine RW.nil ?_
    refine PW.go ?_
    refine CW.condD rfl (fun hc48 => ?_) (fun hc48 => ?_)
    ·
      exact absurd rfl hc48
    ·
      refine CW.skip ?_
      refine PW.go ?_
      refine CW.seq ?_
      refine CW.region ?_
      refine RW.y (.inl rfl) rfl (Yv.move rfl) ?_
      refine RW.y (.inl rfl) rfl (Yv.conv64 Try.underlying5 Try.underlying3 rfl (by omega)) ?_
      refine RW.y (.inl rfl) rfl (Yv.move rfl) ?_
      refine RW.o _ (.inl rfl) rfl (Ow.call e16 rfl (C.new (val := fun (p : Option Addr × Nat) => .agg #[.int .i64 n, .slice p.1 (mergeL l).length p.2, .int .i64 0, .int .i64 0]) (φ := fun _ => True) (Ψ := fun p => row (.slice p.1 (mergeL l).length p.2) 72 3 (mergeL l).length (cellsE (mergeL l))) (fun w2 hs => (ref16New_ok n A c l w2 (hr.below hs.mod.below) hok).mono (fun en w3 ⟨p, he, hb, F, hF, hk⟩ => ⟨p, trivial, he, hb, F, hF, hk⟩)))) ?_
      rintro _ _ ⟨⟨Am, cm⟩, -, rfl, rfl⟩
      refine RW.y (.inl rfl) rfl (Yv.fieldK (vs := [_, _]) Try.underlying39 rfl Try.isAgg37 Try.sizeOf37 rfl rfl) ?_
      refine RW.o _ (.inl rfl) rfl (Ow.alloc (cs := [_, _]) Try.zeroValue37 rfl) ?_
      rintro _ _ ⟨b15, rfl, rfl⟩
      refine RW.o _ (.inl rfl) rfl (Ow.storeW (vs := [_, _]) 0 Try.sizeOf37 rfl rfl (rfl) rfl (rfl)) ?_
      rintro _ _ ⟨rfl, rfl⟩
      refine RW.nil ?_
      refine PW.go ?_
      refine CW.seq ?_
      refine CW.region ?_
      refine RW.y (.inl rfl) rfl (Yv.move rfl) ?_
      refine RW.y (.inl rfl) rfl (Yv.fieldAddr Try.underlying48 rfl Try.sizeOf3 rfl rfl) ?_
      refine RW.y (.inl rfl) rfl (Yv.load1 Try.isAgg3 rfl (CF.blk 3 rfl rfl)) ?_
      refine RW.y (.inl rfl) rfl (Yv.fieldAddr Try.underlying48 rfl Try.sizeOf32 rfl rfl) ?_
      refine RW.y (.inl rfl) rfl (Yv.load1 Try.isAgg32 rfl (CF.blk 3 rfl rfl)) ?_
      refine RW.o _ (.inl rfl) rfl (Ow.call e28 rfl (C.new (val := fun (b : Nat) => .tuple #[.pointer (some ⟨b, 0, none⟩), .int .i64 0]) (φ := fun _ => True) (Ψ := fun b => nowA (fun w' => IsNet w' b (netOf (K) (splitL (mergeL (renL name (mergeL l))))))) (fun w2 hs => contractOf (.pointer (some ⟨bg, 0, none⟩)) n.toNat (mergeL l) hao (by omega) htt K B d name w2 (hrn.below hs.mod.below) (gN (hs.now 2 rfl)) (gE (hs.now 2 rfl)) hb1))) ?_
      rintro _ _ ⟨bh, -, rfl, rfl⟩
      refine RW.y (.inl rfl) rfl (Yv.move rfl) ?_
      refine RW.y (.inl rfl) rfl (Yv.extract rfl rfl) ?_
      refine RW.y (.inl rfl) rfl (Yv.extract rfl rfl) ?_
      refine RW.y (.inl rfl) rfl (Yv.assign rfl) ?_
      refine RW.y (.inl rfl) rfl (Yv.assign rfl) ?_
      refine RW.nil ?_
      refine PW.go ?_
      refine CW.seq ?_
      refine CW.region ?_
      refine RW.y (.inl rfl) rfl (Yv.loadK (vs := [_, _]) Try.isAgg37 Try.sizeOf37 rfl (CFs.whole 1 rfl)) ?_
      refine RW.y (.inl rfl) rfl (Yv.fieldAddr Try.underlying48 rfl Try.sizeOf3 rfl rfl) ?_
      refine RW.y (.inl rfl) rfl (Yv.load1 Try.isAgg3 rfl (CF.blk 4 rfl rfl)) ?_
      refine RW.y (.inl rfl) rfl (Yv.fieldAddr Try.underlying48 rfl Try.sizeOf32 rfl rfl) ?_
      refine RW.y (.inl rfl) rfl (Yv.load1 Try.isAgg32 rfl (CF.blk 4 rfl rfl)) ?_
      have hx0 := hnt
      refine RW.o _ (.inl rfl) rfl (Ow.call e30 rfl (C.new (val := fun (p : Option Addr × Nat) => .agg #[.int .i64 K, .slice p.1 (mergeL (renL name (mergeL l))).length p.2, .int .i64 0]) (φ := fun _ => True) (Ψ := fun p => row (.slice p.1 (mergeL (renL name (mergeL l))).length p.2) 72 3 (mergeL (renL name (mergeL l))).length (cellsE (mergeL (renL name (mergeL l))))) (fun w2 hs => by
          have h := ref40Of n.toNat Am cm (mergeL l) K hK B d name w2 (hs.row_Rd 2 rfl (by omega)) (hrn.below hs.mod.below) hao (by omega) htt hb1
          rw [hnt] at h
          exact h))) ?_
      rintro _ _ ⟨⟨Aw, cw⟩, -, rfl, rfl⟩
      refine RW.o _ (.inl rfl) rfl (Ow.alloc (cs := [_, _, _]) Try.zeroValue54 rfl) ?_
      rintro _ _ ⟨b18, rfl, rfl⟩
      refine RW.o _ (.inl rfl) rfl (Ow.storeW (vs := [_, _, _]) 0 Try.sizeOf54 rfl rfl (rfl) rfl (rfl)) ?_
      rintro _ _ ⟨rfl, rfl⟩
      refine RW.nil ?_
      refine PW.go ?_
      refine CW.seq ?_
      refine CW.seq ?_
      refine CW.draw0 mixed ?_
      refine HW.take 0 rfl (by kernel_rfl) (by kernel_rfl) (by kernel_rfl) (fun _ _ _ h => h) (.inl rfl) rfl (fun _ h => h) (Yv.move rfl) ?_
      refine HW.take 1 rfl (by kernel_rfl) (by kernel_rfl) (by kernel_rfl) (fun _ _ _ h => h) (.inl rfl) rfl (fun _ h => h) (Yv.fieldAddr Try.underlying54 rfl Try.sizeOf26 rfl rfl) ?_
      refine HW.take 2 rfl (by kernel_rfl) (by kernel_rfl) (by kernel_rfl) (fun _ _ _ h => h) (.inl rfl) rfl (fun _ h => h) (Yv.load1 Try.isAgg26 rfl (CF.blk 0 rfl rfl)) ?_
      refine HW.take 3 rfl (by kernel_rfl) (by kernel_rfl) (by kernel_rfl) (fun _ _ _ h => h) (.inl rfl) rfl (fun _ h => h) (Yv.ne rfl rfl) ?_
      refine HW.take 4 rfl (by kernel_rfl) (by kernel_rfl) (by kernel_rfl) (fun _ _ _ h => h) (.inl rfl) rfl (fun _ h => h) (Yv.move rfl) ?_
      refine HW.isF 91 rfl (by simp) ?_
      refine HW.take 5 rfl (by kernel_rfl) (by kernel_rfl) (by kernel_rfl) (fun _ _ _ h => h) (.inr ⟨_, _, 91, rfl, rfl, rfl⟩) rfl (fun _ h => h) (Yv.move rfl) ?_
      refine HW.take 6 rfl (by kernel_rfl) (by kernel_rfl) (by kernel_rfl) (fun _ _ _ h => h) (.inr ⟨_, _, 91, rfl, rfl, rfl⟩) rfl (fun _ h => h) (Yv.ptrNotNil Try.underlying25 rfl rfl) ?_
      refine HW.take 7 rfl (by kernel_rfl) (by kernel_rfl) (by kernel_rfl) (fun _ _ _ h => h) (.inr ⟨_, _, 91, rfl, rfl, rfl⟩) rfl (fun _ h => h) (Yv.move rfl) ?_
      refine HW.take 8 rfl (by kernel_rfl) (by kernel_rfl) (by kernel_rfl) (fun _ _ _ h => h) (.inr ⟨_, _, 91, rfl, rfl, rfl⟩) rfl (fun _ h => h) (Yv.eq rfl rfl) ?_
      refine HW.take 9 rfl (by kernel_rfl) (by kernel_rfl) (by kernel_rfl) (fun _ _ _ h => h) (.inr ⟨_, _, 91, rfl, rfl, rfl⟩) rfl (fun _ h => h) (Yv.boolNe Try.underlying4 rfl rfl) ?_
      refine HW.take 10 rfl (by kernel_rfl) (by kernel_rfl) (by kernel_rfl) (fun _ _ _ h => h) (.inl rfl) rfl (fun _ h => h) (Yv.pickF rfl rfl) ?_
      refine HW.take 11 rfl (by kernel_rfl) (by kernel_rfl) (by kernel_rfl) (fun _ _ _ h => h) (.inl rfl) rfl (fun _ h => h) (Yv.move rfl) ?_
      refine HW.isB (c := false) 98 rfl (by simp) ?_
      refine HW.take 12 rfl (by kernel_rfl) (by kernel_rfl) (by kernel_rfl) (fun _ _ _ h => h) (.inr ⟨_, _, 98, rfl, rfl, rfl⟩) rfl (fun _ h => h) (Yv.move rfl) ?_
      refine HW.take 13 rfl (by kernel_rfl) (by kernel_rfl) (by kernel_rfl) (fun _ _ _ h => h) (.inr ⟨_, _, 98, rfl, rfl, rfl⟩) rfl (fun _ h => h) (Yv.eq rfl rfl) ?_
      refine HW.take 14 rfl (by kernel_rfl) (by kernel_rfl) (by kernel_rfl) (fun _ _ _ h => h) (.inr ⟨_, _, 98, rfl, rfl, rfl⟩) rfl (fun _ h => h) (Yv.move rfl) ?_
      refine HW.isT 101 rfl (rfl) ?_
      refine HW.take 15 rfl (by kernel_rfl) (by kernel_rfl) (by kernel_rfl) (fun _ _ _ h => h) (.inr ⟨_, _, 101, rfl, rfl, rfl⟩) rfl (fun _ h => h) (Yv.move rfl) ?_
      refine HW.take 17 rfl (by kernel_rfl) (by kernel_rfl) (by kernel_rfl) (fun _ _ _ h => h) (.inr ⟨_, _, 101, rfl, rfl, rfl⟩) rfl (fun _ h => h) (Yv.fieldAddr Try.underlying48 rfl Try.sizeOf3 rfl rfl) ?_
      refine HW.take 18 rfl (by kernel_rfl) (by kernel_rfl) (by kernel_rfl) (fun _ _ _ h => h) (.inr ⟨_, _, 101, rfl, rfl, rfl⟩) rfl (fun _ h => h) (Yv.load1 Try.isAgg3 rfl (CF.blk 6 rfl rfl)) ?_
      refine HW.run 16 rfl (by kernel_rfl) _ (.inr ⟨_, _, 101, rfl, rfl, rfl⟩) rfl (Ow.call e31 rfl (C.val (fun w hs => netN bh (netOf K (splitL (mergeL (renL name (mergeL l))))) _ (hs.now 2 rfl)))) (by rintro _ _ ⟨rfl, rfl⟩ w h; exact h) ?_
      rintro _ _ ⟨rfl, rfl⟩
      refine HW.take 19 rfl (by kernel_rfl) (by kernel_rfl) (by kernel_rfl) (fun _ _ _ h => h) (.inr ⟨_, _, 101, rfl, rfl, rfl⟩) rfl (fun _ h => h) (Yv.ne rfl rfl) ?_
      refine HW.take 20 rfl (by kernel_rfl) (by kernel_rfl) (by kernel_rfl) (fun _ _ _ h => h) (.inr ⟨_, _, 101, rfl, rfl, rfl⟩) rfl (fun _ h => h) (Yv.move rfl) ?_
      refine HW.isF 107 rfl (fun h => h (by show ((K.toNat : Nat) : Int) = K; omega)) ?_
      refine HW.take 21 rfl (by kernel_rfl) (by kernel_rfl) (by kernel_rfl) (fun _ _ _ h => h) (.inr ⟨_, _, 107, rfl, rfl, rfl⟩) rfl (fun _ h => h) (Yv.move rfl) ?_
      refine HW.take 23 rfl (by kernel_rfl) (by kernel_rfl) (by kernel_rfl) (fun _ _ _ h => h) (.inr ⟨_, _, 107, rfl, rfl, rfl⟩) rfl (fun _ h => h) (Yv.fieldAddr Try.underlying54 rfl Try.sizeOf37 rfl rfl) ?_
      refine HW.take 24 rfl (by kernel_rfl) (by kernel_rfl) (by kernel_rfl) (fun _ _ _ h => h) (.inr ⟨_, _, 107, rfl, rfl, rfl⟩) rfl (fun _ h => h) (Yv.fieldAddr Try.underlying37 rfl Try.sizeOf22 rfl rfl) ?_
      refine HW.take 25 rfl (by kernel_rfl) (by kernel_rfl) (by kernel_rfl) (fun _ _ _ h => h) (.inr ⟨_, _, 107, rfl, rfl, rfl⟩) rfl (fun _ h => h) (Yv.load1 Try.isAgg22 rfl (CF.blk 0 rfl rfl)) ?_
      refine HW.run 22 rfl (by kernel_rfl) _ (.inr ⟨_, _, 107, rfl, rfl, rfl⟩) rfl (Ow.call e33 rfl (C.new (val := id) (φ := fun _ => True) (Ψ := fun v_ => row v_ 72 3 ((mergeL (renL name (mergeL l))).length) (cellsE (mergeL (renL name (mergeL l))))) (fun w2 hs => (netEdgesIs bh (netOf K (splitL (mergeL (renL name (mergeL l))))) w2 (hs.now 2 rfl) (xs := mergeL (renL name (mergeL l))) hms).mono (fun e w3 ⟨v_, hv_, hb, F, hF, hk_⟩ => ⟨v_, trivial, hv_, hb, F, hF, hk_⟩)))) (by rintro _ _ ⟨v_he, -, rfl, rfl⟩ w h; exact (h).erase 0) ?_
      rintro _ _ ⟨v_he, -, rfl, rfl⟩
      refine HW.facts _ (fun w h => h.row_slice 0 rfl) ?_
      rintro ⟨Ah, ch, rfl⟩
      refine HW.run 26 rfl (by kernel_rfl) _ (.inr ⟨_, _, 107, rfl, rfl, rfl⟩) rfl (Ow.call e32 rfl (C.val (fun w hs => ref15Same _ Ah ch (mergeL (renL name (mergeL l))) (hs.row_Rd 0 rfl (by omega)) Aw cw (mergeL (renL name (mergeL l))) (hs.row_Rd 2 rfl (by omega))))) (by rintro _ _ ⟨rfl, rfl⟩ w h; exact (h).erase 0) ?_
      rintro _ _ ⟨rfl, rfl⟩
      refine HW.take 27 rfl (by kernel_rfl) (by kernel_rfl) (by kernel_rfl) (fun _ _ _ h => h) (.inr ⟨_, _, 107, rfl, rfl, rfl⟩) rfl (fun _ h => (h).erase 0) (Yv.not rfl) ?_
      refine HW.take 28 rfl (by kernel_rfl) (by kernel_rfl) (by kernel_rfl) (fun _ _ _ h => h) (.inr ⟨_, _, 101, rfl, rfl, rfl⟩) rfl (fun _ h => (h).erase 0) (Yv.pickF rfl rfl) ?_
      refine HW.take 29 rfl (by kernel_rfl) (by kernel_rfl) (by kernel_rfl) (fun _ _ _ h => h) (.inr ⟨_, _, 98, rfl, rfl, rfl⟩) rfl (fun _ h => (h).erase 0) (Yv.pickT rfl rfl) ?_
      refine HW.take 30 rfl (by kernel_rfl) (by kernel_rfl) (by kernel_rfl) (fun _ _ _ h => h) (.inl rfl) rfl (fun _ h => (h).erase 0) (Yv.pickF rfl rfl) ?_
      refine HW.done (by kernel_rfl) ?_
      refine PW.go ?_
      refine CW.cond rfl (fun hc117 => ?_) (fun hc117 => ?_)
      ·
        simp at hc117
      ·
        refine CW.skip ?_
        refine PW.go ?_
        refine CW.seq ?_
        refine CW.region ?_
        refine RW.y (.inl rfl) rfl (Yv.move rfl) ?_
        refine RW.y (.inl rfl) rfl (Yv.fieldAddr Try.underlying48 rfl Try.sizeOf3 rfl rfl) ?_
        refine RW.y (.inl rfl) rfl (Yv.load1 Try.isAgg3 rfl (CF.blk 7 rfl rfl)) ?_
        refine RW.y (.inl rfl) rfl (Yv.fieldAddr Try.underlying48 rfl Try.sizeOf3 rfl rfl) ?_
        refine RW.y (.inl rfl) rfl (Yv.load1 Try.isAgg3 rfl (CF.blk 7 rfl rfl)) ?_
        refine RW.o _ (.inl rfl) rfl (Ow.call e29 rfl (C.val (fun w hs => contractPair_err (.pointer (some ⟨bg, 0, none⟩)) n.toNat U W hU hW _ (gN (hs.now 6 rfl)) hb2))) ?_
        rintro _ _ ⟨rfl, rfl⟩
        refine RW.y (.inl rfl) rfl (Yv.move rfl) ?_
        refine RW.y (.inl rfl) rfl (Yv.extract rfl rfl) ?_
        refine RW.y (.inl rfl) rfl (Yv.extract rfl rfl) ?_
        refine RW.y (.inl rfl) rfl (Yv.extract rfl rfl) ?_
        refine RW.y (.inl rfl) rfl (Yv.assign rfl) ?_
        refine RW.y (.inl rfl) rfl (Yv.assign rfl) ?_
        refine RW.y (.inl rfl) rfl (Yv.assign rfl) ?_
        refine RW.nil ?_
        refine PW.go ?_
        refine CW.seq ?_
        refine CW.seq ?_
        refine CW.region ?_
        refine RW.y (.inl rfl) rfl (Yv.move rfl) ?_
        refine RW.y (.inl rfl) rfl (Yv.conv64 Try.underlying5 Try.underlying3 rfl (by omega)) ?_
        refine RW.y (.inl rfl) rfl (Yv.fieldAddr Try.underlying48 rfl Try.sizeOf3 rfl rfl) ?_
        refine RW.y (.inl rfl) rfl (Yv.load1 Try.isAgg3 rfl (CF.blk 7 rfl rfl)) ?_
        refine RW.y (.inl rfl) rfl (Yv.fieldAddr Try.underlying48 rfl Try.sizeOf3 rfl rfl) ?_
        refine RW.y (.inl rfl) rfl (Yv.load1 Try.isAgg3 rfl (CF.blk 7 rfl rfl)) ?_
        refine RW.o _ (.inl rfl) rfl (Ow.call e34 rfl (C.val (fun w hs => (hnt ▸ ref25Check (n.toNat : Int) U W _)))) ?_
        rintro _ _ ⟨rfl, rfl⟩
        refine RW.y (.inl rfl) rfl (Yv.assign rfl) ?_
        refine RW.nil ?_
        refine PW.go ?_
        refine CW.seq ?_
        refine CW.region ?_
        refine RW.y (.inl rfl) rfl (Yv.move rfl) ?_
        refine RW.y (.inl rfl) rfl (Yv.move rfl) ?_
        refine RW.y (.inl rfl) rfl (Yv.ne rfl rfl) ?_
        refine RW.nil ?_
        refine PW.go ?_
        refine CW.condD rfl (fun hc137 => ?_) (fun hc137 => ?_)
        ·
          exact absurd (by rw [hnt]) hc137
        ·
          refine CW.skip ?_
          refine PW.go ?_
          refine CW.seq ?_
          refine CW.seq ?_
          refine CW.region ?_
          refine RW.y (.inl rfl) rfl (Yv.move rfl) ?_
          refine RW.y (.inl rfl) rfl (Yv.ne rfl rfl) ?_
          refine RW.nil ?_
          refine PW.go ?_
          refine CW.condD rfl (fun hc139 => ?_) (fun hc139 => ?_)
          ·
            refine CW.seq ?_
            refine CW.region ?_
            refine RW.y (.inl rfl) rfl (Yv.move rfl) ?_
            refine RW.y (.inl rfl) rfl (Yv.ptrNil Try.underlying25 rfl rfl) ?_
            refine RW.y (.inl rfl) rfl (Yv.move rfl) ?_
            refine RW.isB (c := true) 142 rfl (rfl) ?_
            refine RW.y (.inr ⟨_, _, 142, rfl, rfl, rfl⟩) rfl (Yv.move rfl) ?_
            refine RW.y (.inr ⟨_, _, 142, rfl, rfl, rfl⟩) rfl (Yv.len Try.underlying32 rfl) ?_
            refine RW.y (.inr ⟨_, _, 142, rfl, rfl, rfl⟩) rfl (Yv.eq rfl rfl) ?_
            refine RW.y (.inl rfl) rfl (Yv.pickT rfl rfl) ?_
            refine RW.y (.inl rfl) rfl (Yv.move rfl) ?_
            refine RW.isT 147 rfl (rfl) ?_
            refine RW.o _ (.inr ⟨_, _, 147, rfl, rfl, rfl⟩) rfl (Ow.call e27 rfl (C.val (fun w hs => awake40 _))) ?_
            rintro _ _ ⟨rfl, rfl⟩
            refine RW.y (.inl rfl) rfl (Yv.pickT rfl rfl) ?_
            refine RW.y (.inl rfl) rfl (Yv.assign rfl) ?_
            refine RW.nil ?_
            refine PW.go ?_
            refine CW.ret ?_
            refine PW.then_ret ?_
            refine PW.ret1 Try.results5 rfl (fun w1 hs => ?_)
            exact ⟨by first | rfl | simp, hs.mod.below⟩
          ·
            exact absurd (by unfold pairErr; by_cases h : U < 0 ∨ (n.toNat : Int) ≤ U ∨ W < 0 ∨ (n.toNat : Int) ≤ W; rw [if_pos h]; omega; rw [if_neg h, if_pos (by omega)]; omega) hc139

set_option maxRecDepth 100000 in
theorem ct_eo (n : Int) (hn : 0 ≤ n ∧ n ≤ 255) (A : Option Addr) (c : Nat) (l : List Edg) (K U W : Int) (hK : -9223372036854775808 ≤ K ∧ K ≤ 9223372036854775807) (hU : -9223372036854775808 ≤ U ∧ U ≤ 9223372036854775807) (hW : -9223372036854775808 ≤ W ∧ W ≤ 9223372036854775807) (B : Option Addr) (d : Nat) (name : List Int) (w : World) (hr : Rd w A 3 l.length (cellsE l)) (hrn : Rd w B 1 name.length (i64s name)) (hl60 : l.length ≤ 60) (hnm : name.length ≤ 300) (hK3 : K ≤ 300) (hok : NewOk n l) (hb1 : ¬ (name.length = n.toNat ∧ namB K name = true)) (hb2 : (0 ≤ U ∧ U < (n.toNat : Int)) ∧ (0 ≤ W ∧ W < (n.toNat : Int)) ∧ U ≠ W) : Calls Try.prog 5 #[.int .u8 n, .slice A l.length c, .agg #[.int .i64 K, .slice B name.length d, .int .i64 U, .int .i64 W]] w fun e w1 => e = .returned (.bool true) ∧ Gr w w1 := by
  have hml := mergeL_length l
  have hao := hok.arcs
  have htt := newOk_tot hok hl60
  have hnn : nonneg (mergeL l) := fun e he => (hao.wts e he).1
  have hrl := renL_length name (mergeL l)
  have hml2 := mergeL_length (renL name (mergeL l))
  have hml3 := mergeL_length (renL (pairNm n.toNat U W) (mergeL l))
  have hrl3 := renL_length (pairNm n.toNat U W) (mergeL l)
  have hms := merge_split (renL_nonneg (name := name) hnn)
  have hms2 := merge_split (renL_nonneg (name := pairNm n.toNat U W) hnn)
  have hpl := pairNm_length n.toNat U W
  have hnt : ((n.toNat : Nat) : Int) = n := by omega
  have hpb := pair_nam (n := n.toNat) (u := U) (v := W) (by omega) hb2.1 hb2.2.1 hb2.2.2
  refine CW.enter (P := Try.prog) (F0 := none0) (L := [(0, _), (1, _), (2, _)]) 180 [] Try.func5 rfl Try.ntmps5 (Nat.le_of_ble_eq_true rfl) (St.start w none0) rfl ?_
  refine CW.seq ?_
  refine CW.region ?_
  refine RW.o _ (.inl rfl) rfl (Ow.box (cs := [_, _, _, _]) rfl rfl) ?_
  rintro _ _ ⟨b5, rfl, rfl⟩
  refine RW.y (.inl rfl) rfl (Yv.assign rfl) ?_
  refine RW.nil ?_
  refine PW.go ?_
  refine CW.seq ?_
  refine CW.seq ?_
  refine CW.region ?_
  refine RW.y (.inl rfl) rfl (Yv.move rfl) ?_
  refine RW.y (.inl rfl) rfl (Yv.len Try.underlying22 rfl) ?_
  refine RW.y (.inl rfl) rfl (Yv.gt rfl rfl) ?_
  refine RW.y (.inl rfl) rfl (Yv.move rfl) ?_
  refine RW.isF 27 rfl (by omega) ?_
  refine RW.y (.inr ⟨_, _, 27, rfl, rfl, rfl⟩) rfl (Yv.fieldAddr Try.underlying48 rfl Try.sizeOf32 rfl rfl) ?_
  refine RW.y (.inr ⟨_, _, 27, rfl, rfl, rfl⟩) rfl (Yv.load1 Try.isAgg32 rfl (CF.blk 0 rfl rfl)) ?_
  refine RW.y (.inr ⟨_, _, 27, rfl, rfl, rfl⟩) rfl (Yv.len Try.underlying32 rfl) ?_
  refine RW.y (.inr ⟨_, _, 27, rfl, rfl, rfl⟩) rfl (Yv.gt rfl rfl) ?_
  refine RW.y (.inl rfl) rfl (Yv.pickF rfl rfl) ?_
  refine RW.y (.inl rfl) rfl (Yv.move rfl) ?_
  refine RW.isF 33 rfl (by omega) ?_
  refine RW.y (.inr ⟨_, _, 33, rfl, rfl, rfl⟩) rfl (Yv.fieldAddr Try.underlying48 rfl Try.sizeOf3 rfl rfl) ?_
  refine RW.y (.inr ⟨_, _, 33, rfl, rfl, rfl⟩) rfl (Yv.load1 Try.isAgg3 rfl (CF.blk 0 rfl rfl)) ?_
  refine RW.y (.inr ⟨_, _, 33, rfl, rfl, rfl⟩) rfl (Yv.gt rfl rfl) ?_
  refine RW.y (.inl rfl) rfl (Yv.pickF rfl rfl) ?_
  refine RW.nil ?_
  refine PW.go ?_
  refine CW.condD rfl (fun hc37 => ?_) (fun hc37 => ?_)
  ·
    omega
  ·
    refine CW.skip ?_
    refine PW.go ?_
    refine CW.seq ?_
    refine CW.region ?_
    refine RW.y (.inl rfl) rfl (Yv.move rfl) ?_
    refine RW.y (.inl rfl) rfl (Yv.conv64 Try.underlying5 Try.underlying3 rfl (by omega)) ?_
    refine RW.y (.inl rfl) rfl (Yv.move rfl) ?_
    refine RW.o _ (.inl rfl) rfl (Ow.call e8 rfl (C.new (val := fun (b : Nat) => .tuple #[.pointer (some ⟨b, 0, none⟩), .int .i64 0, .int .i64 0]) (φ := fun _ => True) (Ψ := fun b => nowA (fun w' => IsNet w' b (netOf n l))) (fun w2 hs => (netNew_ok n A c l w2 (hr.below hs.mod.below) hok).mono (fun en w3 ⟨b, ht, he, hb, F, hF, hk⟩ => ⟨b, ht, he, hb, F, hF, hk⟩)))) ?_
    rintro _ _ ⟨bg, -, rfl, rfl⟩
    refine RW.y (.inl rfl) rfl (Yv.move rfl) ?_
    refine RW.y (.inl rfl) rfl (Yv.extract rfl rfl) ?_
    refine RW.y (.inl rfl) rfl (Yv.extract rfl rfl) ?_
    refine RW.y (.inl rfl) rfl (Yv.extract rfl rfl) ?_
    refine RW.y (.inl rfl) rfl (Yv.assign rfl) ?_
    refine RW.y (.inl rfl) rfl (Yv.assign rfl) ?_
    refine RW.y (.inl rfl) rfl (Yv.assign rfl) ?_
    refine RW.nil ?_
    refine PW.go ?_
    refine CW.seq ?_
    refine CW.seq ?_
    refine CW.region ?_
    refine RW.y (.inl rfl) rfl (Yv.move rfl) ?_
    refine RW.y (.inl rfl) rfl (Yv.ne rfl rfl) ?_
    refine RW.nil ?_
    refine PW.go ?_
    refine CW.condD rfl (fun hc48 => ?_) (fun hc48 => ?_)
    ·
      exact absurd rfl hc48
    ·
      refine CW.skip ?_
      refine PW.go ?_
      refine CW.seq ?_
      refine CW.region ?_
      refine RW.y (.inl rfl) rfl (Yv.move rfl) ?_
      refine RW.y (.inl rfl) rfl (Yv.conv64 Try.underlying5 Try.underlying3 rfl (by omega)) ?_
      refine RW.y (.inl rfl) rfl (Yv.move rfl) ?_
      refine RW.o _ (.inl rfl) rfl (Ow.call e16 rfl (C.new (val := fun (p : Option Addr × Nat) => .agg #[.int .i64 n, .slice p.1 (mergeL l).length p.2, .int .i64 0, .int .i64 0]) (φ := fun _ => True) (Ψ := fun p => row (.slice p.1 (mergeL l).length p.2) 72 3 (mergeL l).length (cellsE (mergeL l))) (fun w2 hs => (ref16New_ok n A c l w2 (hr.below hs.mod.below) hok).mono (fun en w3 ⟨p, he, hb, F, hF, hk⟩ => ⟨p, trivial, he, hb, F, hF, hk⟩)))) ?_
      rintro _ _ ⟨⟨Am, cm⟩, -, rfl, rfl⟩
      refine RW.y (.inl rfl) rfl (Yv.fieldK (vs := [_, _]) Try.underlying39 rfl Try.isAgg37 Try.sizeOf37 rfl rfl) ?_
      refine RW.o _ (.inl rfl) rfl (Ow.alloc (cs := [_, _]) Try.zeroValue37 rfl) ?_
      rintro _ _ ⟨b15, rfl, rfl⟩
      refine RW.o _ (.inl rfl) rfl (Ow.storeW (vs := [_, _]) 0 Try.sizeOf37 rfl rfl (rfl) rfl (rfl)) ?_
      rintro _ _ ⟨rfl, rfl⟩
      refine RW.nil ?_
      refine PW.go ?_
      refine CW.seq ?_
      refine CW.region ?_
      refine RW.y (.inl rfl) rfl (Yv.move rfl) ?_
      refine RW.y (.inl rfl) rfl (Yv.fieldAddr Try.underlying48 rfl Try.sizeOf3 rfl rfl) ?_
      refine RW.y (.inl rfl) rfl (Yv.load1 Try.isAgg3 rfl (CF.blk 3 rfl rfl)) ?_
      refine RW.y (.inl rfl) rfl (Yv.fieldAddr Try.underlying48 rfl Try.sizeOf32 rfl rfl) ?_
      refine RW.y (.inl rfl) rfl (Yv.load1 Try.isAgg32 rfl (CF.blk 3 rfl rfl)) ?_
      refine RW.o _ (.inl rfl) rfl (Ow.call e28 rfl (C.val (fun w hs => contractOf_err (.pointer (some ⟨bg, 0, none⟩)) n.toNat K B d name w (hrn.below hs.mod.below) (gN (hs.now 2 rfl)) hb1))) ?_
      rintro _ _ ⟨rfl, rfl⟩
      refine RW.y (.inl rfl) rfl (Yv.move rfl) ?_
      refine RW.y (.inl rfl) rfl (Yv.extract rfl rfl) ?_
      refine RW.y (.inl rfl) rfl (Yv.extract rfl rfl) ?_
      refine RW.y (.inl rfl) rfl (Yv.assign rfl) ?_
      refine RW.y (.inl rfl) rfl (Yv.assign rfl) ?_
      refine RW.nil ?_
      refine PW.go ?_
      refine CW.seq ?_
      refine CW.region ?_
      refine RW.y (.inl rfl) rfl (Yv.loadK (vs := [_, _]) Try.isAgg37 Try.sizeOf37 rfl (CFs.whole 0 rfl)) ?_
      refine RW.y (.inl rfl) rfl (Yv.fieldAddr Try.underlying48 rfl Try.sizeOf3 rfl rfl) ?_
      refine RW.y (.inl rfl) rfl (Yv.load1 Try.isAgg3 rfl (CF.blk 3 rfl rfl)) ?_
      refine RW.y (.inl rfl) rfl (Yv.fieldAddr Try.underlying48 rfl Try.sizeOf32 rfl rfl) ?_
      refine RW.y (.inl rfl) rfl (Yv.load1 Try.isAgg32 rfl (CF.blk 3 rfl rfl)) ?_
      have hx0 := hnt
      refine RW.o _ (.inl rfl) rfl (Ow.call e30 rfl (C.val (fun w hs => (hnt ▸ ref40Of_err n.toNat Am cm (mergeL l) K hK B d name w (hs.row_Rd 1 rfl (by omega)) (hrn.below hs.mod.below) hb1)))) ?_
      rintro _ _ ⟨rfl, rfl⟩
      refine RW.o _ (.inl rfl) rfl (Ow.alloc (cs := [_, _, _]) Try.zeroValue54 rfl) ?_
      rintro _ _ ⟨b18, rfl, rfl⟩
      refine RW.o _ (.inl rfl) rfl (Ow.storeW (vs := [_, _, _]) 0 Try.sizeOf54 rfl rfl (rfl) rfl (rfl)) ?_
      rintro _ _ ⟨rfl, rfl⟩
      refine RW.nil ?_
      refine PW.go ?_
      refine CW.seq ?_
      refine CW.seq ?_
      refine CW.draw0 mixed ?_
      refine HW.take 0 rfl (by kernel_rfl) (by kernel_rfl) (by kernel_rfl) (fun _ _ _ h => h) (.inl rfl) rfl (fun _ h => h) (Yv.move rfl) ?_
      refine HW.take 1 rfl (by kernel_rfl) (by kernel_rfl) (by kernel_rfl) (fun _ _ _ h => h) (.inl rfl) rfl (fun _ h => h) (Yv.fieldAddr Try.underlying54 rfl Try.sizeOf26 rfl rfl) ?_
      refine HW.take 2 rfl (by kernel_rfl) (by kernel_rfl) (by kernel_rfl) (fun _ _ _ h => h) (.inl rfl) rfl (fun _ h => h) (Yv.load1 Try.isAgg26 rfl (CF.blk 0 rfl rfl)) ?_
      refine HW.take 3 rfl (by kernel_rfl) (by kernel_rfl) (by kernel_rfl) (fun _ _ _ h => h) (.inl rfl) rfl (fun _ h => h) (Yv.ne rfl rfl) ?_
      refine HW.take 4 rfl (by kernel_rfl) (by kernel_rfl) (by kernel_rfl) (fun _ _ _ h => h) (.inl rfl) rfl (fun _ h => h) (Yv.move rfl) ?_
      refine HW.isF 91 rfl (by simp) ?_
      refine HW.take 5 rfl (by kernel_rfl) (by kernel_rfl) (by kernel_rfl) (fun _ _ _ h => h) (.inr ⟨_, _, 91, rfl, rfl, rfl⟩) rfl (fun _ h => h) (Yv.move rfl) ?_
      refine HW.take 6 rfl (by kernel_rfl) (by kernel_rfl) (by kernel_rfl) (fun _ _ _ h => h) (.inr ⟨_, _, 91, rfl, rfl, rfl⟩) rfl (fun _ h => h) (Yv.ptrNotNil Try.underlying25 rfl rfl) ?_
      refine HW.take 7 rfl (by kernel_rfl) (by kernel_rfl) (by kernel_rfl) (fun _ _ _ h => h) (.inr ⟨_, _, 91, rfl, rfl, rfl⟩) rfl (fun _ h => h) (Yv.move rfl) ?_
      refine HW.take 8 rfl (by kernel_rfl) (by kernel_rfl) (by kernel_rfl) (fun _ _ _ h => h) (.inr ⟨_, _, 91, rfl, rfl, rfl⟩) rfl (fun _ h => h) (Yv.eq rfl rfl) ?_
      refine HW.take 9 rfl (by kernel_rfl) (by kernel_rfl) (by kernel_rfl) (fun _ _ _ h => h) (.inr ⟨_, _, 91, rfl, rfl, rfl⟩) rfl (fun _ h => h) (Yv.boolNe Try.underlying4 rfl rfl) ?_
      refine HW.take 10 rfl (by kernel_rfl) (by kernel_rfl) (by kernel_rfl) (fun _ _ _ h => h) (.inl rfl) rfl (fun _ h => h) (Yv.pickF rfl rfl) ?_
      refine HW.take 11 rfl (by kernel_rfl) (by kernel_rfl) (by kernel_rfl) (fun _ _ _ h => h) (.inl rfl) rfl (fun _ h => h) (Yv.move rfl) ?_
      refine HW.isB (c := false) 98 rfl (by simp) ?_
      refine HW.take 12 rfl (by kernel_rfl) (by kernel_rfl) (by kernel_rfl) (fun _ _ _ h => h) (.inr ⟨_, _, 98, rfl, rfl, rfl⟩) rfl (fun _ h => h) (Yv.move rfl) ?_
      refine HW.take 13 rfl (by kernel_rfl) (by kernel_rfl) (by kernel_rfl) (fun _ _ _ h => h) (.inr ⟨_, _, 98, rfl, rfl, rfl⟩) rfl (fun _ h => h) (Yv.eq rfl rfl) ?_
      refine HW.take 14 rfl (by kernel_rfl) (by kernel_rfl) (by kernel_rfl) (fun _ _ _ h => h) (.inr ⟨_, _, 98, rfl, rfl, rfl⟩) rfl (fun _ h => h) (Yv.move rfl) ?_
      refine HW.isF 101 rfl (by simp) ?_
      refine HW.skip 15 rfl (by kernel_rfl) (by kernel_rfl) (by kernel_rfl) (fun _ _ _ h => h) ⟨_, _, 101, _, rfl, rfl, rfl, fun h => by simp [undef] at h⟩ rfl (fun _ h => h) ?_
      refine HW.skip 17 rfl (by kernel_rfl) (by kernel_rfl) (by kernel_rfl) (fun _ _ _ h => h) ⟨_, _, 101, _, rfl, rfl, rfl, fun h => by simp [undef] at h⟩ rfl (fun _ h => h) ?_
      refine HW.skip 18 rfl (by kernel_rfl) (by kernel_rfl) (by kernel_rfl) (fun _ _ _ h => h) ⟨_, _, 101, _, rfl, rfl, rfl, fun h => by simp [undef] at h⟩ rfl (fun _ h => h) ?_
      refine HW.skip 16 rfl (by kernel_rfl) (by kernel_rfl) (by kernel_rfl) (fun _ _ _ h => h) ⟨_, _, 101, _, rfl, rfl, rfl, fun h => by simp [undef] at h⟩ rfl (fun _ h => h) ?_
      refine HW.skip 19 rfl (by kernel_rfl) (by kernel_rfl) (by kernel_rfl) (fun _ _ _ h => h) ⟨_, _, 101, _, rfl, rfl, rfl, fun h => by simp [undef] at h⟩ rfl (fun _ h => h) ?_
      refine HW.skip 20 rfl (by kernel_rfl) (by kernel_rfl) (by kernel_rfl) (fun _ _ _ h => h) ⟨_, _, 101, _, rfl, rfl, rfl, fun h => by simp [undef] at h⟩ rfl (fun _ h => h) ?_
      refine HW.skip 21 rfl (by kernel_rfl) (by kernel_rfl) (by kernel_rfl) (fun _ _ _ h => h) ⟨_, _, 107, _, rfl, rfl, rfl, fun h => by simp [undef] at h⟩ rfl (fun _ h => h) ?_
      refine HW.skip 23 rfl (by kernel_rfl) (by kernel_rfl) (by kernel_rfl) (fun _ _ _ h => h) ⟨_, _, 107, _, rfl, rfl, rfl, fun h => by simp [undef] at h⟩ rfl (fun _ h => h) ?_
      refine HW.skip 24 rfl (by kernel_rfl) (by kernel_rfl) (by kernel_rfl) (fun _ _ _ h => h) ⟨_, _, 107, _, rfl, rfl, rfl, fun h => by simp [undef] at h⟩ rfl (fun _ h => h) ?_
      refine HW.skip 25 rfl (by kernel_rfl) (by kernel_rfl) (by kernel_rfl) (fun _ _ _ h => h) ⟨_, _, 107, _, rfl, rfl, rfl, fun h => by simp [undef] at h⟩ rfl (fun _ h => h) ?_
      refine HW.skip 22 rfl (by kernel_rfl) (by kernel_rfl) (by kernel_rfl) (fun _ _ _ h => h) ⟨_, _, 107, _, rfl, rfl, rfl, fun h => by simp [undef] at h⟩ rfl (fun _ h => h) ?_
      refine HW.skip 26 rfl (by kernel_rfl) (by kernel_rfl) (by kernel_rfl) (fun _ _ _ h => h) ⟨_, _, 107, _, rfl, rfl, rfl, fun h => by simp [undef] at h⟩ rfl (fun _ h => h) ?_
      refine HW.skip 27 rfl (by kernel_rfl) (by kernel_rfl) (by kernel_rfl) (fun _ _ _ h => h) ⟨_, _, 107, _, rfl, rfl, rfl, fun h => by simp [undef] at h⟩ rfl (fun _ h => h) ?_
      refine HW.skip 28 rfl (by kernel_rfl) (by kernel_rfl) (by kernel_rfl) (fun _ _ _ h => h) ⟨_, _, 101, _, rfl, rfl, rfl, fun h => by simp [undef] at h⟩ rfl (fun _ h => h) ?_
      refine HW.take 29 rfl (by kernel_rfl) (by kernel_rfl) (by kernel_rfl) (fun _ _ _ h => h) (.inr ⟨_, _, 98, rfl, rfl, rfl⟩) rfl (fun _ h => h) (Yv.pickF rfl rfl) ?_
      refine HW.take 30 rfl (by kernel_rfl) (by kernel_rfl) (by kernel_rfl) (fun _ _ _ h => h) (.inl rfl) rfl (fun _ h => h) (Yv.pickF rfl rfl) ?_
      refine HW.done (by kernel_rfl) ?_
      refine PW.go ?_
      refine CW.condF rfl ?_
      refine CW.skip ?_
      refine PW.go ?_
      refine CW.seq ?_
      refine CW.region ?_
      refine RW.y (.inl rfl) rfl (Yv.move rfl) ?_
      refine RW.y (.inl rfl) rfl (Yv.fieldAddr Try.underlying48 rfl Try.sizeOf3 rfl rfl) ?_
      refine RW.y (.inl rfl) rfl (Yv.load1 Try.isAgg3 rfl (CF.blk 4 rfl rfl)) ?_
      refine RW.y (.inl rfl) rfl (Yv.fieldAddr Try.underlying48 rfl Try.sizeOf3 rfl rfl) ?_
      refine RW.y (.inl rfl) rfl (Yv.load1 Try.isAgg3 rfl (CF.blk 4 rfl rfl)) ?_
      refine RW.o _ (.inl rfl) rfl (Ow.call e29 rfl (C.new (val := fun (x : Nat × Value) => .tuple #[.pointer (some ⟨x.1, 0, none⟩), x.2, .int .i64 0]) (φ := fun _ => True) (Ψ := fun x => Ass.star (nowA (fun w' => IsNet w' x.1 (netOf (((n.toNat : Nat) : Int) - 1) (splitL (mergeL (renL (pairNm n.toNat U W) (mergeL l))))))) (row x.2 3 1 (n.toNat) (i64s (pairNm n.toNat U W)))) (fun w2 hs => contractPair (.pointer (some ⟨bg, 0, none⟩)) n.toNat (mergeL l) hao (by omega) htt U W w2 (gN (hs.now 3 rfl)) (gE (hs.now 3 rfl)) hb2))) ?_
      rintro _ _ ⟨⟨bp, vp⟩, -, rfl, rfl⟩
      refine RW.mem _ (fun w h => h.split) ?_
      refine RW.facts _ (fun w h => h.row_slice 1 rfl) ?_
      rintro ⟨An, cn, rfl⟩
      refine RW.y (.inl rfl) rfl (Yv.move rfl) ?_
      refine RW.y (.inl rfl) rfl (Yv.extract rfl rfl) ?_
      refine RW.y (.inl rfl) rfl (Yv.extract rfl rfl) ?_
      refine RW.y (.inl rfl) rfl (Yv.extract rfl rfl) ?_
      refine RW.y (.inl rfl) rfl (Yv.assign rfl) ?_
      refine RW.y (.inl rfl) rfl (Yv.assign rfl) ?_
      refine RW.y (.inl rfl) rfl (Yv.assign rfl) ?_
      refine RW.nil ?_
      refine PW.go ?_
      refine CW.seq ?_
      refine CW.seq ?_
      refine CW.region ?_
      refine RW.y (.inl rfl) rfl (Yv.move rfl) ?_
      refine RW.y (.inl rfl) rfl (Yv.conv64 Try.underlying5 Try.underlying3 rfl (by omega)) ?_
      refine RW.y (.inl rfl) rfl (Yv.fieldAddr Try.underlying48 rfl Try.sizeOf3 rfl rfl) ?_
      refine RW.y (.inl rfl) rfl (Yv.load1 Try.isAgg3 rfl (CF.blk 6 rfl rfl)) ?_
      refine RW.y (.inl rfl) rfl (Yv.fieldAddr Try.underlying48 rfl Try.sizeOf3 rfl rfl) ?_
      refine RW.y (.inl rfl) rfl (Yv.load1 Try.isAgg3 rfl (CF.blk 6 rfl rfl)) ?_
      refine RW.o _ (.inl rfl) rfl (Ow.call e34 rfl (C.val (fun w hs => (hnt ▸ ref25Check (n.toNat : Int) U W _)))) ?_
      rintro _ _ ⟨rfl, rfl⟩
      refine RW.y (.inl rfl) rfl (Yv.assign rfl) ?_
      refine RW.nil ?_
      refine PW.go ?_
      refine CW.seq ?_
      refine CW.region ?_
      refine RW.y (.inl rfl) rfl (Yv.move rfl) ?_
      refine RW.y (.inl rfl) rfl (Yv.move rfl) ?_
      refine RW.y (.inl rfl) rfl (Yv.ne rfl rfl) ?_
      refine RW.nil ?_
      refine PW.go ?_
      refine CW.condD rfl (fun hc137 => ?_) (fun hc137 => ?_)
      ·
        exact absurd (by unfold pairErr; rw [if_neg (by omega), if_neg (by omega)]) hc137
      ·
        refine CW.skip ?_
        refine PW.go ?_
        refine CW.seq ?_
        refine CW.seq ?_
        refine CW.region ?_
        refine RW.y (.inl rfl) rfl (Yv.move rfl) ?_
        refine RW.y (.inl rfl) rfl (Yv.ne rfl rfl) ?_
        refine RW.nil ?_
        refine PW.go ?_
        refine CW.condD rfl (fun hc139 => ?_) (fun hc139 => ?_)
        ·
          exact absurd rfl hc139
        ·
          refine CW.skip ?_
          refine PW.go ?_
          refine CW.seq ?_
          refine CW.region ?_
          refine RW.y (.inl rfl) rfl (Yv.move rfl) ?_
          refine RW.y (.inl rfl) rfl (Yv.conv64 Try.underlying5 Try.underlying3 rfl (by omega)) ?_
          refine RW.y (.inl rfl) rfl (Yv.fieldAddr Try.underlying48 rfl Try.sizeOf3 rfl rfl) ?_
          refine RW.y (.inl rfl) rfl (Yv.load1 Try.isAgg3 rfl (CF.blk 6 rfl rfl)) ?_
          refine RW.y (.inl rfl) rfl (Yv.fieldAddr Try.underlying48 rfl Try.sizeOf3 rfl rfl) ?_
          refine RW.y (.inl rfl) rfl (Yv.load1 Try.isAgg3 rfl (CF.blk 6 rfl rfl)) ?_
          refine RW.o _ (.inl rfl) rfl (Ow.call e35 rfl (C.new (val := id) (φ := fun _ => True) (Ψ := fun v_ => row v_ 3 1 ((pairNm n.toNat U W).length) (i64s (pairNm n.toNat U W))) (fun w2 hs => ((hnt ▸ ref40Pair n.toNat (by omega) U W w2)).mono (fun e w3 ⟨v_, hv_, hb, F, hF, hk_⟩ => ⟨v_, trivial, hv_, hb, F, hF, hk_⟩)))) ?_
          rintro _ _ ⟨v_q, -, rfl, rfl⟩
          refine RW.y (.inl rfl) rfl (Yv.assign rfl) ?_
          refine RW.nil ?_
          refine PW.go ?_
          refine CW.seq ?_
          refine CW.facts _ (fun w h => h.row_slice 0 rfl) ?_
          rintro ⟨Aq, cq, rfl⟩
          refine CW.draw0 mixed ?_
          refine HW.take 0 rfl (by kernel_rfl) (by kernel_rfl) (by kernel_rfl) (fun _ _ _ h => h) (.inl rfl) rfl (fun _ h => h) (Yv.move rfl) ?_
          refine HW.take 1 rfl (by kernel_rfl) (by kernel_rfl) (by kernel_rfl) (fun _ _ _ h => h) (.inl rfl) rfl (fun _ h => h) (Yv.move rfl) ?_
          refine HW.run 2 rfl (by kernel_rfl) _ (.inl rfl) rfl (Ow.call e20 rfl (C.val (fun w hs => (by have h := ref09Ints w An cn (pairNm n.toNat U W) (by rw [hpl]; exact hs.row_Rd 2 rfl (by omega)) Aq cq (pairNm n.toNat U W) (hs.row_Rd 0 rfl (by omega)); rw [hpl] at h ⊢; exact h)))) (by rintro _ _ ⟨rfl, rfl⟩ w h; exact h) ?_
          rintro _ _ ⟨rfl, rfl⟩
          refine HW.take 3 rfl (by kernel_rfl) (by kernel_rfl) (by kernel_rfl) (fun _ _ _ h => h) (.inl rfl) rfl (fun _ h => h) (Yv.move rfl) ?_
          refine HW.isT 160 rfl (rfl) ?_
          refine HW.take 4 rfl (by kernel_rfl) (by kernel_rfl) (by kernel_rfl) (fun _ _ _ h => h) (.inr ⟨_, _, 160, rfl, rfl, rfl⟩) rfl (fun _ h => h) (Yv.move rfl) ?_
          refine HW.take 5 rfl (by kernel_rfl) (by kernel_rfl) (by kernel_rfl) (fun _ _ _ h => h) (.inr ⟨_, _, 160, rfl, rfl, rfl⟩) rfl (fun _ h => h) (Yv.ptrNotNil Try.underlying25 rfl rfl) ?_
          refine HW.take 6 rfl (by kernel_rfl) (by kernel_rfl) (by kernel_rfl) (fun _ _ _ h => h) (.inl rfl) rfl (fun _ h => h) (Yv.pickT rfl rfl) ?_
          refine HW.take 7 rfl (by kernel_rfl) (by kernel_rfl) (by kernel_rfl) (fun _ _ _ h => h) (.inl rfl) rfl (fun _ h => h) (Yv.move rfl) ?_
          refine HW.isB (c := true) 164 rfl (rfl) ?_
          refine HW.take 8 rfl (by kernel_rfl) (by kernel_rfl) (by kernel_rfl) (fun _ _ _ h => h) (.inr ⟨_, _, 164, rfl, rfl, rfl⟩) rfl (fun _ h => h) (Yv.move rfl) ?_
          refine HW.take 10 rfl (by kernel_rfl) (by kernel_rfl) (by kernel_rfl) (fun _ _ _ h => h) (.inr ⟨_, _, 164, rfl, rfl, rfl⟩) rfl (fun _ h => h) (Yv.loadK (vs := [_, _]) Try.isAgg37 Try.sizeOf37 rfl (CFs.whole 4 rfl)) ?_
          refine HW.take 11 rfl (by kernel_rfl) (by kernel_rfl) (by kernel_rfl) (fun _ _ _ h => h) (.inr ⟨_, _, 164, rfl, rfl, rfl⟩) rfl (fun _ h => h) (Yv.move rfl) ?_
          refine HW.take 12 rfl (by kernel_rfl) (by kernel_rfl) (by kernel_rfl) (fun _ _ _ h => h) (.inr ⟨_, _, 164, rfl, rfl, rfl⟩) rfl (fun _ h => h) (Yv.conv64 Try.underlying5 Try.underlying3 rfl (by omega)) ?_
          refine HW.take 13 rfl (by kernel_rfl) (by kernel_rfl) (by kernel_rfl) (fun _ _ _ h => h) (.inr ⟨_, _, 164, rfl, rfl, rfl⟩) rfl (fun _ h => h) (Yv.sub rfl rfl (by omega)) ?_
          refine HW.take 14 rfl (by kernel_rfl) (by kernel_rfl) (by kernel_rfl) (fun _ _ _ h => h) (.inr ⟨_, _, 164, rfl, rfl, rfl⟩) rfl (fun _ h => h) (Yv.move rfl) ?_
          refine HW.run 9 rfl (by kernel_rfl) _ (.inr ⟨_, _, 164, rfl, rfl, rfl⟩) rfl (Ow.call e33 rfl (C.new (val := id) (φ := fun _ => True) (Ψ := fun v_ => row v_ 72 3 ((mergeL (renL (pairNm n.toNat U W) (mergeL l))).length) (cellsE (mergeL (renL (pairNm n.toNat U W) (mergeL l))))) (fun w2 hs => (netEdgesIs bp (netOf (((n.toNat : Nat) : Int) - 1) (splitL (mergeL (renL (pairNm n.toNat U W) (mergeL l))))) w2 (hs.now 1 rfl) (xs := mergeL (renL (pairNm n.toNat U W) (mergeL l))) hms2).mono (fun e w3 ⟨v_, hv_, hb, F, hF, hk_⟩ => ⟨v_, trivial, hv_, hb, F, hF, hk_⟩)))) (by rintro _ _ ⟨v_pe, -, rfl, rfl⟩ w h; exact (h).erase 0) ?_
          rintro _ _ ⟨v_pe, -, rfl, rfl⟩
          refine HW.run 15 rfl (by kernel_rfl) _ (.inr ⟨_, _, 164, rfl, rfl, rfl⟩) rfl (Ow.call e30 rfl (C.new (val := fun (p : Option Addr × Nat) => .agg #[.int .i64 (n - 1), .slice p.1 (mergeL (renL (pairNm n.toNat U W) (mergeL l))).length p.2, .int .i64 0]) (φ := fun _ => True) (Ψ := fun p => row (.slice p.1 (mergeL (renL (pairNm n.toNat U W) (mergeL l))).length p.2) 72 3 (mergeL (renL (pairNm n.toNat U W) (mergeL l))).length (cellsE (mergeL (renL (pairNm n.toNat U W) (mergeL l))))) (fun w2 hs => by
              have h := ref40Of n.toNat Am cm (mergeL l) (((n.toNat : Nat) : Int) - 1) (by omega) Aq cq (pairNm n.toNat U W) w2 (hs.row_Rd 6 rfl (by omega)) (hs.row_Rd 1 rfl (by omega)) hao (by omega) htt ⟨hpl, hpb⟩
              rw [hnt] at h
              exact h))) (by rintro _ _ ⟨⟨Av, cv⟩, -, rfl, rfl⟩ w h; exact ((h).erase 0).erase 0) ?_
          rintro _ _ ⟨⟨Av, cv⟩, -, rfl, rfl⟩
          refine HW.take 16 rfl (by kernel_rfl) (by kernel_rfl) (by kernel_rfl) (fun _ _ _ h => h) (.inr ⟨_, _, 164, rfl, rfl, rfl⟩) rfl (fun _ h => ((h).erase 0).erase 0) (Yv.fieldK (vs := [_, _]) Try.underlying54 rfl Try.isAgg37 Try.sizeOf37 rfl rfl) ?_
          refine HW.take 17 rfl (by kernel_rfl) (by kernel_rfl) (by kernel_rfl) (fun _ _ _ h => h) (.inr ⟨_, _, 164, rfl, rfl, rfl⟩) rfl (fun _ h => ((h).erase 0).erase 0) (Yv.field1 Try.underlying37 rfl Try.isAgg22 rfl rfl) ?_
          refine HW.facts _ (fun w h => h.row_slice 1 rfl) ?_
          rintro ⟨Ap, cp, rfl⟩
          refine HW.run 18 rfl (by kernel_rfl) _ (.inr ⟨_, _, 164, rfl, rfl, rfl⟩) rfl (Ow.call e32 rfl (C.val (fun w hs => ref15Same _ Ap cp (mergeL (renL (pairNm n.toNat U W) (mergeL l))) (hs.row_Rd 1 rfl (by omega)) Av cv (mergeL (renL (pairNm n.toNat U W) (mergeL l))) (hs.row_Rd 0 rfl (by omega))))) (by rintro _ _ ⟨rfl, rfl⟩ w h; exact ((h).erase 0).erase 0) ?_
          rintro _ _ ⟨rfl, rfl⟩
          refine HW.take 19 rfl (by kernel_rfl) (by kernel_rfl) (by kernel_rfl) (fun _ _ _ h => h) (.inl rfl) rfl (fun _ h => ((h).erase 0).erase 0) (Yv.pickT rfl rfl) ?_
          refine HW.take 20 rfl (by kernel_rfl) (by kernel_rfl) (by kernel_rfl) (fun _ _ _ h => h) (.inl rfl) rfl (fun _ h => ((h).erase 0).erase 0) (Yv.move rfl) ?_
          refine HW.isT 177 rfl (rfl) ?_
          refine HW.run 21 rfl (by kernel_rfl) _ (.inr ⟨_, _, 177, rfl, rfl, rfl⟩) rfl (Ow.call e27 rfl (C.val (fun w hs => awake40 _))) (by rintro _ _ ⟨rfl, rfl⟩ w h; exact ((h).erase 0).erase 0) ?_
          rintro _ _ ⟨rfl, rfl⟩
          refine HW.take 22 rfl (by kernel_rfl) (by kernel_rfl) (by kernel_rfl) (fun _ _ _ h => h) (.inl rfl) rfl (fun _ h => ((h).erase 0).erase 0) (Yv.pickT rfl rfl) ?_
          refine HW.take 23 rfl (by kernel_rfl) (by kernel_rfl) (by kernel_rfl) (fun _ _ _ h => h) (.inl rfl) rfl (fun _ h => ((h).erase 0).erase 0) (Yv.assign rfl) ?_
          refine HW.done (by kernel_rfl) ?_
          refine PW.go ?_
          refine CW.ret ?_
          refine PW.ret1 Try.results5 rfl (fun w1 hs => ?_)
          exact ⟨by first | rfl | simp, hs.mod.below⟩

set_option maxRecDepth 100000 in
theorem ct_ee (n : Int) (hn : 0 ≤ n ∧ n ≤ 255) (A : Option Addr) (c : Nat) (l : List Edg) (K U W : Int) (hK : -9223372036854775808 ≤ K ∧ K ≤ 9223372036854775807) (hU : -9223372036854775808 ≤ U ∧ U ≤ 9223372036854775807) (hW : -9223372036854775808 ≤ W ∧ W ≤ 9223372036854775807) (B : Option Addr) (d : Nat) (name : List Int) (w : World) (hr : Rd w A 3 l.length (cellsE l)) (hrn : Rd w B 1 name.length (i64s name)) (hl60 : l.length ≤ 60) (hnm : name.length ≤ 300) (hK3 : K ≤ 300) (hok : NewOk n l) (hb1 : ¬ (name.length = n.toNat ∧ namB K name = true)) (hb2 : U < 0 ∨ (n.toNat : Int) ≤ U ∨ W < 0 ∨ (n.toNat : Int) ≤ W ∨ U = W) : Calls Try.prog 5 #[.int .u8 n, .slice A l.length c, .agg #[.int .i64 K, .slice B name.length d, .int .i64 U, .int .i64 W]] w fun e w1 => e = .returned (.bool true) ∧ Gr w w1 := by
  have hml := mergeL_length l
  have hao := hok.arcs
  have htt := newOk_tot hok hl60
  have hnn : nonneg (mergeL l) := fun e he => (hao.wts e he).1
  have hrl := renL_length name (mergeL l)
  have hml2 := mergeL_length (renL name (mergeL l))
  have hml3 := mergeL_length (renL (pairNm n.toNat U W) (mergeL l))
  have hrl3 := renL_length (pairNm n.toNat U W) (mergeL l)
  have hms := merge_split (renL_nonneg (name := name) hnn)
  have hms2 := merge_split (renL_nonneg (name := pairNm n.toNat U W) hnn)
  have hpl := pairNm_length n.toNat U W
  have hnt : ((n.toNat : Nat) : Int) = n := by omega
  refine CW.enter (P := Try.prog) (F0 := none0) (L := [(0, _), (1, _), (2, _)]) 180 [] Try.func5 rfl Try.ntmps5 (Nat.le_of_ble_eq_true rfl) (St.start w none0) rfl ?_
  refine CW.seq ?_
  refine CW.region ?_
  refine RW.o _ (.inl rfl) rfl (Ow.box (cs := [_, _, _, _]) rfl rfl) ?_
  rintro _ _ ⟨b5, rfl, rfl⟩
  refine RW.y (.inl rfl) rfl (Yv.assign rfl) ?_
  refine RW.nil ?_
  refine PW.go ?_
  refine CW.seq ?_
  refine CW.seq ?_
  refine CW.region ?_
  refine RW.y (.inl rfl) rfl (Yv.move rfl) ?_
  refine RW.y (.inl rfl) rfl (Yv.len Try.underlying22 rfl) ?_
  refine RW.y (.inl rfl) rfl (Yv.gt rfl rfl) ?_
  refine RW.y (.inl rfl) rfl (Yv.move rfl) ?_
  refine RW.isF 27 rfl (by omega) ?_
  refine RW.y (.inr ⟨_, _, 27, rfl, rfl, rfl⟩) rfl (Yv.fieldAddr Try.underlying48 rfl Try.sizeOf32 rfl rfl) ?_
  refine RW.y (.inr ⟨_, _, 27, rfl, rfl, rfl⟩) rfl (Yv.load1 Try.isAgg32 rfl (CF.blk 0 rfl rfl)) ?_
  refine RW.y (.inr ⟨_, _, 27, rfl, rfl, rfl⟩) rfl (Yv.len Try.underlying32 rfl) ?_
  refine RW.y (.inr ⟨_, _, 27, rfl, rfl, rfl⟩) rfl (Yv.gt rfl rfl) ?_
  refine RW.y (.inl rfl) rfl (Yv.pickF rfl rfl) ?_
  refine RW.y (.inl rfl) rfl (Yv.move rfl) ?_
  refine RW.isF 33 rfl (by omega) ?_
  refine RW.y (.inr ⟨_, _, 33, rfl, rfl, rfl⟩) rfl (Yv.fieldAddr Try.underlying48 rfl Try.sizeOf3 rfl rfl) ?_
  refine RW.y (.inr ⟨_, _, 33, rfl, rfl, rfl⟩) rfl (Yv.load1 Try.isAgg3 rfl (CF.blk 0 rfl rfl)) ?_
  refine RW.y (.inr ⟨_, _, 33, rfl, rfl, rfl⟩) rfl (Yv.gt rfl rfl) ?_
  refine RW.y (.inl rfl) rfl (Yv.pickF rfl rfl) ?_
  refine RW.nil ?_
  refine PW.go ?_
  refine CW.condD rfl (fun hc37 => ?_) (fun hc37 => ?_)
  ·
    omega
  ·
    refine CW.skip ?_
    refine PW.go ?_
    refine CW.seq ?_
    refine CW.region ?_
    refine RW.y (.inl rfl) rfl (Yv.move rfl) ?_
    refine RW.y (.inl rfl) rfl (Yv.conv64 Try.underlying5 Try.underlying3 rfl (by omega)) ?_
    refine RW.y (.inl rfl) rfl (Yv.move rfl) ?_
    refine RW.o _ (.inl rfl) rfl (Ow.call e8 rfl (C.new (val := fun (b : Nat) => .tuple #[.pointer (some ⟨b, 0, none⟩), .int .i64 0, .int .i64 0]) (φ := fun _ => True) (Ψ := fun b => nowA (fun w' => IsNet w' b (netOf n l))) (fun w2 hs => (netNew_ok n A c l w2 (hr.below hs.mod.below) hok).mono (fun en w3 ⟨b, ht, he, hb, F, hF, hk⟩ => ⟨b, ht, he, hb, F, hF, hk⟩)))) ?_
    rintro _ _ ⟨bg, -, rfl, rfl⟩
    refine RW.y (.inl rfl) rfl (Yv.move rfl) ?_
    refine RW.y (.inl rfl) rfl (Yv.extract rfl rfl) ?_
    refine RW.y (.inl rfl) rfl (Yv.extract rfl rfl) ?_
    refine RW.y (.inl rfl) rfl (Yv.extract rfl rfl) ?_
    refine RW.y (.inl rfl) rfl (Yv.assign rfl) ?_
    refine RW.y (.inl rfl) rfl (Yv.assign rfl) ?_
    refine RW.y (.inl rfl) rfl (Yv.assign rfl) ?_
    refine RW.nil ?_
    refine PW.go ?_
    refine CW.seq ?_
    refine CW.seq ?_
    refine CW.region ?_
    refine RW.y (.inl rfl) rfl (Yv.move rfl) ?_
    refine RW.y (.inl rfl) rfl (Yv.ne rfl rfl) ?_
    refine RW.nil ?_
    refine PW.go ?_
    refine CW.condD rfl (fun hc48 => ?_) (fun hc48 => ?_)
    ·
      exact absurd rfl hc48
    ·
      refine CW.skip ?_
      refine PW.go ?_
      refine CW.seq ?_
      refine CW.region ?_
      refine RW.y (.inl rfl) rfl (Yv.move rfl) ?_
      refine RW.y (.inl rfl) rfl (Yv.conv64 Try.underlying5 Try.underlying3 rfl (by omega)) ?_
      refine RW.y (.inl rfl) rfl (Yv.move rfl) ?_
      refine RW.o _ (.inl rfl) rfl (Ow.call e16 rfl (C.new (val := fun (p : Option Addr × Nat) => .agg #[.int .i64 n, .slice p.1 (mergeL l).length p.2, .int .i64 0, .int .i64 0]) (φ := fun _ => True) (Ψ := fun p => row (.slice p.1 (mergeL l).length p.2) 72 3 (mergeL l).length (cellsE (mergeL l))) (fun w2 hs => (ref16New_ok n A c l w2 (hr.below hs.mod.below) hok).mono (fun en w3 ⟨p, he, hb, F, hF, hk⟩ => ⟨p, trivial, he, hb, F, hF, hk⟩)))) ?_
      rintro _ _ ⟨⟨Am, cm⟩, -, rfl, rfl⟩
      refine RW.y (.inl rfl) rfl (Yv.fieldK (vs := [_, _]) Try.underlying39 rfl Try.isAgg37 Try.sizeOf37 rfl rfl) ?_
      refine RW.o _ (.inl rfl) rfl (Ow.alloc (cs := [_, _]) Try.zeroValue37 rfl) ?_
      rintro _ _ ⟨b15, rfl, rfl⟩
      refine RW.o _ (.inl rfl) rfl (Ow.storeW (vs := [_, _]) 0 Try.sizeOf37 rfl rfl (rfl) rfl (rfl)) ?_
      rintro _ _ ⟨rfl, rfl⟩
      refine RW.nil ?_
      refine PW.go ?_
      refine CW.seq ?_
      refine CW.region ?_
      refine RW.y (.inl rfl) rfl (Yv.move rfl) ?_
      refine RW.y (.inl rfl) rfl (Yv.fieldAddr Try.underlying48 rfl Try.sizeOf3 rfl rfl) ?_
      refine RW.y (.inl rfl) rfl (Yv.load1 Try.isAgg3 rfl (CF.blk 3 rfl rfl)) ?_
      refine RW.y (.inl rfl) rfl (Yv.fieldAddr Try.underlying48 rfl Try.sizeOf32 rfl rfl) ?_
      refine RW.y (.inl rfl) rfl (Yv.load1 Try.isAgg32 rfl (CF.blk 3 rfl rfl)) ?_
      refine RW.o _ (.inl rfl) rfl (Ow.call e28 rfl (C.val (fun w hs => contractOf_err (.pointer (some ⟨bg, 0, none⟩)) n.toNat K B d name w (hrn.below hs.mod.below) (gN (hs.now 2 rfl)) hb1))) ?_
      rintro _ _ ⟨rfl, rfl⟩
      refine RW.y (.inl rfl) rfl (Yv.move rfl) ?_
      refine RW.y (.inl rfl) rfl (Yv.extract rfl rfl) ?_
      refine RW.y (.inl rfl) rfl (Yv.extract rfl rfl) ?_
      refine RW.y (.inl rfl) rfl (Yv.assign rfl) ?_
      refine RW.y (.inl rfl) rfl (Yv.assign rfl) ?_
      refine RW.nil ?_
      refine PW.go ?_
      refine CW.seq ?_
      refine CW.region ?_
      refine RW.y (.inl rfl) rfl (Yv.loadK (vs := [_, _]) Try.isAgg37 Try.sizeOf37 rfl (CFs.whole 0 rfl)) ?_
      refine RW.y (.inl rfl) rfl (Yv.fieldAddr Try.underlying48 rfl Try.sizeOf3 rfl rfl) ?_
      refine RW.y (.inl rfl) rfl (Yv.load1 Try.isAgg3 rfl (CF.blk 3 rfl rfl)) ?_
      refine RW.y (.inl rfl) rfl (Yv.fieldAddr Try.underlying48 rfl Try.sizeOf32 rfl rfl) ?_
      refine RW.y (.inl rfl) rfl (Yv.load1 Try.isAgg32 rfl (CF.blk 3 rfl rfl)) ?_
      have hx0 := hnt
      refine RW.o _ (.inl rfl) rfl (Ow.call e30 rfl (C.val (fun w hs => (hnt ▸ ref40Of_err n.toNat Am cm (mergeL l) K hK B d name w (hs.row_Rd 1 rfl (by omega)) (hrn.below hs.mod.below) hb1)))) ?_
      rintro _ _ ⟨rfl, rfl⟩
      refine RW.o _ (.inl rfl) rfl (Ow.alloc (cs := [_, _, _]) Try.zeroValue54 rfl) ?_
      rintro _ _ ⟨b18, rfl, rfl⟩
      refine RW.o _ (.inl rfl) rfl (Ow.storeW (vs := [_, _, _]) 0 Try.sizeOf54 rfl rfl (rfl) rfl (rfl)) ?_
      rintro _ _ ⟨rfl, rfl⟩
      refine RW.nil ?_
      refine PW.go ?_
      refine CW.seq ?_
      refine CW.seq ?_
      refine CW.draw0 mixed ?_
      refine HW.take 0 rfl (by kernel_rfl) (by kernel_rfl) (by kernel_rfl) (fun _ _ _ h => h) (.inl rfl) rfl (fun _ h => h) (Yv.move rfl) ?_
      refine HW.take 1 rfl (by kernel_rfl) (by kernel_rfl) (by kernel_rfl) (fun _ _ _ h => h) (.inl rfl) rfl (fun _ h => h) (Yv.fieldAddr Try.underlying54 rfl Try.sizeOf26 rfl rfl) ?_
      refine HW.take 2 rfl (by kernel_rfl) (by kernel_rfl) (by kernel_rfl) (fun _ _ _ h => h) (.inl rfl) rfl (fun _ h => h) (Yv.load1 Try.isAgg26 rfl (CF.blk 0 rfl rfl)) ?_
      refine HW.take 3 rfl (by kernel_rfl) (by kernel_rfl) (by kernel_rfl) (fun _ _ _ h => h) (.inl rfl) rfl (fun _ h => h) (Yv.ne rfl rfl) ?_
      refine HW.take 4 rfl (by kernel_rfl) (by kernel_rfl) (by kernel_rfl) (fun _ _ _ h => h) (.inl rfl) rfl (fun _ h => h) (Yv.move rfl) ?_
      refine HW.isF 91 rfl (by simp) ?_
      refine HW.take 5 rfl (by kernel_rfl) (by kernel_rfl) (by kernel_rfl) (fun _ _ _ h => h) (.inr ⟨_, _, 91, rfl, rfl, rfl⟩) rfl (fun _ h => h) (Yv.move rfl) ?_
      refine HW.take 6 rfl (by kernel_rfl) (by kernel_rfl) (by kernel_rfl) (fun _ _ _ h => h) (.inr ⟨_, _, 91, rfl, rfl, rfl⟩) rfl (fun _ h => h) (Yv.ptrNotNil Try.underlying25 rfl rfl) ?_
      refine HW.take 7 rfl (by kernel_rfl) (by kernel_rfl) (by kernel_rfl) (fun _ _ _ h => h) (.inr ⟨_, _, 91, rfl, rfl, rfl⟩) rfl (fun _ h => h) (Yv.move rfl) ?_
      refine HW.take 8 rfl (by kernel_rfl) (by kernel_rfl) (by kernel_rfl) (fun _ _ _ h => h) (.inr ⟨_, _, 91, rfl, rfl, rfl⟩) rfl (fun _ h => h) (Yv.eq rfl rfl) ?_
      refine HW.take 9 rfl (by kernel_rfl) (by kernel_rfl) (by kernel_rfl) (fun _ _ _ h => h) (.inr ⟨_, _, 91, rfl, rfl, rfl⟩) rfl (fun _ h => h) (Yv.boolNe Try.underlying4 rfl rfl) ?_
      refine HW.take 10 rfl (by kernel_rfl) (by kernel_rfl) (by kernel_rfl) (fun _ _ _ h => h) (.inl rfl) rfl (fun _ h => h) (Yv.pickF rfl rfl) ?_
      refine HW.take 11 rfl (by kernel_rfl) (by kernel_rfl) (by kernel_rfl) (fun _ _ _ h => h) (.inl rfl) rfl (fun _ h => h) (Yv.move rfl) ?_
      refine HW.isB (c := false) 98 rfl (by simp) ?_
      refine HW.take 12 rfl (by kernel_rfl) (by kernel_rfl) (by kernel_rfl) (fun _ _ _ h => h) (.inr ⟨_, _, 98, rfl, rfl, rfl⟩) rfl (fun _ h => h) (Yv.move rfl) ?_
      refine HW.take 13 rfl (by kernel_rfl) (by kernel_rfl) (by kernel_rfl) (fun _ _ _ h => h) (.inr ⟨_, _, 98, rfl, rfl, rfl⟩) rfl (fun _ h => h) (Yv.eq rfl rfl) ?_
      refine HW.take 14 rfl (by kernel_rfl) (by kernel_rfl) (by kernel_rfl) (fun _ _ _ h => h) (.inr ⟨_, _, 98, rfl, rfl, rfl⟩) rfl (fun _ h => h) (Yv.move rfl) ?_
      refine HW.isF 101 rfl (by simp) ?_
      refine HW.skip 15 rfl (by kernel_rfl) (by kernel_rfl) (by kernel_rfl) (fun _ _ _ h => h) ⟨_, _, 101, _, rfl, rfl, rfl, fun h => by simp [undef] at h⟩ rfl (fun _ h => h) ?_
      refine HW.skip 17 rfl (by kernel_rfl) (by kernel_rfl) (by kernel_rfl) (fun _ _ _ h => h) ⟨_, _, 101, _, rfl, rfl, rfl, fun h => by simp [undef] at h⟩ rfl (fun _ h => h) ?_
      refine HW.skip 18 rfl (by kernel_rfl) (by kernel_rfl) (by kernel_rfl) (fun _ _ _ h => h) ⟨_, _, 101, _, rfl, rfl, rfl, fun h => by simp [undef] at h⟩ rfl (fun _ h => h) ?_
      refine HW.skip 16 rfl (by kernel_rfl) (by kernel_rfl) (by kernel_rfl) (fun _ _ _ h => h) ⟨_, _, 101, _, rfl, rfl, rfl, fun h => by simp [undef] at h⟩ rfl (fun _ h => h) ?_
      refine HW.skip 19 rfl (by kernel_rfl) (by kernel_rfl) (by kernel_rfl) (fun _ _ _ h => h) ⟨_, _, 101, _, rfl, rfl, rfl, fun h => by simp [undef] at h⟩ rfl (fun _ h => h) ?_
      refine HW.skip 20 rfl (by kernel_rfl) (by kernel_rfl) (by kernel_rfl) (fun _ _ _ h => h) ⟨_, _, 101, _, rfl, rfl, rfl, fun h => by simp [undef] at h⟩ rfl (fun _ h => h) ?_
      refine HW.skip 21 rfl (by kernel_rfl) (by kernel_rfl) (by kernel_rfl) (fun _ _ _ h => h) ⟨_, _, 107, _, rfl, rfl, rfl, fun h => by simp [undef] at h⟩ rfl (fun _ h => h) ?_
      refine HW.skip 23 rfl (by kernel_rfl) (by kernel_rfl) (by kernel_rfl) (fun _ _ _ h => h) ⟨_, _, 107, _, rfl, rfl, rfl, fun h => by simp [undef] at h⟩ rfl (fun _ h => h) ?_
      refine HW.skip 24 rfl (by kernel_rfl) (by kernel_rfl) (by kernel_rfl) (fun _ _ _ h => h) ⟨_, _, 107, _, rfl, rfl, rfl, fun h => by simp [undef] at h⟩ rfl (fun _ h => h) ?_
      refine HW.skip 25 rfl (by kernel_rfl) (by kernel_rfl) (by kernel_rfl) (fun _ _ _ h => h) ⟨_, _, 107, _, rfl, rfl, rfl, fun h => by simp [undef] at h⟩ rfl (fun _ h => h) ?_
      refine HW.skip 22 rfl (by kernel_rfl) (by kernel_rfl) (by kernel_rfl) (fun _ _ _ h => h) ⟨_, _, 107, _, rfl, rfl, rfl, fun h => by simp [undef] at h⟩ rfl (fun _ h => h) ?_
      refine HW.skip 26 rfl (by kernel_rfl) (by kernel_rfl) (by kernel_rfl) (fun _ _ _ h => h) ⟨_, _, 107, _, rfl, rfl, rfl, fun h => by simp [undef] at h⟩ rfl (fun _ h => h) ?_
      refine HW.skip 27 rfl (by kernel_rfl) (by kernel_rfl) (by kernel_rfl) (fun _ _ _ h => h) ⟨_, _, 107, _, rfl, rfl, rfl, fun h => by simp [undef] at h⟩ rfl (fun _ h => h) ?_
      refine HW.skip 28 rfl (by kernel_rfl) (by kernel_rfl) (by kernel_rfl) (fun _ _ _ h => h) ⟨_, _, 101, _, rfl, rfl, rfl, fun h => by simp [undef] at h⟩ rfl (fun _ h => h) ?_
      refine HW.take 29 rfl (by kernel_rfl) (by kernel_rfl) (by kernel_rfl) (fun _ _ _ h => h) (.inr ⟨_, _, 98, rfl, rfl, rfl⟩) rfl (fun _ h => h) (Yv.pickF rfl rfl) ?_
      refine HW.take 30 rfl (by kernel_rfl) (by kernel_rfl) (by kernel_rfl) (fun _ _ _ h => h) (.inl rfl) rfl (fun _ h => h) (Yv.pickF rfl rfl) ?_
      refine HW.done (by kernel_rfl) ?_
      refine PW.go ?_
      refine CW.condF rfl ?_
      refine CW.skip ?_
      refine PW.go ?_
      refine CW.seq ?_
      refine CW.region ?_
      refine RW.y (.inl rfl) rfl (Yv.move rfl) ?_
      refine RW.y (.inl rfl) rfl (Yv.fieldAddr Try.underlying48 rfl Try.sizeOf3 rfl rfl) ?_
      refine RW.y (.inl rfl) rfl (Yv.load1 Try.isAgg3 rfl (CF.blk 4 rfl rfl)) ?_
      refine RW.y (.inl rfl) rfl (Yv.fieldAddr Try.underlying48 rfl Try.sizeOf3 rfl rfl) ?_
      refine RW.y (.inl rfl) rfl (Yv.load1 Try.isAgg3 rfl (CF.blk 4 rfl rfl)) ?_
      refine RW.o _ (.inl rfl) rfl (Ow.call e29 rfl (C.val (fun w hs => contractPair_err (.pointer (some ⟨bg, 0, none⟩)) n.toNat U W hU hW _ (gN (hs.now 3 rfl)) hb2))) ?_
      rintro _ _ ⟨rfl, rfl⟩
      refine RW.y (.inl rfl) rfl (Yv.move rfl) ?_
      refine RW.y (.inl rfl) rfl (Yv.extract rfl rfl) ?_
      refine RW.y (.inl rfl) rfl (Yv.extract rfl rfl) ?_
      refine RW.y (.inl rfl) rfl (Yv.extract rfl rfl) ?_
      refine RW.y (.inl rfl) rfl (Yv.assign rfl) ?_
      refine RW.y (.inl rfl) rfl (Yv.assign rfl) ?_
      refine RW.y (.inl rfl) rfl (Yv.assign rfl) ?_
      refine RW.nil ?_
      refine PW.go ?_
      refine CW.seq ?_
      refine CW.seq ?_
      refine CW.region ?_
      refine RW.y (.inl rfl) rfl (Yv.move rfl) ?_
      refine RW.y (.inl rfl) rfl (Yv.conv64 Try.underlying5 Try.underlying3 rfl (by omega)) ?_
      refine RW.y (.inl rfl) rfl (Yv.fieldAddr Try.underlying48 rfl Try.sizeOf3 rfl rfl) ?_
      refine RW.y (.inl rfl) rfl (Yv.load1 Try.isAgg3 rfl (CF.blk 4 rfl rfl)) ?_
      refine RW.y (.inl rfl) rfl (Yv.fieldAddr Try.underlying48 rfl Try.sizeOf3 rfl rfl) ?_
      refine RW.y (.inl rfl) rfl (Yv.load1 Try.isAgg3 rfl (CF.blk 4 rfl rfl)) ?_
      refine RW.o _ (.inl rfl) rfl (Ow.call e34 rfl (C.val (fun w hs => (hnt ▸ ref25Check (n.toNat : Int) U W _)))) ?_
      rintro _ _ ⟨rfl, rfl⟩
      refine RW.y (.inl rfl) rfl (Yv.assign rfl) ?_
      refine RW.nil ?_
      refine PW.go ?_
      refine CW.seq ?_
      refine CW.region ?_
      refine RW.y (.inl rfl) rfl (Yv.move rfl) ?_
      refine RW.y (.inl rfl) rfl (Yv.move rfl) ?_
      refine RW.y (.inl rfl) rfl (Yv.ne rfl rfl) ?_
      refine RW.nil ?_
      refine PW.go ?_
      refine CW.condD rfl (fun hc137 => ?_) (fun hc137 => ?_)
      ·
        exact absurd (by rw [hnt]) hc137
      ·
        refine CW.skip ?_
        refine PW.go ?_
        refine CW.seq ?_
        refine CW.seq ?_
        refine CW.region ?_
        refine RW.y (.inl rfl) rfl (Yv.move rfl) ?_
        refine RW.y (.inl rfl) rfl (Yv.ne rfl rfl) ?_
        refine RW.nil ?_
        refine PW.go ?_
        refine CW.condD rfl (fun hc139 => ?_) (fun hc139 => ?_)
        ·
          refine CW.seq ?_
          refine CW.region ?_
          refine RW.y (.inl rfl) rfl (Yv.move rfl) ?_
          refine RW.y (.inl rfl) rfl (Yv.ptrNil Try.underlying25 rfl rfl) ?_
          refine RW.y (.inl rfl) rfl (Yv.move rfl) ?_
          refine RW.isB (c := true) 142 rfl (rfl) ?_
          refine RW.y (.inr ⟨_, _, 142, rfl, rfl, rfl⟩) rfl (Yv.move rfl) ?_
          refine RW.y (.inr ⟨_, _, 142, rfl, rfl, rfl⟩) rfl (Yv.len Try.underlying32 rfl) ?_
          refine RW.y (.inr ⟨_, _, 142, rfl, rfl, rfl⟩) rfl (Yv.eq rfl rfl) ?_
          refine RW.y (.inl rfl) rfl (Yv.pickT rfl rfl) ?_
          refine RW.y (.inl rfl) rfl (Yv.move rfl) ?_
          refine RW.isT 147 rfl (rfl) ?_
          refine RW.o _ (.inr ⟨_, _, 147, rfl, rfl, rfl⟩) rfl (Ow.call e27 rfl (C.val (fun w hs => awake40 _))) ?_
          rintro _ _ ⟨rfl, rfl⟩
          refine RW.y (.inl rfl) rfl (Yv.pickT rfl rfl) ?_
          refine RW.y (.inl rfl) rfl (Yv.assign rfl) ?_
          refine RW.nil ?_
          refine PW.go ?_
          refine CW.ret ?_
          refine PW.then_ret ?_
          refine PW.ret1 Try.results5 rfl (fun w1 hs => ?_)
          exact ⟨by first | rfl | simp, hs.mod.below⟩
        ·
          exact absurd (by unfold pairErr; by_cases h : U < 0 ∨ (n.toNat : Int) ≤ U ∨ W < 0 ∨ (n.toNat : Int) ≤ W; rw [if_pos h]; omega; rw [if_neg h, if_pos (by omega)]; omega) hc139

theorem contractTellsLaw (n : Int) (hn : 0 ≤ n ∧ n ≤ 255) (A : Option Addr) (c : Nat) (l : List Edg) (K U W : Int) (hK : -9223372036854775808 ≤ K ∧ K ≤ 9223372036854775807) (hU : -9223372036854775808 ≤ U ∧ U ≤ 9223372036854775807) (hW : -9223372036854775808 ≤ W ∧ W ≤ 9223372036854775807) (B : Option Addr) (d : Nat) (name : List Int) (w : World)
    (hr : l.length ≤ 4611686018427387904 → Rd w A 3 l.length (cellsE l)) (hrn : name.length ≤ 4611686018427387904 → Rd w B 1 name.length (i64s name)) :
    Calls Try.prog 5 #[.int .u8 n, .slice A l.length c, .agg #[.int .i64 K, .slice B name.length d, .int .i64 U, .int .i64 W]] w fun e w1 => e = .returned (.bool true) ∧ Gr w w1 := by
  by_cases hl : 60 < l.length ∨ 300 < name.length ∨ 300 < K
  · exact contractTells_long n K U W A B c d l.length name.length w hl
  · have r := hr (by omega)
    have rn := hrn (by omega)
    obtain ⟨k, i, h⟩ := newE_total n l
    by_cases z : k = 0
    · subst z
      have hok := (newE_ok h).1
      by_cases hb1 : name.length = n.toNat ∧ namB K name = true <;> by_cases hb2 : (0 ≤ U ∧ U < (n.toNat : Int)) ∧ (0 ≤ W ∧ W < (n.toNat : Int)) ∧ U ≠ W
      · exact ct_oo n hn A c l K U W hK hU hW B d name w r rn (by omega) (by omega) (by omega) hok hb1 hb2
      · exact ct_oe n hn A c l K U W hK hU hW B d name w r rn (by omega) (by omega) (by omega) hok hb1 (by omega)
      · exact ct_eo n hn A c l K U W hK hU hW B d name w r rn (by omega) (by omega) (by omega) hok hb1 hb2
      · exact ct_ee n hn A c l K U W hK hU hW B d name w r rn (by omega) (by omega) (by omega) hok hb1 (by omega)
    · exact contractTells_err n hn A c l K U W hK hU hW B d name w r rn (by omega) (by omega) (by omega) k i z h

end Go.Proofs.Ytipoblpnkkcpgaa
