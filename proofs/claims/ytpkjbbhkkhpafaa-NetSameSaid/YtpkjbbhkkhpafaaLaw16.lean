/- Walks, written by a program of this session (gen.py) out of a spec. -/
import Derived.Test.YtpkjbbhkkhpafaaNet4
import Derived.Test.YtpkjbbhkkhpafaaNet2
import Derived.Test.YtpkjbbhkkhpafaaRef2
set_option linter.unusedVariables false
set_option linter.unusedSimpArgs false
namespace Go.Proofs.Ytpkjbbhkkhpafaa
open Go Go.RowKit Go.Proofs.Ytpkjbbhkkhpafaa.B

theorem newOk_of {n : Int} {l : List Edg} (h0 : 0 ≤ n) (hn : n ≤ 4096) (hl : l.length ≤ 1048576) (hc : ∀ e ∈ l, chkE n e = 0) : NewOk n l := ⟨h0, hn, hl, .inl ⟨rfl, rfl, hc⟩⟩
theorem netOf_sorted (n : Int) (l : List Edg) : sortedE (netOf n l).l := (sumAll_ok l).1.filter _
def awk16 : List Edg := [⟨1, 0, 2⟩, ⟨0, 1, 3⟩]
theorem awk16_ok : NewOk 3 awk16 := newOk_of (by decide) (by decide) (by decide) (by decide)
theorem awk16_l : mergeL awk16 = [⟨0, 1, 5⟩] := by decide

set_option maxRecDepth 100000 in
theorem awake16 (w : World) : Calls Try.prog 28 #[] w fun e w1 => e = .returned (.bool true) ∧ Gr w w1 := by
  refine CW.enter (P := Try.prog) (F0 := none0) (L := []) 43 [] Try.func28 rfl Try.ntmps28 (Nat.le_of_ble_eq_true rfl) (St.start w none0) rfl ?_
  refine CW.seq ?_
  refine CW.region ?_
  refine RW.y (.inl rfl) rfl (Yv.assign rfl) ?_
  refine RW.nil ?_
  refine PW.go ?_
  refine CW.seq ?_
  refine CW.region ?_
  refine RW.y (.inl rfl) rfl (Yv.build rfl (fun w => by exact bld48_0_2 _ _ w)) ?_
  refine RW.y (.inl rfl) rfl (Yv.build rfl (fun w => by exact bld48_1_2 _ _ w)) ?_
  refine RW.o _ (.inl rfl) rfl (Ow.lit (vs := [_, _]) (cs := [_, _, _, _, _, _]) Try.underlying22 info48 rfl rfl rfl rfl rfl rfl rfl) ?_
  rintro _ _ ⟨b7, rfl, rfl⟩
  refine RW.o _ (.inl rfl) rfl (Ow.call e9 rfl (C.new (val := fun (b : Nat) => .tuple #[.pointer (some ⟨b, 0, none⟩), .int .i64 0, .int .i64 0]) (φ := fun _ => True) (Ψ := fun b => nowA (fun w' => IsNet w' b (netOf 3 awk16))) (fun w2 hs => (netNew_ok 3 (some ⟨b7, 0, none⟩) 2 awk16 w2 (hs.blk_Rd 0 rfl rfl (by decide)) awk16_ok).mono (fun en w3 ⟨b, ht, he, hb, F, hF, hk⟩ => ⟨b, ht, he, hb, F, hF, hk⟩)))) ?_
  rintro _ _ ⟨bn, -, rfl, rfl⟩
  refine RW.y (.inl rfl) rfl (Yv.move rfl) ?_
  refine RW.y (.inl rfl) rfl (Yv.extract rfl rfl) ?_
  refine RW.y (.inl rfl) rfl (Yv.extract rfl rfl) ?_
  refine RW.y (.inl rfl) rfl (Yv.extract rfl rfl) ?_
  refine RW.y (.inl rfl) rfl (Yv.assign rfl) ?_
  refine RW.y (.inl rfl) rfl (Yv.assign rfl) ?_
  refine RW.y (.inl rfl) rfl (Yv.assign rfl) ?_
  refine RW.nil ?_
  refine PW.go ?_
  refine CW.seq ?_
  refine CW.region ?_
  refine RW.y (.inl rfl) rfl (Yv.move rfl) ?_
  refine RW.y (.inl rfl) rfl (Yv.eq rfl rfl) ?_
  refine RW.y (.inl rfl) rfl (Yv.move rfl) ?_
  refine RW.isT 14 rfl (by omega) ?_
  refine RW.y (.inr ⟨_, _, 14, rfl, rfl, rfl⟩) rfl (Yv.move rfl) ?_
  refine RW.y (.inr ⟨_, _, 14, rfl, rfl, rfl⟩) rfl (Yv.ptrNotNil Try.underlying25 rfl rfl) ?_
  refine RW.y (.inl rfl) rfl (Yv.pickT rfl rfl) ?_
  refine RW.y (.inl rfl) rfl (Yv.move rfl) ?_
  refine RW.isB (c := true) 18 rfl (rfl) ?_
  refine RW.y (.inr ⟨_, _, 18, rfl, rfl, rfl⟩) rfl (Yv.move rfl) ?_
  refine RW.o _ (.inr ⟨_, _, 18, rfl, rfl, rfl⟩) rfl (Ow.call e30 rfl (C.val (fun w hs => netN bn (netOf 3 awk16) _ (hs.now 0 rfl)))) ?_
  rintro _ _ ⟨rfl, rfl⟩
  refine RW.y (.inr ⟨_, _, 18, rfl, rfl, rfl⟩) rfl (Yv.eq rfl rfl) ?_
  refine RW.y (.inl rfl) rfl (Yv.pickT rfl rfl) ?_
  refine RW.y (.inl rfl) rfl (Yv.move rfl) ?_
  refine RW.isT 23 rfl (by decide) ?_
  refine RW.y (.inr ⟨_, _, 23, rfl, rfl, rfl⟩) rfl (Yv.move rfl) ?_
  refine RW.o _ (.inr ⟨_, _, 23, rfl, rfl, rfl⟩) rfl (Ow.call e27 rfl (C.val (fun w hs => netM bn (netOf 3 awk16) _ (hs.now 0 rfl)))) ?_
  rintro _ _ ⟨rfl, rfl⟩
  refine RW.y (.inr ⟨_, _, 23, rfl, rfl, rfl⟩) rfl (Yv.eq rfl rfl) ?_
  refine RW.y (.inl rfl) rfl (Yv.pickT rfl rfl) ?_
  refine RW.y (.inl rfl) rfl (Yv.move rfl) ?_
  refine RW.isT 28 rfl (by decide) ?_
  refine RW.y (.inr ⟨_, _, 28, rfl, rfl, rfl⟩) rfl (Yv.move rfl) ?_
  refine RW.o _ (.inr ⟨_, _, 28, rfl, rfl, rfl⟩) rfl (Ow.call e32 rfl (C.val (fun w hs => netWeight bn (netOf 3 awk16) 1 0 _ (hs.now 0 rfl) (netOf_sorted _ _)))) ?_
  rintro _ _ ⟨rfl, rfl⟩
  refine RW.y (.inr ⟨_, _, 28, rfl, rfl, rfl⟩) rfl (Yv.eq rfl rfl) ?_
  refine RW.y (.inl rfl) rfl (Yv.pickT rfl rfl) ?_
  refine RW.y (.inl rfl) rfl (Yv.move rfl) ?_
  refine RW.isT 33 rfl (by decide) ?_
  refine RW.y (.inr ⟨_, _, 33, rfl, rfl, rfl⟩) rfl (Yv.move rfl) ?_
  refine RW.o _ (.inr ⟨_, _, 33, rfl, rfl, rfl⟩) rfl (Ow.call e33 rfl (C.val (fun w hs => netDegree bn (netOf 3 awk16) 1 _ (hs.now 0 rfl) (by decide)))) ?_
  rintro _ _ ⟨rfl, rfl⟩
  refine RW.y (.inr ⟨_, _, 33, rfl, rfl, rfl⟩) rfl (Yv.eq rfl rfl) ?_
  refine RW.y (.inl rfl) rfl (Yv.pickT rfl rfl) ?_
  refine RW.y (.inl rfl) rfl (Yv.move rfl) ?_
  refine RW.isT 38 rfl (by decide) ?_
  refine RW.y (.inr ⟨_, _, 38, rfl, rfl, rfl⟩) rfl (Yv.move rfl) ?_
  refine RW.o _ (.inr ⟨_, _, 38, rfl, rfl, rfl⟩) rfl (Ow.call e35 rfl (C.val (fun w hs => netTotal bn (netOf 3 awk16) _ (hs.now 0 rfl)))) ?_
  rintro _ _ ⟨rfl, rfl⟩
  refine RW.y (.inr ⟨_, _, 38, rfl, rfl, rfl⟩) rfl (Yv.eq rfl rfl) ?_
  refine RW.y (.inl rfl) rfl (Yv.pickT rfl rfl) ?_
  refine RW.y (.inl rfl) rfl (Yv.assign rfl) ?_
  refine RW.nil ?_
  refine PW.go ?_
  refine CW.ret ?_
  refine PW.ret1 Try.results28 rfl (fun w1 hs => ?_)
  exact ⟨by rw [decide_eq_true (by decide)], hs.mod.below⟩

set_option maxRecDepth 100000 in
theorem netSameLaw_oo (n0 n1 : Int) (A B : Option Addr) (c d : Nat) (la lb : List Edg) (w : World) (hr1 : Rd w A 3 la.length (cellsE la)) (hr2 : Rd w B 3 lb.length (cellsE lb)) (hok1 : NewOk n0 la) (hok2 : NewOk n1 lb) : Calls Try.prog 5 #[.agg #[.int .i64 n0, .int .i64 n1], .slice A la.length c, .slice B lb.length d] w fun e w1 => e = .returned (.bool true) ∧ Gr w w1 := by
  have hml1 := mergeL_length la
  have hl1 := hok1.hl
  have hml2 := mergeL_length lb
  have hl2 := hok2.hl
  refine CW.enter (P := Try.prog) (F0 := none0) (L := [(0, _), (1, _), (2, _)]) 148 [] Try.func5 rfl Try.ntmps5 (Nat.le_of_ble_eq_true rfl) (St.start w none0) rfl ?_
  refine CW.seq ?_
  refine CW.region ?_
  refine RW.o _ (.inl rfl) rfl (Ow.box (cs := [_, _]) rfl rfl) ?_
  rintro _ _ ⟨b3, rfl, rfl⟩
  refine RW.y (.inl rfl) rfl (Yv.assign rfl) ?_
  refine RW.nil ?_
  refine PW.go ?_
  refine CW.seq ?_
  refine CW.seq ?_
  refine CW.region ?_
  refine RW.y (.inl rfl) rfl (Yv.move rfl) ?_
  refine RW.y (.inl rfl) rfl (Yv.len Try.underlying22 rfl) ?_
  refine RW.y (.inl rfl) rfl (Yv.gt rfl rfl) ?_
  refine RW.y (.inl rfl) rfl (Yv.move rfl) ?_
  refine RW.splitD 22 rfl (fun hc22 => ?_) (fun hc22 => ?_)
  ·
    refine RW.no ⟨_, _, 22, _, rfl, rfl, rfl, fun h => by simp [undef] at h⟩ rfl ?_
    refine RW.no ⟨_, _, 22, _, rfl, rfl, rfl, fun h => by simp [undef] at h⟩ rfl ?_
    refine RW.no ⟨_, _, 22, _, rfl, rfl, rfl, fun h => by simp [undef] at h⟩ rfl ?_
    refine RW.y (.inl rfl) rfl (Yv.pickT rfl rfl) ?_
    refine RW.nil ?_
    refine PW.go ?_
    refine CW.condT rfl ?_
    refine CW.seq ?_
    refine CW.region ?_
    refine RW.o _ (.inl rfl) rfl (Ow.call e28 rfl (C.val (fun w hs => awake16 _))) ?_
    rintro _ _ ⟨rfl, rfl⟩
    refine RW.y (.inl rfl) rfl (Yv.assign rfl) ?_
    refine RW.nil ?_
    refine PW.go ?_
    refine CW.ret ?_
    refine PW.then_ret ?_
    refine PW.ret1 Try.results5 rfl (fun w1 hs => ?_)
    exact ⟨rfl, hs.mod.below⟩
  ·
    refine RW.y (.inr ⟨_, _, 22, rfl, rfl, rfl⟩) rfl (Yv.move rfl) ?_
    refine RW.y (.inr ⟨_, _, 22, rfl, rfl, rfl⟩) rfl (Yv.len Try.underlying22 rfl) ?_
    refine RW.y (.inr ⟨_, _, 22, rfl, rfl, rfl⟩) rfl (Yv.gt rfl rfl) ?_
    refine RW.y (.inl rfl) rfl (Yv.pickF rfl rfl) ?_
    refine RW.nil ?_
    refine PW.go ?_
    refine CW.condD rfl (fun hc26 => ?_) (fun hc26 => ?_)
    ·
      refine CW.seq ?_
      refine CW.region ?_
      refine RW.o _ (.inl rfl) rfl (Ow.call e28 rfl (C.val (fun w hs => awake16 _))) ?_
      rintro _ _ ⟨rfl, rfl⟩
      refine RW.y (.inl rfl) rfl (Yv.assign rfl) ?_
      refine RW.nil ?_
      refine PW.go ?_
      refine CW.ret ?_
      refine PW.then_ret ?_
      refine PW.ret1 Try.results5 rfl (fun w1 hs => ?_)
      exact ⟨rfl, hs.mod.below⟩
    ·
      refine CW.skip ?_
      refine PW.go ?_
      refine CW.seq ?_
      refine CW.region ?_
      refine RW.y (.inl rfl) rfl (Yv.indexA Try.underlying23 Try.sizeOf3 rfl rfl (by omega) (by omega)) ?_
      refine RW.y (.inl rfl) rfl (Yv.load1 Try.isAgg3 rfl (CF.blk 0 rfl rfl)) ?_
      refine RW.y (.inl rfl) rfl (Yv.move rfl) ?_
      refine RW.o _ (.inl rfl) rfl (Ow.call e9 rfl (C.new (val := fun (b : Nat) => .tuple #[.pointer (some ⟨b, 0, none⟩), .int .i64 0, .int .i64 0]) (φ := fun _ => True) (Ψ := fun b => nowA (fun w' => IsNet w' b (netOf n0 la))) (fun w2 hs => (netNew_ok n0 A c la w2 (hr1.below hs.mod.below) hok1).mono (fun en w3 ⟨b, ht, he, hb, F, hF, hk⟩ => ⟨b, ht, he, hb, F, hF, hk⟩)))) ?_
      rintro _ _ ⟨bg1, -, rfl, rfl⟩
      refine RW.y (.inl rfl) rfl (Yv.move rfl) ?_
      refine RW.y (.inl rfl) rfl (Yv.extract rfl rfl) ?_
      refine RW.y (.inl rfl) rfl (Yv.extract rfl rfl) ?_
      refine RW.y (.inl rfl) rfl (Yv.extract rfl rfl) ?_
      refine RW.y (.inl rfl) rfl (Yv.assign rfl) ?_
      refine RW.y (.inl rfl) rfl (Yv.assign rfl) ?_
      refine RW.y (.inl rfl) rfl (Yv.assign rfl) ?_
      refine RW.nil ?_
      refine PW.go ?_
      refine CW.seq ?_
      refine CW.region ?_
      refine RW.y (.inl rfl) rfl (Yv.indexA Try.underlying23 Try.sizeOf3 rfl rfl (by omega) (by omega)) ?_
      refine RW.y (.inl rfl) rfl (Yv.load1 Try.isAgg3 rfl (CF.blk 1 rfl rfl)) ?_
      refine RW.y (.inl rfl) rfl (Yv.move rfl) ?_
      refine RW.o _ (.inl rfl) rfl (Ow.call e9 rfl (C.new (val := fun (b : Nat) => .tuple #[.pointer (some ⟨b, 0, none⟩), .int .i64 0, .int .i64 0]) (φ := fun _ => True) (Ψ := fun b => nowA (fun w' => IsNet w' b (netOf n1 lb))) (fun w2 hs => (netNew_ok n1 B d lb w2 (hr2.below hs.mod.below) hok2).mono (fun en w3 ⟨b, ht, he, hb, F, hF, hk⟩ => ⟨b, ht, he, hb, F, hF, hk⟩)))) ?_
      rintro _ _ ⟨bg2, -, rfl, rfl⟩
      refine RW.y (.inl rfl) rfl (Yv.move rfl) ?_
      refine RW.y (.inl rfl) rfl (Yv.extract rfl rfl) ?_
      refine RW.y (.inl rfl) rfl (Yv.extract rfl rfl) ?_
      refine RW.y (.inl rfl) rfl (Yv.extract rfl rfl) ?_
      refine RW.y (.inl rfl) rfl (Yv.assign rfl) ?_
      refine RW.y (.inl rfl) rfl (Yv.assign rfl) ?_
      refine RW.y (.inl rfl) rfl (Yv.assign rfl) ?_
      refine RW.nil ?_
      refine PW.go ?_
      refine CW.cut (σ := Nat × Nat × (Option Addr × Nat) × (Option Addr × Nat)) (fun s => True) (fun s => [(7, .pointer (some ⟨bg1, 0, none⟩)), (8, .int .i64 0), (10, .pointer (some ⟨bg2, 0, none⟩)), (11, .int .i64 0), (13, .pointer (some ⟨s.1, 0, none⟩)), (14, .pointer (some ⟨s.2.1, 0, none⟩))]) (fun s => [blk s.1 [.int .i64 n0, .slice s.2.2.1.1 (mergeL la).length s.2.2.1.2, .int .i64 0, .int .i64 0] 39, blk s.2.1 [.int .i64 n1, .slice s.2.2.2.1 (mergeL lb).length s.2.2.2.2, .int .i64 0, .int .i64 0] 39, row (.slice s.2.2.1.1 (mergeL la).length s.2.2.1.2) 48 3 (mergeL la).length (cellsE (mergeL la)), row (.slice s.2.2.2.1 (mergeL lb).length s.2.2.2.2) 48 3 (mergeL lb).length (cellsE (mergeL lb)), nowA (fun w' => IsNet w' bg1 (netOf n0 la)), nowA (fun w' => IsNet w' bg2 (netOf n1 lb))]) ?_ ?_
      ·
        refine CW.draw0 mixed ?_
        refine HW.take 0 rfl (by kernel_rfl) (by kernel_rfl) (by kernel_rfl) (fun _ _ _ h => h) (.inl rfl) rfl (fun _ h => h) (Yv.indexA Try.underlying23 Try.sizeOf3 rfl rfl (by omega) (by omega)) ?_
        refine HW.take 1 rfl (by kernel_rfl) (by kernel_rfl) (by kernel_rfl) (fun _ _ _ h => h) (.inl rfl) rfl (fun _ h => h) (Yv.load1 Try.isAgg3 rfl (CF.blk 2 rfl rfl)) ?_
        refine HW.take 2 rfl (by kernel_rfl) (by kernel_rfl) (by kernel_rfl) (fun _ _ _ h => h) (.inl rfl) rfl (fun _ h => h) (Yv.move rfl) ?_
        refine HW.take 4 rfl (by kernel_rfl) (by kernel_rfl) (by kernel_rfl) (fun _ _ _ h => h) (.inl rfl) rfl (fun _ h => h) (Yv.indexA Try.underlying23 Try.sizeOf3 rfl rfl (by omega) (by omega)) ?_
        refine HW.take 5 rfl (by kernel_rfl) (by kernel_rfl) (by kernel_rfl) (fun _ _ _ h => h) (.inl rfl) rfl (fun _ h => h) (Yv.load1 Try.isAgg3 rfl (CF.blk 2 rfl rfl)) ?_
        refine HW.take 6 rfl (by kernel_rfl) (by kernel_rfl) (by kernel_rfl) (fun _ _ _ h => h) (.inl rfl) rfl (fun _ h => h) (Yv.move rfl) ?_
        refine HW.run3 3 8 9 (by kernel_rfl) (fun a w hf hs => HW.opp 3 rfl _ (.inl rfl) rfl (Ow.call e17 rfl (C.new (val := fun (p : Option Addr × Nat) => .agg #[.int .i64 n0, .slice p.1 (mergeL la).length p.2, .int .i64 0, .int .i64 0]) (φ := fun _ => True) (Ψ := fun p => row (.slice p.1 (mergeL la).length p.2) 48 3 (mergeL la).length (cellsE (mergeL la))) (fun w2 hs => (ref16New_ok n0 A c la w2 (hr1.below hs.mod.below) hok1).mono (fun en w3 ⟨p, he, hb, F, hF, hk⟩ => ⟨p, trivial, he, hb, F, hF, hk⟩)))) (by rintro _ _ ⟨⟨Am1, cm1⟩, -, rfl, rfl⟩ w h; exact (h).erase 0) ?_ hf hs) (fun a w hf hs => HW.opp 8 rfl _ (.inl rfl) rfl (Ow.alloc (cs := [_, _, _, _]) Try.zeroValue39 rfl) (by rintro _ _ ⟨b13, rfl, rfl⟩ w h; exact (h).erase 0) ?_ hf hs) (fun a w hf hs => HW.opp 9 rfl _ (.inl rfl) rfl (Ow.alloc (cs := [_, _, _, _]) Try.zeroValue39 rfl) (by rintro _ _ ⟨b14, rfl, rfl⟩ w h; exact (h).erase 0) ?_ hf hs)
        ·
          clear hf hs
          rintro _ _ ⟨⟨Am1, cm1⟩, -, rfl, rfl⟩
          refine HW.run3 7 8 9 (by kernel_rfl) (fun a w hf hs => HW.opp 7 rfl _ (.inl rfl) rfl (Ow.call e17 rfl (C.new (val := fun (p : Option Addr × Nat) => .agg #[.int .i64 n1, .slice p.1 (mergeL lb).length p.2, .int .i64 0, .int .i64 0]) (φ := fun _ => True) (Ψ := fun p => row (.slice p.1 (mergeL lb).length p.2) 48 3 (mergeL lb).length (cellsE (mergeL lb))) (fun w2 hs => (ref16New_ok n1 B d lb w2 (hr2.below hs.mod.below) hok2).mono (fun en w3 ⟨p, he, hb, F, hF, hk⟩ => ⟨p, trivial, he, hb, F, hF, hk⟩)))) (by rintro _ _ ⟨⟨Am2, cm2⟩, -, rfl, rfl⟩ w h; exact ((h).erase 0).erase 0) ?_ hf hs) (fun a w hf hs => HW.opp 8 rfl _ (.inl rfl) rfl (Ow.alloc (cs := [_, _, _, _]) Try.zeroValue39 rfl) (by rintro _ _ ⟨b13, rfl, rfl⟩ w h; exact ((h).erase 0).erase 0) ?_ hf hs) (fun a w hf hs => HW.opp 9 rfl _ (.inl rfl) rfl (Ow.alloc (cs := [_, _, _, _]) Try.zeroValue39 rfl) (by rintro _ _ ⟨b14, rfl, rfl⟩ w h; exact ((h).erase 0).erase 0) ?_ hf hs)
          ·
            clear hf hs
            rintro _ _ ⟨⟨Am2, cm2⟩, -, rfl, rfl⟩
            refine HW.run2 8 9 (by kernel_rfl) (fun a w hf hs => HW.opp 8 rfl _ (.inl rfl) rfl (Ow.alloc (cs := [_, _, _, _]) Try.zeroValue39 rfl) (by rintro _ _ ⟨b13, rfl, rfl⟩ w h; exact (((h).erase 0).erase 0).erase 0) ?_ hf hs) (fun a w hf hs => HW.opp 9 rfl _ (.inl rfl) rfl (Ow.alloc (cs := [_, _, _, _]) Try.zeroValue39 rfl) (by rintro _ _ ⟨b14, rfl, rfl⟩ w h; exact (((h).erase 0).erase 0).erase 0) ?_ hf hs)
            ·
              clear hf hs
              rintro _ _ ⟨b13, rfl, rfl⟩
              refine HW.run 9 rfl (by kernel_rfl) _ (.inl rfl) rfl (Ow.alloc (cs := [_, _, _, _]) Try.zeroValue39 rfl) (by rintro _ _ ⟨b14, rfl, rfl⟩ w h; exact ((((h).erase 0).erase 0).erase 0).erase 0) ?_
              rintro _ _ ⟨b14, rfl, rfl⟩
              refine HW.run 10 rfl (by kernel_rfl) _ (.inl rfl) rfl (Ow.storeW (vs := [_, _, _, _]) 1 Try.sizeOf39 rfl rfl (rfl) rfl (rfl)) (by rintro _ _ ⟨rfl, rfl⟩ w h; exact ((((h).erase 0).erase 0).erase 0).erase 0) ?_
              rintro _ _ ⟨rfl, rfl⟩
              refine HW.run 11 rfl (by kernel_rfl) _ (.inl rfl) rfl (Ow.storeW (vs := [_, _, _, _]) 0 Try.sizeOf39 rfl rfl (rfl) rfl (rfl)) (by rintro _ _ ⟨rfl, rfl⟩ w h; exact ((((h).erase 0).erase 0).erase 0).erase 0) ?_
              rintro _ _ ⟨rfl, rfl⟩
              refine HW.done (by kernel_rfl) ?_
              refine PW.mem _ (fun w h => h.front 4 rfl) ?_
              refine PW.mem _ (fun w h => h.front 5 rfl) ?_
              refine PW.mem _ (fun w h => h.front 4 rfl) ?_
              refine PW.mem _ (fun w h => h.front 5 rfl) ?_
              refine PW.mem _ (fun w h => h.front 4 rfl) ?_
              refine PW.mem _ (fun w h => h.front 5 rfl) ?_
              exact PW.mid (b13, b14, (Am1, cm1), (Am2, cm2)) (trivial) ⟨rfl, rfl, rfl, rfl, rfl, rfl, trivial⟩ (fun w h => (h).erase 6)
            ·
              clear hf hs
              rintro _ _ ⟨b14, rfl, rfl⟩
              refine HW.run 8 rfl (by kernel_rfl) _ (.inl rfl) rfl (Ow.alloc (cs := [_, _, _, _]) Try.zeroValue39 rfl) (by rintro _ _ ⟨b13, rfl, rfl⟩ w h; exact ((((h).erase 0).erase 0).erase 0).erase 0) ?_
              rintro _ _ ⟨b13, rfl, rfl⟩
              refine HW.run 10 rfl (by kernel_rfl) _ (.inl rfl) rfl (Ow.storeW (vs := [_, _, _, _]) 0 Try.sizeOf39 rfl rfl (rfl) rfl (rfl)) (by rintro _ _ ⟨rfl, rfl⟩ w h; exact ((((h).erase 0).erase 0).erase 0).erase 0) ?_
              rintro _ _ ⟨rfl, rfl⟩
              refine HW.run 11 rfl (by kernel_rfl) _ (.inl rfl) rfl (Ow.storeW (vs := [_, _, _, _]) 1 Try.sizeOf39 rfl rfl (rfl) rfl (rfl)) (by rintro _ _ ⟨rfl, rfl⟩ w h; exact ((((h).erase 0).erase 0).erase 0).erase 0) ?_
              rintro _ _ ⟨rfl, rfl⟩
              refine HW.done (by kernel_rfl) ?_
              refine PW.mem _ (fun w h => h.front 4 rfl) ?_
              refine PW.mem _ (fun w h => h.front 5 rfl) ?_
              refine PW.mem _ (fun w h => h.front 4 rfl) ?_
              refine PW.mem _ (fun w h => h.front 5 rfl) ?_
              refine PW.mem _ (fun w h => h.front 5 rfl) ?_
              refine PW.mem _ (fun w h => h.front 5 rfl) ?_
              exact PW.mid (b13, b14, (Am1, cm1), (Am2, cm2)) (trivial) ⟨rfl, rfl, rfl, rfl, rfl, rfl, trivial⟩ (fun w h => (h).erase 6)
          ·
            clear hf hs
            rintro _ _ ⟨b13, rfl, rfl⟩
            refine HW.run2 7 9 (by kernel_rfl) (fun a w hf hs => HW.opp 7 rfl _ (.inl rfl) rfl (Ow.call e17 rfl (C.new (val := fun (p : Option Addr × Nat) => .agg #[.int .i64 n1, .slice p.1 (mergeL lb).length p.2, .int .i64 0, .int .i64 0]) (φ := fun _ => True) (Ψ := fun p => row (.slice p.1 (mergeL lb).length p.2) 48 3 (mergeL lb).length (cellsE (mergeL lb))) (fun w2 hs => (ref16New_ok n1 B d lb w2 (hr2.below hs.mod.below) hok2).mono (fun en w3 ⟨p, he, hb, F, hF, hk⟩ => ⟨p, trivial, he, hb, F, hF, hk⟩)))) (by rintro _ _ ⟨⟨Am2, cm2⟩, -, rfl, rfl⟩ w h; exact (((h).erase 0).erase 0).erase 0) ?_ hf hs) (fun a w hf hs => HW.opp 9 rfl _ (.inl rfl) rfl (Ow.alloc (cs := [_, _, _, _]) Try.zeroValue39 rfl) (by rintro _ _ ⟨b14, rfl, rfl⟩ w h; exact (((h).erase 0).erase 0).erase 0) ?_ hf hs)
            ·
              clear hf hs
              rintro _ _ ⟨⟨Am2, cm2⟩, -, rfl, rfl⟩
              refine HW.run 9 rfl (by kernel_rfl) _ (.inl rfl) rfl (Ow.alloc (cs := [_, _, _, _]) Try.zeroValue39 rfl) (by rintro _ _ ⟨b14, rfl, rfl⟩ w h; exact ((((h).erase 0).erase 0).erase 0).erase 0) ?_
              rintro _ _ ⟨b14, rfl, rfl⟩
              refine HW.run 10 rfl (by kernel_rfl) _ (.inl rfl) rfl (Ow.storeW (vs := [_, _, _, _]) 2 Try.sizeOf39 rfl rfl (rfl) rfl (rfl)) (by rintro _ _ ⟨rfl, rfl⟩ w h; exact ((((h).erase 0).erase 0).erase 0).erase 0) ?_
              rintro _ _ ⟨rfl, rfl⟩
              refine HW.run 11 rfl (by kernel_rfl) _ (.inl rfl) rfl (Ow.storeW (vs := [_, _, _, _]) 0 Try.sizeOf39 rfl rfl (rfl) rfl (rfl)) (by rintro _ _ ⟨rfl, rfl⟩ w h; exact ((((h).erase 0).erase 0).erase 0).erase 0) ?_
              rintro _ _ ⟨rfl, rfl⟩
              refine HW.done (by kernel_rfl) ?_
              refine PW.mem _ (fun w h => h.front 4 rfl) ?_
              refine PW.mem _ (fun w h => h.front 5 rfl) ?_
              refine PW.mem _ (fun w h => h.front 3 rfl) ?_
              refine PW.mem _ (fun w h => h.front 5 rfl) ?_
              refine PW.mem _ (fun w h => h.front 4 rfl) ?_
              refine PW.mem _ (fun w h => h.front 5 rfl) ?_
              exact PW.mid (b13, b14, (Am1, cm1), (Am2, cm2)) (trivial) ⟨rfl, rfl, rfl, rfl, rfl, rfl, trivial⟩ (fun w h => (h).erase 6)
            ·
              clear hf hs
              rintro _ _ ⟨b14, rfl, rfl⟩
              refine HW.run 7 rfl (by kernel_rfl) _ (.inl rfl) rfl (Ow.call e17 rfl (C.new (val := fun (p : Option Addr × Nat) => .agg #[.int .i64 n1, .slice p.1 (mergeL lb).length p.2, .int .i64 0, .int .i64 0]) (φ := fun _ => True) (Ψ := fun p => row (.slice p.1 (mergeL lb).length p.2) 48 3 (mergeL lb).length (cellsE (mergeL lb))) (fun w2 hs => (ref16New_ok n1 B d lb w2 (hr2.below hs.mod.below) hok2).mono (fun en w3 ⟨p, he, hb, F, hF, hk⟩ => ⟨p, trivial, he, hb, F, hF, hk⟩)))) (by rintro _ _ ⟨⟨Am2, cm2⟩, -, rfl, rfl⟩ w h; exact ((((h).erase 0).erase 0).erase 0).erase 0) ?_
              rintro _ _ ⟨⟨Am2, cm2⟩, -, rfl, rfl⟩
              refine HW.run 10 rfl (by kernel_rfl) _ (.inl rfl) rfl (Ow.storeW (vs := [_, _, _, _]) 2 Try.sizeOf39 rfl rfl (rfl) rfl (rfl)) (by rintro _ _ ⟨rfl, rfl⟩ w h; exact ((((h).erase 0).erase 0).erase 0).erase 0) ?_
              rintro _ _ ⟨rfl, rfl⟩
              refine HW.run 11 rfl (by kernel_rfl) _ (.inl rfl) rfl (Ow.storeW (vs := [_, _, _, _]) 1 Try.sizeOf39 rfl rfl (rfl) rfl (rfl)) (by rintro _ _ ⟨rfl, rfl⟩ w h; exact ((((h).erase 0).erase 0).erase 0).erase 0) ?_
              rintro _ _ ⟨rfl, rfl⟩
              refine HW.done (by kernel_rfl) ?_
              refine PW.mem _ (fun w h => h.front 4 rfl) ?_
              refine PW.mem _ (fun w h => h.front 5 rfl) ?_
              refine PW.mem _ (fun w h => h.front 2 rfl) ?_
              refine PW.mem _ (fun w h => h.front 5 rfl) ?_
              refine PW.mem _ (fun w h => h.front 4 rfl) ?_
              refine PW.mem _ (fun w h => h.front 5 rfl) ?_
              exact PW.mid (b13, b14, (Am1, cm1), (Am2, cm2)) (trivial) ⟨rfl, rfl, rfl, rfl, rfl, rfl, trivial⟩ (fun w h => (h).erase 6)
          ·
            clear hf hs
            rintro _ _ ⟨b14, rfl, rfl⟩
            refine HW.run2 7 8 (by kernel_rfl) (fun a w hf hs => HW.opp 7 rfl _ (.inl rfl) rfl (Ow.call e17 rfl (C.new (val := fun (p : Option Addr × Nat) => .agg #[.int .i64 n1, .slice p.1 (mergeL lb).length p.2, .int .i64 0, .int .i64 0]) (φ := fun _ => True) (Ψ := fun p => row (.slice p.1 (mergeL lb).length p.2) 48 3 (mergeL lb).length (cellsE (mergeL lb))) (fun w2 hs => (ref16New_ok n1 B d lb w2 (hr2.below hs.mod.below) hok2).mono (fun en w3 ⟨p, he, hb, F, hF, hk⟩ => ⟨p, trivial, he, hb, F, hF, hk⟩)))) (by rintro _ _ ⟨⟨Am2, cm2⟩, -, rfl, rfl⟩ w h; exact (((h).erase 0).erase 0).erase 0) ?_ hf hs) (fun a w hf hs => HW.opp 8 rfl _ (.inl rfl) rfl (Ow.alloc (cs := [_, _, _, _]) Try.zeroValue39 rfl) (by rintro _ _ ⟨b13, rfl, rfl⟩ w h; exact (((h).erase 0).erase 0).erase 0) ?_ hf hs)
            ·
              clear hf hs
              rintro _ _ ⟨⟨Am2, cm2⟩, -, rfl, rfl⟩
              refine HW.run 8 rfl (by kernel_rfl) _ (.inl rfl) rfl (Ow.alloc (cs := [_, _, _, _]) Try.zeroValue39 rfl) (by rintro _ _ ⟨b13, rfl, rfl⟩ w h; exact ((((h).erase 0).erase 0).erase 0).erase 0) ?_
              rintro _ _ ⟨b13, rfl, rfl⟩
              refine HW.run 10 rfl (by kernel_rfl) _ (.inl rfl) rfl (Ow.storeW (vs := [_, _, _, _]) 0 Try.sizeOf39 rfl rfl (rfl) rfl (rfl)) (by rintro _ _ ⟨rfl, rfl⟩ w h; exact ((((h).erase 0).erase 0).erase 0).erase 0) ?_
              rintro _ _ ⟨rfl, rfl⟩
              refine HW.run 11 rfl (by kernel_rfl) _ (.inl rfl) rfl (Ow.storeW (vs := [_, _, _, _]) 2 Try.sizeOf39 rfl rfl (rfl) rfl (rfl)) (by rintro _ _ ⟨rfl, rfl⟩ w h; exact ((((h).erase 0).erase 0).erase 0).erase 0) ?_
              rintro _ _ ⟨rfl, rfl⟩
              refine HW.done (by kernel_rfl) ?_
              refine PW.mem _ (fun w h => h.front 4 rfl) ?_
              refine PW.mem _ (fun w h => h.front 5 rfl) ?_
              refine PW.mem _ (fun w h => h.front 3 rfl) ?_
              refine PW.mem _ (fun w h => h.front 5 rfl) ?_
              refine PW.mem _ (fun w h => h.front 5 rfl) ?_
              refine PW.mem _ (fun w h => h.front 5 rfl) ?_
              exact PW.mid (b13, b14, (Am1, cm1), (Am2, cm2)) (trivial) ⟨rfl, rfl, rfl, rfl, rfl, rfl, trivial⟩ (fun w h => (h).erase 6)
            ·
              clear hf hs
              rintro _ _ ⟨b13, rfl, rfl⟩
              refine HW.run 7 rfl (by kernel_rfl) _ (.inl rfl) rfl (Ow.call e17 rfl (C.new (val := fun (p : Option Addr × Nat) => .agg #[.int .i64 n1, .slice p.1 (mergeL lb).length p.2, .int .i64 0, .int .i64 0]) (φ := fun _ => True) (Ψ := fun p => row (.slice p.1 (mergeL lb).length p.2) 48 3 (mergeL lb).length (cellsE (mergeL lb))) (fun w2 hs => (ref16New_ok n1 B d lb w2 (hr2.below hs.mod.below) hok2).mono (fun en w3 ⟨p, he, hb, F, hF, hk⟩ => ⟨p, trivial, he, hb, F, hF, hk⟩)))) (by rintro _ _ ⟨⟨Am2, cm2⟩, -, rfl, rfl⟩ w h; exact ((((h).erase 0).erase 0).erase 0).erase 0) ?_
              rintro _ _ ⟨⟨Am2, cm2⟩, -, rfl, rfl⟩
              refine HW.run 10 rfl (by kernel_rfl) _ (.inl rfl) rfl (Ow.storeW (vs := [_, _, _, _]) 1 Try.sizeOf39 rfl rfl (rfl) rfl (rfl)) (by rintro _ _ ⟨rfl, rfl⟩ w h; exact ((((h).erase 0).erase 0).erase 0).erase 0) ?_
              rintro _ _ ⟨rfl, rfl⟩
              refine HW.run 11 rfl (by kernel_rfl) _ (.inl rfl) rfl (Ow.storeW (vs := [_, _, _, _]) 2 Try.sizeOf39 rfl rfl (rfl) rfl (rfl)) (by rintro _ _ ⟨rfl, rfl⟩ w h; exact ((((h).erase 0).erase 0).erase 0).erase 0) ?_
              rintro _ _ ⟨rfl, rfl⟩
              refine HW.done (by kernel_rfl) ?_
              refine PW.mem _ (fun w h => h.front 4 rfl) ?_
              refine PW.mem _ (fun w h => h.front 5 rfl) ?_
              refine PW.mem _ (fun w h => h.front 2 rfl) ?_
              refine PW.mem _ (fun w h => h.front 5 rfl) ?_
              refine PW.mem _ (fun w h => h.front 5 rfl) ?_
              refine PW.mem _ (fun w h => h.front 5 rfl) ?_
              exact PW.mid (b13, b14, (Am1, cm1), (Am2, cm2)) (trivial) ⟨rfl, rfl, rfl, rfl, rfl, rfl, trivial⟩ (fun w h => (h).erase 6)
        ·
          clear hf hs
          rintro _ _ ⟨b13, rfl, rfl⟩
          refine HW.run2 3 9 (by kernel_rfl) (fun a w hf hs => HW.opp 3 rfl _ (.inl rfl) rfl (Ow.call e17 rfl (C.new (val := fun (p : Option Addr × Nat) => .agg #[.int .i64 n0, .slice p.1 (mergeL la).length p.2, .int .i64 0, .int .i64 0]) (φ := fun _ => True) (Ψ := fun p => row (.slice p.1 (mergeL la).length p.2) 48 3 (mergeL la).length (cellsE (mergeL la))) (fun w2 hs => (ref16New_ok n0 A c la w2 (hr1.below hs.mod.below) hok1).mono (fun en w3 ⟨p, he, hb, F, hF, hk⟩ => ⟨p, trivial, he, hb, F, hF, hk⟩)))) (by rintro _ _ ⟨⟨Am1, cm1⟩, -, rfl, rfl⟩ w h; exact ((h).erase 0).erase 0) ?_ hf hs) (fun a w hf hs => HW.opp 9 rfl _ (.inl rfl) rfl (Ow.alloc (cs := [_, _, _, _]) Try.zeroValue39 rfl) (by rintro _ _ ⟨b14, rfl, rfl⟩ w h; exact ((h).erase 0).erase 0) ?_ hf hs)
          ·
            clear hf hs
            rintro _ _ ⟨⟨Am1, cm1⟩, -, rfl, rfl⟩
            refine HW.run2 7 9 (by kernel_rfl) (fun a w hf hs => HW.opp 7 rfl _ (.inl rfl) rfl (Ow.call e17 rfl (C.new (val := fun (p : Option Addr × Nat) => .agg #[.int .i64 n1, .slice p.1 (mergeL lb).length p.2, .int .i64 0, .int .i64 0]) (φ := fun _ => True) (Ψ := fun p => row (.slice p.1 (mergeL lb).length p.2) 48 3 (mergeL lb).length (cellsE (mergeL lb))) (fun w2 hs => (ref16New_ok n1 B d lb w2 (hr2.below hs.mod.below) hok2).mono (fun en w3 ⟨p, he, hb, F, hF, hk⟩ => ⟨p, trivial, he, hb, F, hF, hk⟩)))) (by rintro _ _ ⟨⟨Am2, cm2⟩, -, rfl, rfl⟩ w h; exact (((h).erase 0).erase 0).erase 0) ?_ hf hs) (fun a w hf hs => HW.opp 9 rfl _ (.inl rfl) rfl (Ow.alloc (cs := [_, _, _, _]) Try.zeroValue39 rfl) (by rintro _ _ ⟨b14, rfl, rfl⟩ w h; exact (((h).erase 0).erase 0).erase 0) ?_ hf hs)
            ·
              clear hf hs
              rintro _ _ ⟨⟨Am2, cm2⟩, -, rfl, rfl⟩
              refine HW.run 9 rfl (by kernel_rfl) _ (.inl rfl) rfl (Ow.alloc (cs := [_, _, _, _]) Try.zeroValue39 rfl) (by rintro _ _ ⟨b14, rfl, rfl⟩ w h; exact ((((h).erase 0).erase 0).erase 0).erase 0) ?_
              rintro _ _ ⟨b14, rfl, rfl⟩
              refine HW.run 10 rfl (by kernel_rfl) _ (.inl rfl) rfl (Ow.storeW (vs := [_, _, _, _]) 3 Try.sizeOf39 rfl rfl (rfl) rfl (rfl)) (by rintro _ _ ⟨rfl, rfl⟩ w h; exact ((((h).erase 0).erase 0).erase 0).erase 0) ?_
              rintro _ _ ⟨rfl, rfl⟩
              refine HW.run 11 rfl (by kernel_rfl) _ (.inl rfl) rfl (Ow.storeW (vs := [_, _, _, _]) 0 Try.sizeOf39 rfl rfl (rfl) rfl (rfl)) (by rintro _ _ ⟨rfl, rfl⟩ w h; exact ((((h).erase 0).erase 0).erase 0).erase 0) ?_
              rintro _ _ ⟨rfl, rfl⟩
              refine HW.done (by kernel_rfl) ?_
              refine PW.mem _ (fun w h => h.front 4 rfl) ?_
              refine PW.mem _ (fun w h => h.front 5 rfl) ?_
              refine PW.mem _ (fun w h => h.front 3 rfl) ?_
              refine PW.mem _ (fun w h => h.front 4 rfl) ?_
              refine PW.mem _ (fun w h => h.front 4 rfl) ?_
              refine PW.mem _ (fun w h => h.front 5 rfl) ?_
              exact PW.mid (b13, b14, (Am1, cm1), (Am2, cm2)) (trivial) ⟨rfl, rfl, rfl, rfl, rfl, rfl, trivial⟩ (fun w h => (h).erase 6)
            ·
              clear hf hs
              rintro _ _ ⟨b14, rfl, rfl⟩
              refine HW.run 7 rfl (by kernel_rfl) _ (.inl rfl) rfl (Ow.call e17 rfl (C.new (val := fun (p : Option Addr × Nat) => .agg #[.int .i64 n1, .slice p.1 (mergeL lb).length p.2, .int .i64 0, .int .i64 0]) (φ := fun _ => True) (Ψ := fun p => row (.slice p.1 (mergeL lb).length p.2) 48 3 (mergeL lb).length (cellsE (mergeL lb))) (fun w2 hs => (ref16New_ok n1 B d lb w2 (hr2.below hs.mod.below) hok2).mono (fun en w3 ⟨p, he, hb, F, hF, hk⟩ => ⟨p, trivial, he, hb, F, hF, hk⟩)))) (by rintro _ _ ⟨⟨Am2, cm2⟩, -, rfl, rfl⟩ w h; exact ((((h).erase 0).erase 0).erase 0).erase 0) ?_
              rintro _ _ ⟨⟨Am2, cm2⟩, -, rfl, rfl⟩
              refine HW.run 10 rfl (by kernel_rfl) _ (.inl rfl) rfl (Ow.storeW (vs := [_, _, _, _]) 3 Try.sizeOf39 rfl rfl (rfl) rfl (rfl)) (by rintro _ _ ⟨rfl, rfl⟩ w h; exact ((((h).erase 0).erase 0).erase 0).erase 0) ?_
              rintro _ _ ⟨rfl, rfl⟩
              refine HW.run 11 rfl (by kernel_rfl) _ (.inl rfl) rfl (Ow.storeW (vs := [_, _, _, _]) 1 Try.sizeOf39 rfl rfl (rfl) rfl (rfl)) (by rintro _ _ ⟨rfl, rfl⟩ w h; exact ((((h).erase 0).erase 0).erase 0).erase 0) ?_
              rintro _ _ ⟨rfl, rfl⟩
              refine HW.done (by kernel_rfl) ?_
              refine PW.mem _ (fun w h => h.front 4 rfl) ?_
              refine PW.mem _ (fun w h => h.front 5 rfl) ?_
              refine PW.mem _ (fun w h => h.front 2 rfl) ?_
              refine PW.mem _ (fun w h => h.front 4 rfl) ?_
              refine PW.mem _ (fun w h => h.front 4 rfl) ?_
              refine PW.mem _ (fun w h => h.front 5 rfl) ?_
              exact PW.mid (b13, b14, (Am1, cm1), (Am2, cm2)) (trivial) ⟨rfl, rfl, rfl, rfl, rfl, rfl, trivial⟩ (fun w h => (h).erase 6)
          ·
            clear hf hs
            rintro _ _ ⟨b14, rfl, rfl⟩
            refine HW.run 3 rfl (by kernel_rfl) _ (.inl rfl) rfl (Ow.call e17 rfl (C.new (val := fun (p : Option Addr × Nat) => .agg #[.int .i64 n0, .slice p.1 (mergeL la).length p.2, .int .i64 0, .int .i64 0]) (φ := fun _ => True) (Ψ := fun p => row (.slice p.1 (mergeL la).length p.2) 48 3 (mergeL la).length (cellsE (mergeL la))) (fun w2 hs => (ref16New_ok n0 A c la w2 (hr1.below hs.mod.below) hok1).mono (fun en w3 ⟨p, he, hb, F, hF, hk⟩ => ⟨p, trivial, he, hb, F, hF, hk⟩)))) (by rintro _ _ ⟨⟨Am1, cm1⟩, -, rfl, rfl⟩ w h; exact (((h).erase 0).erase 0).erase 0) ?_
            rintro _ _ ⟨⟨Am1, cm1⟩, -, rfl, rfl⟩
            refine HW.run 7 rfl (by kernel_rfl) _ (.inl rfl) rfl (Ow.call e17 rfl (C.new (val := fun (p : Option Addr × Nat) => .agg #[.int .i64 n1, .slice p.1 (mergeL lb).length p.2, .int .i64 0, .int .i64 0]) (φ := fun _ => True) (Ψ := fun p => row (.slice p.1 (mergeL lb).length p.2) 48 3 (mergeL lb).length (cellsE (mergeL lb))) (fun w2 hs => (ref16New_ok n1 B d lb w2 (hr2.below hs.mod.below) hok2).mono (fun en w3 ⟨p, he, hb, F, hF, hk⟩ => ⟨p, trivial, he, hb, F, hF, hk⟩)))) (by rintro _ _ ⟨⟨Am2, cm2⟩, -, rfl, rfl⟩ w h; exact ((((h).erase 0).erase 0).erase 0).erase 0) ?_
            rintro _ _ ⟨⟨Am2, cm2⟩, -, rfl, rfl⟩
            refine HW.run 10 rfl (by kernel_rfl) _ (.inl rfl) rfl (Ow.storeW (vs := [_, _, _, _]) 3 Try.sizeOf39 rfl rfl (rfl) rfl (rfl)) (by rintro _ _ ⟨rfl, rfl⟩ w h; exact ((((h).erase 0).erase 0).erase 0).erase 0) ?_
            rintro _ _ ⟨rfl, rfl⟩
            refine HW.run 11 rfl (by kernel_rfl) _ (.inl rfl) rfl (Ow.storeW (vs := [_, _, _, _]) 2 Try.sizeOf39 rfl rfl (rfl) rfl (rfl)) (by rintro _ _ ⟨rfl, rfl⟩ w h; exact ((((h).erase 0).erase 0).erase 0).erase 0) ?_
            rintro _ _ ⟨rfl, rfl⟩
            refine HW.done (by kernel_rfl) ?_
            refine PW.mem _ (fun w h => h.front 4 rfl) ?_
            refine PW.mem _ (fun w h => h.front 5 rfl) ?_
            refine PW.mem _ (fun w h => h.front 2 rfl) ?_
            refine PW.mem _ (fun w h => h.front 3 rfl) ?_
            refine PW.mem _ (fun w h => h.front 4 rfl) ?_
            refine PW.mem _ (fun w h => h.front 5 rfl) ?_
            exact PW.mid (b13, b14, (Am1, cm1), (Am2, cm2)) (trivial) ⟨rfl, rfl, rfl, rfl, rfl, rfl, trivial⟩ (fun w h => (h).erase 6)
        ·
          clear hf hs
          rintro _ _ ⟨b14, rfl, rfl⟩
          refine HW.run2 3 8 (by kernel_rfl) (fun a w hf hs => HW.opp 3 rfl _ (.inl rfl) rfl (Ow.call e17 rfl (C.new (val := fun (p : Option Addr × Nat) => .agg #[.int .i64 n0, .slice p.1 (mergeL la).length p.2, .int .i64 0, .int .i64 0]) (φ := fun _ => True) (Ψ := fun p => row (.slice p.1 (mergeL la).length p.2) 48 3 (mergeL la).length (cellsE (mergeL la))) (fun w2 hs => (ref16New_ok n0 A c la w2 (hr1.below hs.mod.below) hok1).mono (fun en w3 ⟨p, he, hb, F, hF, hk⟩ => ⟨p, trivial, he, hb, F, hF, hk⟩)))) (by rintro _ _ ⟨⟨Am1, cm1⟩, -, rfl, rfl⟩ w h; exact ((h).erase 0).erase 0) ?_ hf hs) (fun a w hf hs => HW.opp 8 rfl _ (.inl rfl) rfl (Ow.alloc (cs := [_, _, _, _]) Try.zeroValue39 rfl) (by rintro _ _ ⟨b13, rfl, rfl⟩ w h; exact ((h).erase 0).erase 0) ?_ hf hs)
          ·
            clear hf hs
            rintro _ _ ⟨⟨Am1, cm1⟩, -, rfl, rfl⟩
            refine HW.run2 7 8 (by kernel_rfl) (fun a w hf hs => HW.opp 7 rfl _ (.inl rfl) rfl (Ow.call e17 rfl (C.new (val := fun (p : Option Addr × Nat) => .agg #[.int .i64 n1, .slice p.1 (mergeL lb).length p.2, .int .i64 0, .int .i64 0]) (φ := fun _ => True) (Ψ := fun p => row (.slice p.1 (mergeL lb).length p.2) 48 3 (mergeL lb).length (cellsE (mergeL lb))) (fun w2 hs => (ref16New_ok n1 B d lb w2 (hr2.below hs.mod.below) hok2).mono (fun en w3 ⟨p, he, hb, F, hF, hk⟩ => ⟨p, trivial, he, hb, F, hF, hk⟩)))) (by rintro _ _ ⟨⟨Am2, cm2⟩, -, rfl, rfl⟩ w h; exact (((h).erase 0).erase 0).erase 0) ?_ hf hs) (fun a w hf hs => HW.opp 8 rfl _ (.inl rfl) rfl (Ow.alloc (cs := [_, _, _, _]) Try.zeroValue39 rfl) (by rintro _ _ ⟨b13, rfl, rfl⟩ w h; exact (((h).erase 0).erase 0).erase 0) ?_ hf hs)
            ·
              clear hf hs
              rintro _ _ ⟨⟨Am2, cm2⟩, -, rfl, rfl⟩
              refine HW.run 8 rfl (by kernel_rfl) _ (.inl rfl) rfl (Ow.alloc (cs := [_, _, _, _]) Try.zeroValue39 rfl) (by rintro _ _ ⟨b13, rfl, rfl⟩ w h; exact ((((h).erase 0).erase 0).erase 0).erase 0) ?_
              rintro _ _ ⟨b13, rfl, rfl⟩
              refine HW.run 10 rfl (by kernel_rfl) _ (.inl rfl) rfl (Ow.storeW (vs := [_, _, _, _]) 0 Try.sizeOf39 rfl rfl (rfl) rfl (rfl)) (by rintro _ _ ⟨rfl, rfl⟩ w h; exact ((((h).erase 0).erase 0).erase 0).erase 0) ?_
              rintro _ _ ⟨rfl, rfl⟩
              refine HW.run 11 rfl (by kernel_rfl) _ (.inl rfl) rfl (Ow.storeW (vs := [_, _, _, _]) 3 Try.sizeOf39 rfl rfl (rfl) rfl (rfl)) (by rintro _ _ ⟨rfl, rfl⟩ w h; exact ((((h).erase 0).erase 0).erase 0).erase 0) ?_
              rintro _ _ ⟨rfl, rfl⟩
              refine HW.done (by kernel_rfl) ?_
              refine PW.mem _ (fun w h => h.front 4 rfl) ?_
              refine PW.mem _ (fun w h => h.front 5 rfl) ?_
              refine PW.mem _ (fun w h => h.front 3 rfl) ?_
              refine PW.mem _ (fun w h => h.front 4 rfl) ?_
              refine PW.mem _ (fun w h => h.front 5 rfl) ?_
              refine PW.mem _ (fun w h => h.front 5 rfl) ?_
              exact PW.mid (b13, b14, (Am1, cm1), (Am2, cm2)) (trivial) ⟨rfl, rfl, rfl, rfl, rfl, rfl, trivial⟩ (fun w h => (h).erase 6)
            ·
              clear hf hs
              rintro _ _ ⟨b13, rfl, rfl⟩
              refine HW.run 7 rfl (by kernel_rfl) _ (.inl rfl) rfl (Ow.call e17 rfl (C.new (val := fun (p : Option Addr × Nat) => .agg #[.int .i64 n1, .slice p.1 (mergeL lb).length p.2, .int .i64 0, .int .i64 0]) (φ := fun _ => True) (Ψ := fun p => row (.slice p.1 (mergeL lb).length p.2) 48 3 (mergeL lb).length (cellsE (mergeL lb))) (fun w2 hs => (ref16New_ok n1 B d lb w2 (hr2.below hs.mod.below) hok2).mono (fun en w3 ⟨p, he, hb, F, hF, hk⟩ => ⟨p, trivial, he, hb, F, hF, hk⟩)))) (by rintro _ _ ⟨⟨Am2, cm2⟩, -, rfl, rfl⟩ w h; exact ((((h).erase 0).erase 0).erase 0).erase 0) ?_
              rintro _ _ ⟨⟨Am2, cm2⟩, -, rfl, rfl⟩
              refine HW.run 10 rfl (by kernel_rfl) _ (.inl rfl) rfl (Ow.storeW (vs := [_, _, _, _]) 1 Try.sizeOf39 rfl rfl (rfl) rfl (rfl)) (by rintro _ _ ⟨rfl, rfl⟩ w h; exact ((((h).erase 0).erase 0).erase 0).erase 0) ?_
              rintro _ _ ⟨rfl, rfl⟩
              refine HW.run 11 rfl (by kernel_rfl) _ (.inl rfl) rfl (Ow.storeW (vs := [_, _, _, _]) 3 Try.sizeOf39 rfl rfl (rfl) rfl (rfl)) (by rintro _ _ ⟨rfl, rfl⟩ w h; exact ((((h).erase 0).erase 0).erase 0).erase 0) ?_
              rintro _ _ ⟨rfl, rfl⟩
              refine HW.done (by kernel_rfl) ?_
              refine PW.mem _ (fun w h => h.front 4 rfl) ?_
              refine PW.mem _ (fun w h => h.front 5 rfl) ?_
              refine PW.mem _ (fun w h => h.front 2 rfl) ?_
              refine PW.mem _ (fun w h => h.front 4 rfl) ?_
              refine PW.mem _ (fun w h => h.front 5 rfl) ?_
              refine PW.mem _ (fun w h => h.front 5 rfl) ?_
              exact PW.mid (b13, b14, (Am1, cm1), (Am2, cm2)) (trivial) ⟨rfl, rfl, rfl, rfl, rfl, rfl, trivial⟩ (fun w h => (h).erase 6)
          ·
            clear hf hs
            rintro _ _ ⟨b13, rfl, rfl⟩
            refine HW.run 3 rfl (by kernel_rfl) _ (.inl rfl) rfl (Ow.call e17 rfl (C.new (val := fun (p : Option Addr × Nat) => .agg #[.int .i64 n0, .slice p.1 (mergeL la).length p.2, .int .i64 0, .int .i64 0]) (φ := fun _ => True) (Ψ := fun p => row (.slice p.1 (mergeL la).length p.2) 48 3 (mergeL la).length (cellsE (mergeL la))) (fun w2 hs => (ref16New_ok n0 A c la w2 (hr1.below hs.mod.below) hok1).mono (fun en w3 ⟨p, he, hb, F, hF, hk⟩ => ⟨p, trivial, he, hb, F, hF, hk⟩)))) (by rintro _ _ ⟨⟨Am1, cm1⟩, -, rfl, rfl⟩ w h; exact (((h).erase 0).erase 0).erase 0) ?_
            rintro _ _ ⟨⟨Am1, cm1⟩, -, rfl, rfl⟩
            refine HW.run 7 rfl (by kernel_rfl) _ (.inl rfl) rfl (Ow.call e17 rfl (C.new (val := fun (p : Option Addr × Nat) => .agg #[.int .i64 n1, .slice p.1 (mergeL lb).length p.2, .int .i64 0, .int .i64 0]) (φ := fun _ => True) (Ψ := fun p => row (.slice p.1 (mergeL lb).length p.2) 48 3 (mergeL lb).length (cellsE (mergeL lb))) (fun w2 hs => (ref16New_ok n1 B d lb w2 (hr2.below hs.mod.below) hok2).mono (fun en w3 ⟨p, he, hb, F, hF, hk⟩ => ⟨p, trivial, he, hb, F, hF, hk⟩)))) (by rintro _ _ ⟨⟨Am2, cm2⟩, -, rfl, rfl⟩ w h; exact ((((h).erase 0).erase 0).erase 0).erase 0) ?_
            rintro _ _ ⟨⟨Am2, cm2⟩, -, rfl, rfl⟩
            refine HW.run 10 rfl (by kernel_rfl) _ (.inl rfl) rfl (Ow.storeW (vs := [_, _, _, _]) 2 Try.sizeOf39 rfl rfl (rfl) rfl (rfl)) (by rintro _ _ ⟨rfl, rfl⟩ w h; exact ((((h).erase 0).erase 0).erase 0).erase 0) ?_
            rintro _ _ ⟨rfl, rfl⟩
            refine HW.run 11 rfl (by kernel_rfl) _ (.inl rfl) rfl (Ow.storeW (vs := [_, _, _, _]) 3 Try.sizeOf39 rfl rfl (rfl) rfl (rfl)) (by rintro _ _ ⟨rfl, rfl⟩ w h; exact ((((h).erase 0).erase 0).erase 0).erase 0) ?_
            rintro _ _ ⟨rfl, rfl⟩
            refine HW.done (by kernel_rfl) ?_
            refine PW.mem _ (fun w h => h.front 4 rfl) ?_
            refine PW.mem _ (fun w h => h.front 5 rfl) ?_
            refine PW.mem _ (fun w h => h.front 2 rfl) ?_
            refine PW.mem _ (fun w h => h.front 3 rfl) ?_
            refine PW.mem _ (fun w h => h.front 5 rfl) ?_
            refine PW.mem _ (fun w h => h.front 5 rfl) ?_
            exact PW.mid (b13, b14, (Am1, cm1), (Am2, cm2)) (trivial) ⟨rfl, rfl, rfl, rfl, rfl, rfl, trivial⟩ (fun w h => (h).erase 6)
      · intro ⟨b13, b14, ⟨Am1, cm1⟩, ⟨Am2, cm2⟩⟩ _
        (try dsimp only)
        refine CW.seq ?_
        refine CW.region ?_
        refine RW.y (.inl rfl) rfl (Yv.assign rfl) ?_
        refine RW.nil ?_
        refine PW.go ?_
        refine CW.seq ?_
        refine CW.region ?_
        refine RW.y (.inl rfl) rfl (Yv.move rfl) ?_
        refine RW.o _ (.inl rfl) rfl (Ow.call e29 rfl (C.val (fun w hs => netEdge_nil 0 _))) ?_
        rintro _ _ ⟨rfl, rfl⟩
        refine RW.y (.inl rfl) rfl (Yv.move rfl) ?_
        refine RW.y (.inl rfl) rfl (Yv.extract rfl rfl) ?_
        refine RW.y (.inl rfl) rfl (Yv.extract rfl rfl) ?_
        refine RW.o _ (.inl rfl) rfl (Ow.alloc (cs := [_, _, _]) Try.zeroValue48 rfl) ?_
        rintro _ _ ⟨b16, rfl, rfl⟩
        refine RW.o _ (.inl rfl) rfl (Ow.storeW (vs := [_, _, _]) 0 Try.sizeOf48 rfl rfl (rfl) rfl (rfl)) ?_
        rintro _ _ ⟨rfl, rfl⟩
        refine RW.y (.inl rfl) rfl (Yv.assign rfl) ?_
        refine RW.nil ?_
        refine PW.go ?_
        refine CW.seq ?_
        refine CW.seq ?_
        refine CW.region ?_
        refine RW.y (.inl rfl) rfl (Yv.move rfl) ?_
        refine RW.o _ (.inl rfl) rfl (Ow.call e30 rfl (C.val (fun w hs => netN_nil _))) ?_
        rintro _ _ ⟨rfl, rfl⟩
        refine RW.y (.inl rfl) rfl (Yv.ne rfl rfl) ?_
        refine RW.y (.inl rfl) rfl (Yv.move rfl) ?_
        refine RW.isF 60 rfl (by simp) ?_
        refine RW.y (.inr ⟨_, _, 60, rfl, rfl, rfl⟩) rfl (Yv.move rfl) ?_
        refine RW.o _ (.inr ⟨_, _, 60, rfl, rfl, rfl⟩) rfl (Ow.call e27 rfl (C.val (fun w hs => netM_nil _))) ?_
        rintro _ _ ⟨rfl, rfl⟩
        refine RW.y (.inr ⟨_, _, 60, rfl, rfl, rfl⟩) rfl (Yv.ne rfl rfl) ?_
        refine RW.y (.inl rfl) rfl (Yv.pickF rfl rfl) ?_
        refine RW.y (.inl rfl) rfl (Yv.move rfl) ?_
        refine RW.isF 65 rfl (by simp) ?_
        refine RW.y (.inr ⟨_, _, 65, rfl, rfl, rfl⟩) rfl (Yv.move rfl) ?_
        refine RW.o _ (.inr ⟨_, _, 65, rfl, rfl, rfl⟩) rfl (Ow.call e31 rfl (C.val (fun w hs => netEdges_nil _))) ?_
        rintro _ _ ⟨rfl, rfl⟩
        refine RW.y (.inr ⟨_, _, 65, rfl, rfl, rfl⟩) rfl (Yv.len Try.underlying22 rfl) ?_
        refine RW.y (.inr ⟨_, _, 65, rfl, rfl, rfl⟩) rfl (Yv.ne rfl rfl) ?_
        refine RW.y (.inl rfl) rfl (Yv.pickF rfl rfl) ?_
        refine RW.y (.inl rfl) rfl (Yv.move rfl) ?_
        refine RW.isF 71 rfl (by simp) ?_
        refine RW.y (.inr ⟨_, _, 71, rfl, rfl, rfl⟩) rfl (Yv.move rfl) ?_
        refine RW.y (.inl rfl) rfl (Yv.pickF rfl rfl) ?_
        refine RW.y (.inl rfl) rfl (Yv.move rfl) ?_
        refine RW.isB (c := false) 74 rfl (rfl) ?_
        refine RW.y (.inr ⟨_, _, 74, rfl, rfl, rfl⟩) rfl (Yv.move rfl) ?_
        refine RW.o _ (.inr ⟨_, _, 74, rfl, rfl, rfl⟩) rfl (Ow.call e32 rfl (C.val (fun w hs => netWeight_nil 0 1 _))) ?_
        rintro _ _ ⟨rfl, rfl⟩
        refine RW.y (.inr ⟨_, _, 74, rfl, rfl, rfl⟩) rfl (Yv.ne rfl rfl) ?_
        refine RW.y (.inl rfl) rfl (Yv.pickF rfl rfl) ?_
        refine RW.y (.inl rfl) rfl (Yv.move rfl) ?_
        refine RW.isF 79 rfl (by simp) ?_
        refine RW.y (.inr ⟨_, _, 79, rfl, rfl, rfl⟩) rfl (Yv.move rfl) ?_
        refine RW.o _ (.inr ⟨_, _, 79, rfl, rfl, rfl⟩) rfl (Ow.call e33 rfl (C.val (fun w hs => netDegree_nil 0 _))) ?_
        rintro _ _ ⟨rfl, rfl⟩
        refine RW.y (.inr ⟨_, _, 79, rfl, rfl, rfl⟩) rfl (Yv.ne rfl rfl) ?_
        refine RW.y (.inl rfl) rfl (Yv.pickF rfl rfl) ?_
        refine RW.y (.inl rfl) rfl (Yv.move rfl) ?_
        refine RW.isF 84 rfl (by simp) ?_
        refine RW.y (.inr ⟨_, _, 84, rfl, rfl, rfl⟩) rfl (Yv.move rfl) ?_
        refine RW.o _ (.inr ⟨_, _, 84, rfl, rfl, rfl⟩) rfl (Ow.call e34 rfl (C.val (fun w hs => netNear_nil 0 _))) ?_
        rintro _ _ ⟨rfl, rfl⟩
        refine RW.y (.inr ⟨_, _, 84, rfl, rfl, rfl⟩) rfl (Yv.len Try.underlying32 rfl) ?_
        refine RW.y (.inr ⟨_, _, 84, rfl, rfl, rfl⟩) rfl (Yv.ne rfl rfl) ?_
        refine RW.y (.inl rfl) rfl (Yv.pickF rfl rfl) ?_
        refine RW.y (.inl rfl) rfl (Yv.move rfl) ?_
        refine RW.isF 90 rfl (by simp) ?_
        refine RW.y (.inr ⟨_, _, 90, rfl, rfl, rfl⟩) rfl (Yv.move rfl) ?_
        refine RW.o _ (.inr ⟨_, _, 90, rfl, rfl, rfl⟩) rfl (Ow.call e35 rfl (C.val (fun w hs => netTotal_nil _))) ?_
        rintro _ _ ⟨rfl, rfl⟩
        refine RW.y (.inr ⟨_, _, 90, rfl, rfl, rfl⟩) rfl (Yv.ne rfl rfl) ?_
        refine RW.y (.inl rfl) rfl (Yv.pickF rfl rfl) ?_
        refine RW.y (.inl rfl) rfl (Yv.move rfl) ?_
        refine RW.isF 95 rfl (by simp) ?_
        refine RW.y (.inr ⟨_, _, 95, rfl, rfl, rfl⟩) rfl (Yv.move rfl) ?_
        refine RW.o _ (.inr ⟨_, _, 95, rfl, rfl, rfl⟩) rfl (Ow.call e36 rfl (C.val (fun w hs => netSame_nil _))) ?_
        rintro _ _ ⟨rfl, rfl⟩
        refine RW.y (.inr ⟨_, _, 95, rfl, rfl, rfl⟩) rfl (Yv.not rfl) ?_
        refine RW.y (.inl rfl) rfl (Yv.pickF rfl rfl) ?_
        refine RW.nil ?_
        refine PW.go ?_
        refine CW.cond rfl (fun hc99 => ?_) (fun hc99 => ?_)
        ·
          cases hc99
        ·
          refine CW.skip ?_
          refine PW.go ?_
          refine CW.seq ?_
          refine CW.seq ?_
          refine CW.region ?_
          refine RW.y (.inl rfl) rfl (Yv.move rfl) ?_
          refine RW.y (.inl rfl) rfl (Yv.ne rfl rfl) ?_
          refine RW.y (.inl rfl) rfl (Yv.move rfl) ?_
          refine RW.isF 102 rfl (by simp) ?_
          refine RW.y (.inr ⟨_, _, 102, rfl, rfl, rfl⟩) rfl (Yv.move rfl) ?_
          refine RW.y (.inr ⟨_, _, 102, rfl, rfl, rfl⟩) rfl (Yv.ne rfl rfl) ?_
          refine RW.y (.inl rfl) rfl (Yv.pickF rfl rfl) ?_
          refine RW.nil ?_
          refine PW.go ?_
          refine CW.condD rfl (fun hc105 => ?_) (fun hc105 => ?_)
          ·
            exact absurd rfl hc105
          ·
            refine CW.skip ?_
            refine PW.go ?_
            refine CW.seq ?_
            refine CW.region ?_
            refine RW.y (.inl rfl) rfl (Yv.fieldAddr Try.underlying39 rfl Try.sizeOf37 rfl rfl) ?_
            refine RW.y (.inl rfl) rfl (Yv.fieldAddr Try.underlying37 rfl Try.sizeOf3 rfl rfl) ?_
            refine RW.y (.inl rfl) rfl (Yv.load1 Try.isAgg3 rfl (CF.blk 1 rfl rfl)) ?_
            refine RW.y (.inl rfl) rfl (Yv.fieldAddr Try.underlying39 rfl Try.sizeOf37 rfl rfl) ?_
            refine RW.y (.inl rfl) rfl (Yv.fieldAddr Try.underlying37 rfl Try.sizeOf3 rfl rfl) ?_
            refine RW.y (.inl rfl) rfl (Yv.load1 Try.isAgg3 rfl (CF.blk 2 rfl rfl)) ?_
            refine RW.y (.inl rfl) rfl (Yv.eq rfl rfl) ?_
            refine RW.y (.inl rfl) rfl (Yv.move rfl) ?_
            refine RW.splitD 126 rfl (fun hc126 => ?_) (fun hc126 => ?_)
            ·
              refine RW.y (.inr ⟨_, _, 126, rfl, rfl, rfl⟩) rfl (Yv.fieldAddr Try.underlying39 rfl Try.sizeOf37 rfl rfl) ?_
              refine RW.y (.inr ⟨_, _, 126, rfl, rfl, rfl⟩) rfl (Yv.fieldAddr Try.underlying37 rfl Try.sizeOf22 rfl rfl) ?_
              refine RW.y (.inr ⟨_, _, 126, rfl, rfl, rfl⟩) rfl (Yv.load1 Try.isAgg22 rfl (CF.blk 1 rfl rfl)) ?_
              refine RW.y (.inr ⟨_, _, 126, rfl, rfl, rfl⟩) rfl (Yv.fieldAddr Try.underlying39 rfl Try.sizeOf37 rfl rfl) ?_
              refine RW.y (.inr ⟨_, _, 126, rfl, rfl, rfl⟩) rfl (Yv.fieldAddr Try.underlying37 rfl Try.sizeOf22 rfl rfl) ?_
              refine RW.y (.inr ⟨_, _, 126, rfl, rfl, rfl⟩) rfl (Yv.load1 Try.isAgg22 rfl (CF.blk 2 rfl rfl)) ?_
              refine RW.o _ (.inr ⟨_, _, 126, rfl, rfl, rfl⟩) rfl (Ow.call e37 rfl (C.val (fun w hs => ref15Same _ Am1 cm1 (mergeL la) (hs.row_Rd 3 rfl (by omega)) Am2 cm2 (mergeL lb) (hs.row_Rd 4 rfl (by omega))))) ?_
              rintro _ _ ⟨rfl, rfl⟩
              refine RW.y (.inl rfl) rfl (Yv.pickT rfl rfl) ?_
              refine RW.y (.inl rfl) rfl (Yv.assign rfl) ?_
              refine RW.nil ?_
              refine PW.go ?_
              refine CW.seq ?_
              refine CW.region ?_
              refine RW.y (.inl rfl) rfl (Yv.move rfl) ?_
              refine RW.y (.inl rfl) rfl (Yv.move rfl) ?_
              refine RW.o _ (.inl rfl) rfl (Ow.call e36 rfl (C.val (fun w hs => netSame bg1 bg2 (netOf n0 la) (netOf n1 lb) _ (hs.now 5 rfl) (hs.now 6 rfl)))) ?_
              rintro _ _ ⟨rfl, rfl⟩
              refine RW.y (.inl rfl) rfl (Yv.move rfl) ?_
              refine RW.y (.inl rfl) rfl (Yv.boolEq Try.underlying4 rfl rfl) ?_
              refine RW.y (.inl rfl) rfl (Yv.move rfl) ?_
              refine RW.isB (c := true) 140 rfl (by first | (simp [netOf, hc126]; done) | (rw [decide_eq_false (fun h => hc126 (by have h1 := h.1; have h2 := hok1.h0; have h3 := hok2.h0; simp only [netOf] at h1; omega))]; rfl)) ?_
              refine RW.y (.inr ⟨_, _, 140, rfl, rfl, rfl⟩) rfl (Yv.move rfl) ?_
              refine RW.y (.inr ⟨_, _, 140, rfl, rfl, rfl⟩) rfl (Yv.move rfl) ?_
              refine RW.o _ (.inr ⟨_, _, 140, rfl, rfl, rfl⟩) rfl (Ow.call e36 rfl (C.val (fun w hs => netSame bg1 bg1 (netOf n0 la) (netOf n0 la) _ (hs.now 5 rfl) (hs.now 5 rfl)))) ?_
              rintro _ _ ⟨rfl, rfl⟩
              refine RW.y (.inl rfl) rfl (Yv.pickT rfl rfl) ?_
              refine RW.y (.inl rfl) rfl (Yv.move rfl) ?_
              refine RW.isB (c := true) 145 rfl (by simp) ?_
              refine RW.o _ (.inr ⟨_, _, 145, rfl, rfl, rfl⟩) rfl (Ow.call e28 rfl (C.val (fun w hs => awake16 _))) ?_
              rintro _ _ ⟨rfl, rfl⟩
              refine RW.y (.inl rfl) rfl (Yv.pickT rfl rfl) ?_
              refine RW.y (.inl rfl) rfl (Yv.assign rfl) ?_
              refine RW.nil ?_
              refine PW.go ?_
              refine CW.ret ?_
              refine PW.ret1 Try.results5 rfl (fun w1 hs => ?_)
              exact ⟨rfl, hs.mod.below⟩
            ·
              refine RW.no ⟨_, _, 126, _, rfl, rfl, rfl, fun h => by simp [undef] at h⟩ rfl ?_
              refine RW.no ⟨_, _, 126, _, rfl, rfl, rfl, fun h => by simp [undef] at h⟩ rfl ?_
              refine RW.no ⟨_, _, 126, _, rfl, rfl, rfl, fun h => by simp [undef] at h⟩ rfl ?_
              refine RW.no ⟨_, _, 126, _, rfl, rfl, rfl, fun h => by simp [undef] at h⟩ rfl ?_
              refine RW.no ⟨_, _, 126, _, rfl, rfl, rfl, fun h => by simp [undef] at h⟩ rfl ?_
              refine RW.no ⟨_, _, 126, _, rfl, rfl, rfl, fun h => by simp [undef] at h⟩ rfl ?_
              refine RW.no ⟨_, _, 126, _, rfl, rfl, rfl, fun h => by simp [undef] at h⟩ rfl ?_
              refine RW.y (.inl rfl) rfl (Yv.pickF rfl rfl) ?_
              refine RW.y (.inl rfl) rfl (Yv.assign rfl) ?_
              refine RW.nil ?_
              refine PW.go ?_
              refine CW.seq ?_
              refine CW.region ?_
              refine RW.y (.inl rfl) rfl (Yv.move rfl) ?_
              refine RW.y (.inl rfl) rfl (Yv.move rfl) ?_
              refine RW.o _ (.inl rfl) rfl (Ow.call e36 rfl (C.val (fun w hs => netSame bg1 bg2 (netOf n0 la) (netOf n1 lb) _ (hs.now 5 rfl) (hs.now 6 rfl)))) ?_
              rintro _ _ ⟨rfl, rfl⟩
              refine RW.y (.inl rfl) rfl (Yv.move rfl) ?_
              refine RW.y (.inl rfl) rfl (Yv.boolEq Try.underlying4 rfl rfl) ?_
              refine RW.y (.inl rfl) rfl (Yv.move rfl) ?_
              refine RW.isB (c := true) 140 rfl (by first | (simp [netOf, hc126]; done) | (rw [decide_eq_false (fun h => hc126 (by have h1 := h.1; have h2 := hok1.h0; have h3 := hok2.h0; simp only [netOf] at h1; omega))]; rfl)) ?_
              refine RW.y (.inr ⟨_, _, 140, rfl, rfl, rfl⟩) rfl (Yv.move rfl) ?_
              refine RW.y (.inr ⟨_, _, 140, rfl, rfl, rfl⟩) rfl (Yv.move rfl) ?_
              refine RW.o _ (.inr ⟨_, _, 140, rfl, rfl, rfl⟩) rfl (Ow.call e36 rfl (C.val (fun w hs => netSame bg1 bg1 (netOf n0 la) (netOf n0 la) _ (hs.now 5 rfl) (hs.now 5 rfl)))) ?_
              rintro _ _ ⟨rfl, rfl⟩
              refine RW.y (.inl rfl) rfl (Yv.pickT rfl rfl) ?_
              refine RW.y (.inl rfl) rfl (Yv.move rfl) ?_
              refine RW.isB (c := true) 145 rfl (by simp) ?_
              refine RW.o _ (.inr ⟨_, _, 145, rfl, rfl, rfl⟩) rfl (Ow.call e28 rfl (C.val (fun w hs => awake16 _))) ?_
              rintro _ _ ⟨rfl, rfl⟩
              refine RW.y (.inl rfl) rfl (Yv.pickT rfl rfl) ?_
              refine RW.y (.inl rfl) rfl (Yv.assign rfl) ?_
              refine RW.nil ?_
              refine PW.go ?_
              refine CW.ret ?_
              refine PW.ret1 Try.results5 rfl (fun w1 hs => ?_)
              exact ⟨rfl, hs.mod.below⟩

set_option maxRecDepth 100000 in
theorem netSameLaw_oe (n0 n1 : Int) (A B : Option Addr) (c d : Nat) (la lb : List Edg) (w : World) (hr1 : Rd w A 3 la.length (cellsE la)) (hr2 : Rd w B 3 lb.length (cellsE lb)) (hok1 : NewOk n0 la) (k2 : Int) (i2 : Nat) (hk2 : k2 ≠ 0) (he2 : NewE n1 lb k2 i2) : Calls Try.prog 5 #[.agg #[.int .i64 n0, .int .i64 n1], .slice A la.length c, .slice B lb.length d] w fun e w1 => e = .returned (.bool true) ∧ Gr w w1 := by
  have hml1 := mergeL_length la
  have hl1 := hok1.hl
  refine CW.enter (P := Try.prog) (F0 := none0) (L := [(0, _), (1, _), (2, _)]) 148 [] Try.func5 rfl Try.ntmps5 (Nat.le_of_ble_eq_true rfl) (St.start w none0) rfl ?_
  refine CW.seq ?_
  refine CW.region ?_
  refine RW.o _ (.inl rfl) rfl (Ow.box (cs := [_, _]) rfl rfl) ?_
  rintro _ _ ⟨b3, rfl, rfl⟩
  refine RW.y (.inl rfl) rfl (Yv.assign rfl) ?_
  refine RW.nil ?_
  refine PW.go ?_
  refine CW.seq ?_
  refine CW.seq ?_
  refine CW.region ?_
  refine RW.y (.inl rfl) rfl (Yv.move rfl) ?_
  refine RW.y (.inl rfl) rfl (Yv.len Try.underlying22 rfl) ?_
  refine RW.y (.inl rfl) rfl (Yv.gt rfl rfl) ?_
  refine RW.y (.inl rfl) rfl (Yv.move rfl) ?_
  refine RW.splitD 22 rfl (fun hc22 => ?_) (fun hc22 => ?_)
  ·
    refine RW.no ⟨_, _, 22, _, rfl, rfl, rfl, fun h => by simp [undef] at h⟩ rfl ?_
    refine RW.no ⟨_, _, 22, _, rfl, rfl, rfl, fun h => by simp [undef] at h⟩ rfl ?_
    refine RW.no ⟨_, _, 22, _, rfl, rfl, rfl, fun h => by simp [undef] at h⟩ rfl ?_
    refine RW.y (.inl rfl) rfl (Yv.pickT rfl rfl) ?_
    refine RW.nil ?_
    refine PW.go ?_
    refine CW.condT rfl ?_
    refine CW.seq ?_
    refine CW.region ?_
    refine RW.o _ (.inl rfl) rfl (Ow.call e28 rfl (C.val (fun w hs => awake16 _))) ?_
    rintro _ _ ⟨rfl, rfl⟩
    refine RW.y (.inl rfl) rfl (Yv.assign rfl) ?_
    refine RW.nil ?_
    refine PW.go ?_
    refine CW.ret ?_
    refine PW.then_ret ?_
    refine PW.ret1 Try.results5 rfl (fun w1 hs => ?_)
    exact ⟨rfl, hs.mod.below⟩
  ·
    refine RW.y (.inr ⟨_, _, 22, rfl, rfl, rfl⟩) rfl (Yv.move rfl) ?_
    refine RW.y (.inr ⟨_, _, 22, rfl, rfl, rfl⟩) rfl (Yv.len Try.underlying22 rfl) ?_
    refine RW.y (.inr ⟨_, _, 22, rfl, rfl, rfl⟩) rfl (Yv.gt rfl rfl) ?_
    refine RW.y (.inl rfl) rfl (Yv.pickF rfl rfl) ?_
    refine RW.nil ?_
    refine PW.go ?_
    refine CW.condD rfl (fun hc26 => ?_) (fun hc26 => ?_)
    ·
      refine CW.seq ?_
      refine CW.region ?_
      refine RW.o _ (.inl rfl) rfl (Ow.call e28 rfl (C.val (fun w hs => awake16 _))) ?_
      rintro _ _ ⟨rfl, rfl⟩
      refine RW.y (.inl rfl) rfl (Yv.assign rfl) ?_
      refine RW.nil ?_
      refine PW.go ?_
      refine CW.ret ?_
      refine PW.then_ret ?_
      refine PW.ret1 Try.results5 rfl (fun w1 hs => ?_)
      exact ⟨rfl, hs.mod.below⟩
    ·
      refine CW.skip ?_
      refine PW.go ?_
      refine CW.seq ?_
      refine CW.region ?_
      refine RW.y (.inl rfl) rfl (Yv.indexA Try.underlying23 Try.sizeOf3 rfl rfl (by omega) (by omega)) ?_
      refine RW.y (.inl rfl) rfl (Yv.load1 Try.isAgg3 rfl (CF.blk 0 rfl rfl)) ?_
      refine RW.y (.inl rfl) rfl (Yv.move rfl) ?_
      refine RW.o _ (.inl rfl) rfl (Ow.call e9 rfl (C.new (val := fun (b : Nat) => .tuple #[.pointer (some ⟨b, 0, none⟩), .int .i64 0, .int .i64 0]) (φ := fun _ => True) (Ψ := fun b => nowA (fun w' => IsNet w' b (netOf n0 la))) (fun w2 hs => (netNew_ok n0 A c la w2 (hr1.below hs.mod.below) hok1).mono (fun en w3 ⟨b, ht, he, hb, F, hF, hk⟩ => ⟨b, ht, he, hb, F, hF, hk⟩)))) ?_
      rintro _ _ ⟨bg1, -, rfl, rfl⟩
      refine RW.y (.inl rfl) rfl (Yv.move rfl) ?_
      refine RW.y (.inl rfl) rfl (Yv.extract rfl rfl) ?_
      refine RW.y (.inl rfl) rfl (Yv.extract rfl rfl) ?_
      refine RW.y (.inl rfl) rfl (Yv.extract rfl rfl) ?_
      refine RW.y (.inl rfl) rfl (Yv.assign rfl) ?_
      refine RW.y (.inl rfl) rfl (Yv.assign rfl) ?_
      refine RW.y (.inl rfl) rfl (Yv.assign rfl) ?_
      refine RW.nil ?_
      refine PW.go ?_
      refine CW.seq ?_
      refine CW.region ?_
      refine RW.y (.inl rfl) rfl (Yv.indexA Try.underlying23 Try.sizeOf3 rfl rfl (by omega) (by omega)) ?_
      refine RW.y (.inl rfl) rfl (Yv.load1 Try.isAgg3 rfl (CF.blk 1 rfl rfl)) ?_
      refine RW.y (.inl rfl) rfl (Yv.move rfl) ?_
      refine RW.o _ (.inl rfl) rfl (Ow.call e9 rfl (C.val (fun w hs => netNew_err n1 B d lb _ (hr2.below hs.mod.below) k2 i2 hk2 he2))) ?_
      rintro _ _ ⟨rfl, rfl⟩
      refine RW.y (.inl rfl) rfl (Yv.move rfl) ?_
      refine RW.y (.inl rfl) rfl (Yv.extract rfl rfl) ?_
      refine RW.y (.inl rfl) rfl (Yv.extract rfl rfl) ?_
      refine RW.y (.inl rfl) rfl (Yv.extract rfl rfl) ?_
      refine RW.y (.inl rfl) rfl (Yv.assign rfl) ?_
      refine RW.y (.inl rfl) rfl (Yv.assign rfl) ?_
      refine RW.y (.inl rfl) rfl (Yv.assign rfl) ?_
      refine RW.nil ?_
      refine PW.go ?_
      refine CW.cut (σ := Nat × Nat × (Option Addr × Nat) × (Option Addr × Nat)) (fun s => True) (fun s => [(7, .pointer (some ⟨bg1, 0, none⟩)), (8, .int .i64 0), (10, .pointer none), (11, .int .i64 k2), (13, .pointer (some ⟨s.1, 0, none⟩)), (14, .pointer (some ⟨s.2.1, 0, none⟩))]) (fun s => [blk s.1 [.int .i64 n0, .slice s.2.2.1.1 (mergeL la).length s.2.2.1.2, .int .i64 0, .int .i64 0] 39, blk s.2.1 [.int .i64 0, .slice none 0 0, .int .i64 k2, .int .i64 i2] 39, row (.slice s.2.2.1.1 (mergeL la).length s.2.2.1.2) 48 3 (mergeL la).length (cellsE (mergeL la)), nowA (fun w' => IsNet w' bg1 (netOf n0 la))]) ?_ ?_
      ·
        refine CW.draw0 mixed ?_
        refine HW.take 0 rfl (by kernel_rfl) (by kernel_rfl) (by kernel_rfl) (fun _ _ _ h => h) (.inl rfl) rfl (fun _ h => h) (Yv.indexA Try.underlying23 Try.sizeOf3 rfl rfl (by omega) (by omega)) ?_
        refine HW.take 1 rfl (by kernel_rfl) (by kernel_rfl) (by kernel_rfl) (fun _ _ _ h => h) (.inl rfl) rfl (fun _ h => h) (Yv.load1 Try.isAgg3 rfl (CF.blk 1 rfl rfl)) ?_
        refine HW.take 2 rfl (by kernel_rfl) (by kernel_rfl) (by kernel_rfl) (fun _ _ _ h => h) (.inl rfl) rfl (fun _ h => h) (Yv.move rfl) ?_
        refine HW.take 4 rfl (by kernel_rfl) (by kernel_rfl) (by kernel_rfl) (fun _ _ _ h => h) (.inl rfl) rfl (fun _ h => h) (Yv.indexA Try.underlying23 Try.sizeOf3 rfl rfl (by omega) (by omega)) ?_
        refine HW.take 5 rfl (by kernel_rfl) (by kernel_rfl) (by kernel_rfl) (fun _ _ _ h => h) (.inl rfl) rfl (fun _ h => h) (Yv.load1 Try.isAgg3 rfl (CF.blk 1 rfl rfl)) ?_
        refine HW.take 6 rfl (by kernel_rfl) (by kernel_rfl) (by kernel_rfl) (fun _ _ _ h => h) (.inl rfl) rfl (fun _ h => h) (Yv.move rfl) ?_
        refine HW.run3 3 8 9 (by kernel_rfl) (fun a w hf hs => HW.opp 3 rfl _ (.inl rfl) rfl (Ow.call e17 rfl (C.new (val := fun (p : Option Addr × Nat) => .agg #[.int .i64 n0, .slice p.1 (mergeL la).length p.2, .int .i64 0, .int .i64 0]) (φ := fun _ => True) (Ψ := fun p => row (.slice p.1 (mergeL la).length p.2) 48 3 (mergeL la).length (cellsE (mergeL la))) (fun w2 hs => (ref16New_ok n0 A c la w2 (hr1.below hs.mod.below) hok1).mono (fun en w3 ⟨p, he, hb, F, hF, hk⟩ => ⟨p, trivial, he, hb, F, hF, hk⟩)))) (by rintro _ _ ⟨⟨Am1, cm1⟩, -, rfl, rfl⟩ w h; exact (h).erase 0) ?_ hf hs) (fun a w hf hs => HW.opp 8 rfl _ (.inl rfl) rfl (Ow.alloc (cs := [_, _, _, _]) Try.zeroValue39 rfl) (by rintro _ _ ⟨b13, rfl, rfl⟩ w h; exact (h).erase 0) ?_ hf hs) (fun a w hf hs => HW.opp 9 rfl _ (.inl rfl) rfl (Ow.alloc (cs := [_, _, _, _]) Try.zeroValue39 rfl) (by rintro _ _ ⟨b14, rfl, rfl⟩ w h; exact (h).erase 0) ?_ hf hs)
        ·
          clear hf hs
          rintro _ _ ⟨⟨Am1, cm1⟩, -, rfl, rfl⟩
          refine HW.run3 7 8 9 (by kernel_rfl) (fun a w hf hs => HW.opp 7 rfl _ (.inl rfl) rfl (Ow.call e17 rfl (C.val (fun w hs => ref16New_err n1 B d lb _ (hr2.below hs.mod.below) k2 i2 hk2 he2))) (by rintro _ _ ⟨rfl, rfl⟩ w h; exact (h).erase 0) ?_ hf hs) (fun a w hf hs => HW.opp 8 rfl _ (.inl rfl) rfl (Ow.alloc (cs := [_, _, _, _]) Try.zeroValue39 rfl) (by rintro _ _ ⟨b13, rfl, rfl⟩ w h; exact ((h).erase 0).erase 0) ?_ hf hs) (fun a w hf hs => HW.opp 9 rfl _ (.inl rfl) rfl (Ow.alloc (cs := [_, _, _, _]) Try.zeroValue39 rfl) (by rintro _ _ ⟨b14, rfl, rfl⟩ w h; exact ((h).erase 0).erase 0) ?_ hf hs)
          ·
            clear hf hs
            rintro _ _ ⟨rfl, rfl⟩
            refine HW.run2 8 9 (by kernel_rfl) (fun a w hf hs => HW.opp 8 rfl _ (.inl rfl) rfl (Ow.alloc (cs := [_, _, _, _]) Try.zeroValue39 rfl) (by rintro _ _ ⟨b13, rfl, rfl⟩ w h; exact ((h).erase 0).erase 0) ?_ hf hs) (fun a w hf hs => HW.opp 9 rfl _ (.inl rfl) rfl (Ow.alloc (cs := [_, _, _, _]) Try.zeroValue39 rfl) (by rintro _ _ ⟨b14, rfl, rfl⟩ w h; exact ((h).erase 0).erase 0) ?_ hf hs)
            ·
              clear hf hs
              rintro _ _ ⟨b13, rfl, rfl⟩
              refine HW.run 9 rfl (by kernel_rfl) _ (.inl rfl) rfl (Ow.alloc (cs := [_, _, _, _]) Try.zeroValue39 rfl) (by rintro _ _ ⟨b14, rfl, rfl⟩ w h; exact (((h).erase 0).erase 0).erase 0) ?_
              rintro _ _ ⟨b14, rfl, rfl⟩
              refine HW.run 10 rfl (by kernel_rfl) _ (.inl rfl) rfl (Ow.storeW (vs := [_, _, _, _]) 1 Try.sizeOf39 rfl rfl (rfl) rfl (rfl)) (by rintro _ _ ⟨rfl, rfl⟩ w h; exact (((h).erase 0).erase 0).erase 0) ?_
              rintro _ _ ⟨rfl, rfl⟩
              refine HW.run 11 rfl (by kernel_rfl) _ (.inl rfl) rfl (Ow.storeW (vs := [_, _, _, _]) 0 Try.sizeOf39 rfl rfl (rfl) rfl (rfl)) (by rintro _ _ ⟨rfl, rfl⟩ w h; exact (((h).erase 0).erase 0).erase 0) ?_
              rintro _ _ ⟨rfl, rfl⟩
              refine HW.done (by kernel_rfl) ?_
              refine PW.mem _ (fun w h => h.front 3 rfl) ?_
              refine PW.mem _ (fun w h => h.front 3 rfl) ?_
              refine PW.mem _ (fun w h => h.front 2 rfl) ?_
              refine PW.mem _ (fun w h => h.front 3 rfl) ?_
              exact PW.mid (b13, b14, (Am1, cm1), (none, 0)) (trivial) ⟨rfl, rfl, rfl, rfl, rfl, rfl, trivial⟩ (fun w h => (h).erase 4)
            ·
              clear hf hs
              rintro _ _ ⟨b14, rfl, rfl⟩
              refine HW.run 8 rfl (by kernel_rfl) _ (.inl rfl) rfl (Ow.alloc (cs := [_, _, _, _]) Try.zeroValue39 rfl) (by rintro _ _ ⟨b13, rfl, rfl⟩ w h; exact (((h).erase 0).erase 0).erase 0) ?_
              rintro _ _ ⟨b13, rfl, rfl⟩
              refine HW.run 10 rfl (by kernel_rfl) _ (.inl rfl) rfl (Ow.storeW (vs := [_, _, _, _]) 0 Try.sizeOf39 rfl rfl (rfl) rfl (rfl)) (by rintro _ _ ⟨rfl, rfl⟩ w h; exact (((h).erase 0).erase 0).erase 0) ?_
              rintro _ _ ⟨rfl, rfl⟩
              refine HW.run 11 rfl (by kernel_rfl) _ (.inl rfl) rfl (Ow.storeW (vs := [_, _, _, _]) 1 Try.sizeOf39 rfl rfl (rfl) rfl (rfl)) (by rintro _ _ ⟨rfl, rfl⟩ w h; exact (((h).erase 0).erase 0).erase 0) ?_
              rintro _ _ ⟨rfl, rfl⟩
              refine HW.done (by kernel_rfl) ?_
              refine PW.mem _ (fun w h => h.front 3 rfl) ?_
              refine PW.mem _ (fun w h => h.front 3 rfl) ?_
              refine PW.mem _ (fun w h => h.front 3 rfl) ?_
              refine PW.mem _ (fun w h => h.front 3 rfl) ?_
              exact PW.mid (b13, b14, (Am1, cm1), (none, 0)) (trivial) ⟨rfl, rfl, rfl, rfl, rfl, rfl, trivial⟩ (fun w h => (h).erase 4)
          ·
            clear hf hs
            rintro _ _ ⟨b13, rfl, rfl⟩
            refine HW.run2 7 9 (by kernel_rfl) (fun a w hf hs => HW.opp 7 rfl _ (.inl rfl) rfl (Ow.call e17 rfl (C.val (fun w hs => ref16New_err n1 B d lb _ (hr2.below hs.mod.below) k2 i2 hk2 he2))) (by rintro _ _ ⟨rfl, rfl⟩ w h; exact ((h).erase 0).erase 0) ?_ hf hs) (fun a w hf hs => HW.opp 9 rfl _ (.inl rfl) rfl (Ow.alloc (cs := [_, _, _, _]) Try.zeroValue39 rfl) (by rintro _ _ ⟨b14, rfl, rfl⟩ w h; exact (((h).erase 0).erase 0).erase 0) ?_ hf hs)
            ·
              clear hf hs
              rintro _ _ ⟨rfl, rfl⟩
              refine HW.run 9 rfl (by kernel_rfl) _ (.inl rfl) rfl (Ow.alloc (cs := [_, _, _, _]) Try.zeroValue39 rfl) (by rintro _ _ ⟨b14, rfl, rfl⟩ w h; exact (((h).erase 0).erase 0).erase 0) ?_
              rintro _ _ ⟨b14, rfl, rfl⟩
              refine HW.run 10 rfl (by kernel_rfl) _ (.inl rfl) rfl (Ow.storeW (vs := [_, _, _, _]) 1 Try.sizeOf39 rfl rfl (rfl) rfl (rfl)) (by rintro _ _ ⟨rfl, rfl⟩ w h; exact (((h).erase 0).erase 0).erase 0) ?_
              rintro _ _ ⟨rfl, rfl⟩
              refine HW.run 11 rfl (by kernel_rfl) _ (.inl rfl) rfl (Ow.storeW (vs := [_, _, _, _]) 0 Try.sizeOf39 rfl rfl (rfl) rfl (rfl)) (by rintro _ _ ⟨rfl, rfl⟩ w h; exact (((h).erase 0).erase 0).erase 0) ?_
              rintro _ _ ⟨rfl, rfl⟩
              refine HW.done (by kernel_rfl) ?_
              refine PW.mem _ (fun w h => h.front 3 rfl) ?_
              refine PW.mem _ (fun w h => h.front 3 rfl) ?_
              refine PW.mem _ (fun w h => h.front 2 rfl) ?_
              refine PW.mem _ (fun w h => h.front 3 rfl) ?_
              exact PW.mid (b13, b14, (Am1, cm1), (none, 0)) (trivial) ⟨rfl, rfl, rfl, rfl, rfl, rfl, trivial⟩ (fun w h => (h).erase 4)
            ·
              clear hf hs
              rintro _ _ ⟨b14, rfl, rfl⟩
              refine HW.run 7 rfl (by kernel_rfl) _ (.inl rfl) rfl (Ow.call e17 rfl (C.val (fun w hs => ref16New_err n1 B d lb _ (hr2.below hs.mod.below) k2 i2 hk2 he2))) (by rintro _ _ ⟨rfl, rfl⟩ w h; exact (((h).erase 0).erase 0).erase 0) ?_
              rintro _ _ ⟨rfl, rfl⟩
              refine HW.run 10 rfl (by kernel_rfl) _ (.inl rfl) rfl (Ow.storeW (vs := [_, _, _, _]) 1 Try.sizeOf39 rfl rfl (rfl) rfl (rfl)) (by rintro _ _ ⟨rfl, rfl⟩ w h; exact (((h).erase 0).erase 0).erase 0) ?_
              rintro _ _ ⟨rfl, rfl⟩
              refine HW.run 11 rfl (by kernel_rfl) _ (.inl rfl) rfl (Ow.storeW (vs := [_, _, _, _]) 0 Try.sizeOf39 rfl rfl (rfl) rfl (rfl)) (by rintro _ _ ⟨rfl, rfl⟩ w h; exact (((h).erase 0).erase 0).erase 0) ?_
              rintro _ _ ⟨rfl, rfl⟩
              refine HW.done (by kernel_rfl) ?_
              refine PW.mem _ (fun w h => h.front 3 rfl) ?_
              refine PW.mem _ (fun w h => h.front 3 rfl) ?_
              refine PW.mem _ (fun w h => h.front 2 rfl) ?_
              refine PW.mem _ (fun w h => h.front 3 rfl) ?_
              exact PW.mid (b13, b14, (Am1, cm1), (none, 0)) (trivial) ⟨rfl, rfl, rfl, rfl, rfl, rfl, trivial⟩ (fun w h => (h).erase 4)
          ·
            clear hf hs
            rintro _ _ ⟨b14, rfl, rfl⟩
            refine HW.run2 7 8 (by kernel_rfl) (fun a w hf hs => HW.opp 7 rfl _ (.inl rfl) rfl (Ow.call e17 rfl (C.val (fun w hs => ref16New_err n1 B d lb _ (hr2.below hs.mod.below) k2 i2 hk2 he2))) (by rintro _ _ ⟨rfl, rfl⟩ w h; exact ((h).erase 0).erase 0) ?_ hf hs) (fun a w hf hs => HW.opp 8 rfl _ (.inl rfl) rfl (Ow.alloc (cs := [_, _, _, _]) Try.zeroValue39 rfl) (by rintro _ _ ⟨b13, rfl, rfl⟩ w h; exact (((h).erase 0).erase 0).erase 0) ?_ hf hs)
            ·
              clear hf hs
              rintro _ _ ⟨rfl, rfl⟩
              refine HW.run 8 rfl (by kernel_rfl) _ (.inl rfl) rfl (Ow.alloc (cs := [_, _, _, _]) Try.zeroValue39 rfl) (by rintro _ _ ⟨b13, rfl, rfl⟩ w h; exact (((h).erase 0).erase 0).erase 0) ?_
              rintro _ _ ⟨b13, rfl, rfl⟩
              refine HW.run 10 rfl (by kernel_rfl) _ (.inl rfl) rfl (Ow.storeW (vs := [_, _, _, _]) 0 Try.sizeOf39 rfl rfl (rfl) rfl (rfl)) (by rintro _ _ ⟨rfl, rfl⟩ w h; exact (((h).erase 0).erase 0).erase 0) ?_
              rintro _ _ ⟨rfl, rfl⟩
              refine HW.run 11 rfl (by kernel_rfl) _ (.inl rfl) rfl (Ow.storeW (vs := [_, _, _, _]) 1 Try.sizeOf39 rfl rfl (rfl) rfl (rfl)) (by rintro _ _ ⟨rfl, rfl⟩ w h; exact (((h).erase 0).erase 0).erase 0) ?_
              rintro _ _ ⟨rfl, rfl⟩
              refine HW.done (by kernel_rfl) ?_
              refine PW.mem _ (fun w h => h.front 3 rfl) ?_
              refine PW.mem _ (fun w h => h.front 3 rfl) ?_
              refine PW.mem _ (fun w h => h.front 3 rfl) ?_
              refine PW.mem _ (fun w h => h.front 3 rfl) ?_
              exact PW.mid (b13, b14, (Am1, cm1), (none, 0)) (trivial) ⟨rfl, rfl, rfl, rfl, rfl, rfl, trivial⟩ (fun w h => (h).erase 4)
            ·
              clear hf hs
              rintro _ _ ⟨b13, rfl, rfl⟩
              refine HW.run 7 rfl (by kernel_rfl) _ (.inl rfl) rfl (Ow.call e17 rfl (C.val (fun w hs => ref16New_err n1 B d lb _ (hr2.below hs.mod.below) k2 i2 hk2 he2))) (by rintro _ _ ⟨rfl, rfl⟩ w h; exact (((h).erase 0).erase 0).erase 0) ?_
              rintro _ _ ⟨rfl, rfl⟩
              refine HW.run 10 rfl (by kernel_rfl) _ (.inl rfl) rfl (Ow.storeW (vs := [_, _, _, _]) 0 Try.sizeOf39 rfl rfl (rfl) rfl (rfl)) (by rintro _ _ ⟨rfl, rfl⟩ w h; exact (((h).erase 0).erase 0).erase 0) ?_
              rintro _ _ ⟨rfl, rfl⟩
              refine HW.run 11 rfl (by kernel_rfl) _ (.inl rfl) rfl (Ow.storeW (vs := [_, _, _, _]) 1 Try.sizeOf39 rfl rfl (rfl) rfl (rfl)) (by rintro _ _ ⟨rfl, rfl⟩ w h; exact (((h).erase 0).erase 0).erase 0) ?_
              rintro _ _ ⟨rfl, rfl⟩
              refine HW.done (by kernel_rfl) ?_
              refine PW.mem _ (fun w h => h.front 3 rfl) ?_
              refine PW.mem _ (fun w h => h.front 3 rfl) ?_
              refine PW.mem _ (fun w h => h.front 3 rfl) ?_
              refine PW.mem _ (fun w h => h.front 3 rfl) ?_
              exact PW.mid (b13, b14, (Am1, cm1), (none, 0)) (trivial) ⟨rfl, rfl, rfl, rfl, rfl, rfl, trivial⟩ (fun w h => (h).erase 4)
        ·
          clear hf hs
          rintro _ _ ⟨b13, rfl, rfl⟩
          refine HW.run2 3 9 (by kernel_rfl) (fun a w hf hs => HW.opp 3 rfl _ (.inl rfl) rfl (Ow.call e17 rfl (C.new (val := fun (p : Option Addr × Nat) => .agg #[.int .i64 n0, .slice p.1 (mergeL la).length p.2, .int .i64 0, .int .i64 0]) (φ := fun _ => True) (Ψ := fun p => row (.slice p.1 (mergeL la).length p.2) 48 3 (mergeL la).length (cellsE (mergeL la))) (fun w2 hs => (ref16New_ok n0 A c la w2 (hr1.below hs.mod.below) hok1).mono (fun en w3 ⟨p, he, hb, F, hF, hk⟩ => ⟨p, trivial, he, hb, F, hF, hk⟩)))) (by rintro _ _ ⟨⟨Am1, cm1⟩, -, rfl, rfl⟩ w h; exact ((h).erase 0).erase 0) ?_ hf hs) (fun a w hf hs => HW.opp 9 rfl _ (.inl rfl) rfl (Ow.alloc (cs := [_, _, _, _]) Try.zeroValue39 rfl) (by rintro _ _ ⟨b14, rfl, rfl⟩ w h; exact ((h).erase 0).erase 0) ?_ hf hs)
          ·
            clear hf hs
            rintro _ _ ⟨⟨Am1, cm1⟩, -, rfl, rfl⟩
            refine HW.run2 7 9 (by kernel_rfl) (fun a w hf hs => HW.opp 7 rfl _ (.inl rfl) rfl (Ow.call e17 rfl (C.val (fun w hs => ref16New_err n1 B d lb _ (hr2.below hs.mod.below) k2 i2 hk2 he2))) (by rintro _ _ ⟨rfl, rfl⟩ w h; exact ((h).erase 0).erase 0) ?_ hf hs) (fun a w hf hs => HW.opp 9 rfl _ (.inl rfl) rfl (Ow.alloc (cs := [_, _, _, _]) Try.zeroValue39 rfl) (by rintro _ _ ⟨b14, rfl, rfl⟩ w h; exact (((h).erase 0).erase 0).erase 0) ?_ hf hs)
            ·
              clear hf hs
              rintro _ _ ⟨rfl, rfl⟩
              refine HW.run 9 rfl (by kernel_rfl) _ (.inl rfl) rfl (Ow.alloc (cs := [_, _, _, _]) Try.zeroValue39 rfl) (by rintro _ _ ⟨b14, rfl, rfl⟩ w h; exact (((h).erase 0).erase 0).erase 0) ?_
              rintro _ _ ⟨b14, rfl, rfl⟩
              refine HW.run 10 rfl (by kernel_rfl) _ (.inl rfl) rfl (Ow.storeW (vs := [_, _, _, _]) 2 Try.sizeOf39 rfl rfl (rfl) rfl (rfl)) (by rintro _ _ ⟨rfl, rfl⟩ w h; exact (((h).erase 0).erase 0).erase 0) ?_
              rintro _ _ ⟨rfl, rfl⟩
              refine HW.run 11 rfl (by kernel_rfl) _ (.inl rfl) rfl (Ow.storeW (vs := [_, _, _, _]) 0 Try.sizeOf39 rfl rfl (rfl) rfl (rfl)) (by rintro _ _ ⟨rfl, rfl⟩ w h; exact (((h).erase 0).erase 0).erase 0) ?_
              rintro _ _ ⟨rfl, rfl⟩
              refine HW.done (by kernel_rfl) ?_
              refine PW.mem _ (fun w h => h.front 3 rfl) ?_
              refine PW.mem _ (fun w h => h.front 2 rfl) ?_
              refine PW.mem _ (fun w h => h.front 2 rfl) ?_
              refine PW.mem _ (fun w h => h.front 3 rfl) ?_
              exact PW.mid (b13, b14, (Am1, cm1), (none, 0)) (trivial) ⟨rfl, rfl, rfl, rfl, rfl, rfl, trivial⟩ (fun w h => (h).erase 4)
            ·
              clear hf hs
              rintro _ _ ⟨b14, rfl, rfl⟩
              refine HW.run 7 rfl (by kernel_rfl) _ (.inl rfl) rfl (Ow.call e17 rfl (C.val (fun w hs => ref16New_err n1 B d lb _ (hr2.below hs.mod.below) k2 i2 hk2 he2))) (by rintro _ _ ⟨rfl, rfl⟩ w h; exact (((h).erase 0).erase 0).erase 0) ?_
              rintro _ _ ⟨rfl, rfl⟩
              refine HW.run 10 rfl (by kernel_rfl) _ (.inl rfl) rfl (Ow.storeW (vs := [_, _, _, _]) 2 Try.sizeOf39 rfl rfl (rfl) rfl (rfl)) (by rintro _ _ ⟨rfl, rfl⟩ w h; exact (((h).erase 0).erase 0).erase 0) ?_
              rintro _ _ ⟨rfl, rfl⟩
              refine HW.run 11 rfl (by kernel_rfl) _ (.inl rfl) rfl (Ow.storeW (vs := [_, _, _, _]) 0 Try.sizeOf39 rfl rfl (rfl) rfl (rfl)) (by rintro _ _ ⟨rfl, rfl⟩ w h; exact (((h).erase 0).erase 0).erase 0) ?_
              rintro _ _ ⟨rfl, rfl⟩
              refine HW.done (by kernel_rfl) ?_
              refine PW.mem _ (fun w h => h.front 3 rfl) ?_
              refine PW.mem _ (fun w h => h.front 2 rfl) ?_
              refine PW.mem _ (fun w h => h.front 2 rfl) ?_
              refine PW.mem _ (fun w h => h.front 3 rfl) ?_
              exact PW.mid (b13, b14, (Am1, cm1), (none, 0)) (trivial) ⟨rfl, rfl, rfl, rfl, rfl, rfl, trivial⟩ (fun w h => (h).erase 4)
          ·
            clear hf hs
            rintro _ _ ⟨b14, rfl, rfl⟩
            refine HW.run 3 rfl (by kernel_rfl) _ (.inl rfl) rfl (Ow.call e17 rfl (C.new (val := fun (p : Option Addr × Nat) => .agg #[.int .i64 n0, .slice p.1 (mergeL la).length p.2, .int .i64 0, .int .i64 0]) (φ := fun _ => True) (Ψ := fun p => row (.slice p.1 (mergeL la).length p.2) 48 3 (mergeL la).length (cellsE (mergeL la))) (fun w2 hs => (ref16New_ok n0 A c la w2 (hr1.below hs.mod.below) hok1).mono (fun en w3 ⟨p, he, hb, F, hF, hk⟩ => ⟨p, trivial, he, hb, F, hF, hk⟩)))) (by rintro _ _ ⟨⟨Am1, cm1⟩, -, rfl, rfl⟩ w h; exact (((h).erase 0).erase 0).erase 0) ?_
            rintro _ _ ⟨⟨Am1, cm1⟩, -, rfl, rfl⟩
            refine HW.run 7 rfl (by kernel_rfl) _ (.inl rfl) rfl (Ow.call e17 rfl (C.val (fun w hs => ref16New_err n1 B d lb _ (hr2.below hs.mod.below) k2 i2 hk2 he2))) (by rintro _ _ ⟨rfl, rfl⟩ w h; exact (((h).erase 0).erase 0).erase 0) ?_
            rintro _ _ ⟨rfl, rfl⟩
            refine HW.run 10 rfl (by kernel_rfl) _ (.inl rfl) rfl (Ow.storeW (vs := [_, _, _, _]) 2 Try.sizeOf39 rfl rfl (rfl) rfl (rfl)) (by rintro _ _ ⟨rfl, rfl⟩ w h; exact (((h).erase 0).erase 0).erase 0) ?_
            rintro _ _ ⟨rfl, rfl⟩
            refine HW.run 11 rfl (by kernel_rfl) _ (.inl rfl) rfl (Ow.storeW (vs := [_, _, _, _]) 1 Try.sizeOf39 rfl rfl (rfl) rfl (rfl)) (by rintro _ _ ⟨rfl, rfl⟩ w h; exact (((h).erase 0).erase 0).erase 0) ?_
            rintro _ _ ⟨rfl, rfl⟩
            refine HW.done (by kernel_rfl) ?_
            refine PW.mem _ (fun w h => h.front 3 rfl) ?_
            refine PW.mem _ (fun w h => h.front 1 rfl) ?_
            refine PW.mem _ (fun w h => h.front 2 rfl) ?_
            refine PW.mem _ (fun w h => h.front 3 rfl) ?_
            exact PW.mid (b13, b14, (Am1, cm1), (none, 0)) (trivial) ⟨rfl, rfl, rfl, rfl, rfl, rfl, trivial⟩ (fun w h => (h).erase 4)
        ·
          clear hf hs
          rintro _ _ ⟨b14, rfl, rfl⟩
          refine HW.run2 3 8 (by kernel_rfl) (fun a w hf hs => HW.opp 3 rfl _ (.inl rfl) rfl (Ow.call e17 rfl (C.new (val := fun (p : Option Addr × Nat) => .agg #[.int .i64 n0, .slice p.1 (mergeL la).length p.2, .int .i64 0, .int .i64 0]) (φ := fun _ => True) (Ψ := fun p => row (.slice p.1 (mergeL la).length p.2) 48 3 (mergeL la).length (cellsE (mergeL la))) (fun w2 hs => (ref16New_ok n0 A c la w2 (hr1.below hs.mod.below) hok1).mono (fun en w3 ⟨p, he, hb, F, hF, hk⟩ => ⟨p, trivial, he, hb, F, hF, hk⟩)))) (by rintro _ _ ⟨⟨Am1, cm1⟩, -, rfl, rfl⟩ w h; exact ((h).erase 0).erase 0) ?_ hf hs) (fun a w hf hs => HW.opp 8 rfl _ (.inl rfl) rfl (Ow.alloc (cs := [_, _, _, _]) Try.zeroValue39 rfl) (by rintro _ _ ⟨b13, rfl, rfl⟩ w h; exact ((h).erase 0).erase 0) ?_ hf hs)
          ·
            clear hf hs
            rintro _ _ ⟨⟨Am1, cm1⟩, -, rfl, rfl⟩
            refine HW.run2 7 8 (by kernel_rfl) (fun a w hf hs => HW.opp 7 rfl _ (.inl rfl) rfl (Ow.call e17 rfl (C.val (fun w hs => ref16New_err n1 B d lb _ (hr2.below hs.mod.below) k2 i2 hk2 he2))) (by rintro _ _ ⟨rfl, rfl⟩ w h; exact ((h).erase 0).erase 0) ?_ hf hs) (fun a w hf hs => HW.opp 8 rfl _ (.inl rfl) rfl (Ow.alloc (cs := [_, _, _, _]) Try.zeroValue39 rfl) (by rintro _ _ ⟨b13, rfl, rfl⟩ w h; exact (((h).erase 0).erase 0).erase 0) ?_ hf hs)
            ·
              clear hf hs
              rintro _ _ ⟨rfl, rfl⟩
              refine HW.run 8 rfl (by kernel_rfl) _ (.inl rfl) rfl (Ow.alloc (cs := [_, _, _, _]) Try.zeroValue39 rfl) (by rintro _ _ ⟨b13, rfl, rfl⟩ w h; exact (((h).erase 0).erase 0).erase 0) ?_
              rintro _ _ ⟨b13, rfl, rfl⟩
              refine HW.run 10 rfl (by kernel_rfl) _ (.inl rfl) rfl (Ow.storeW (vs := [_, _, _, _]) 0 Try.sizeOf39 rfl rfl (rfl) rfl (rfl)) (by rintro _ _ ⟨rfl, rfl⟩ w h; exact (((h).erase 0).erase 0).erase 0) ?_
              rintro _ _ ⟨rfl, rfl⟩
              refine HW.run 11 rfl (by kernel_rfl) _ (.inl rfl) rfl (Ow.storeW (vs := [_, _, _, _]) 2 Try.sizeOf39 rfl rfl (rfl) rfl (rfl)) (by rintro _ _ ⟨rfl, rfl⟩ w h; exact (((h).erase 0).erase 0).erase 0) ?_
              rintro _ _ ⟨rfl, rfl⟩
              refine HW.done (by kernel_rfl) ?_
              refine PW.mem _ (fun w h => h.front 3 rfl) ?_
              refine PW.mem _ (fun w h => h.front 2 rfl) ?_
              refine PW.mem _ (fun w h => h.front 3 rfl) ?_
              refine PW.mem _ (fun w h => h.front 3 rfl) ?_
              exact PW.mid (b13, b14, (Am1, cm1), (none, 0)) (trivial) ⟨rfl, rfl, rfl, rfl, rfl, rfl, trivial⟩ (fun w h => (h).erase 4)
            ·
              clear hf hs
              rintro _ _ ⟨b13, rfl, rfl⟩
              refine HW.run 7 rfl (by kernel_rfl) _ (.inl rfl) rfl (Ow.call e17 rfl (C.val (fun w hs => ref16New_err n1 B d lb _ (hr2.below hs.mod.below) k2 i2 hk2 he2))) (by rintro _ _ ⟨rfl, rfl⟩ w h; exact (((h).erase 0).erase 0).erase 0) ?_
              rintro _ _ ⟨rfl, rfl⟩
              refine HW.run 10 rfl (by kernel_rfl) _ (.inl rfl) rfl (Ow.storeW (vs := [_, _, _, _]) 0 Try.sizeOf39 rfl rfl (rfl) rfl (rfl)) (by rintro _ _ ⟨rfl, rfl⟩ w h; exact (((h).erase 0).erase 0).erase 0) ?_
              rintro _ _ ⟨rfl, rfl⟩
              refine HW.run 11 rfl (by kernel_rfl) _ (.inl rfl) rfl (Ow.storeW (vs := [_, _, _, _]) 2 Try.sizeOf39 rfl rfl (rfl) rfl (rfl)) (by rintro _ _ ⟨rfl, rfl⟩ w h; exact (((h).erase 0).erase 0).erase 0) ?_
              rintro _ _ ⟨rfl, rfl⟩
              refine HW.done (by kernel_rfl) ?_
              refine PW.mem _ (fun w h => h.front 3 rfl) ?_
              refine PW.mem _ (fun w h => h.front 2 rfl) ?_
              refine PW.mem _ (fun w h => h.front 3 rfl) ?_
              refine PW.mem _ (fun w h => h.front 3 rfl) ?_
              exact PW.mid (b13, b14, (Am1, cm1), (none, 0)) (trivial) ⟨rfl, rfl, rfl, rfl, rfl, rfl, trivial⟩ (fun w h => (h).erase 4)
          ·
            clear hf hs
            rintro _ _ ⟨b13, rfl, rfl⟩
            refine HW.run 3 rfl (by kernel_rfl) _ (.inl rfl) rfl (Ow.call e17 rfl (C.new (val := fun (p : Option Addr × Nat) => .agg #[.int .i64 n0, .slice p.1 (mergeL la).length p.2, .int .i64 0, .int .i64 0]) (φ := fun _ => True) (Ψ := fun p => row (.slice p.1 (mergeL la).length p.2) 48 3 (mergeL la).length (cellsE (mergeL la))) (fun w2 hs => (ref16New_ok n0 A c la w2 (hr1.below hs.mod.below) hok1).mono (fun en w3 ⟨p, he, hb, F, hF, hk⟩ => ⟨p, trivial, he, hb, F, hF, hk⟩)))) (by rintro _ _ ⟨⟨Am1, cm1⟩, -, rfl, rfl⟩ w h; exact (((h).erase 0).erase 0).erase 0) ?_
            rintro _ _ ⟨⟨Am1, cm1⟩, -, rfl, rfl⟩
            refine HW.run 7 rfl (by kernel_rfl) _ (.inl rfl) rfl (Ow.call e17 rfl (C.val (fun w hs => ref16New_err n1 B d lb _ (hr2.below hs.mod.below) k2 i2 hk2 he2))) (by rintro _ _ ⟨rfl, rfl⟩ w h; exact (((h).erase 0).erase 0).erase 0) ?_
            rintro _ _ ⟨rfl, rfl⟩
            refine HW.run 10 rfl (by kernel_rfl) _ (.inl rfl) rfl (Ow.storeW (vs := [_, _, _, _]) 1 Try.sizeOf39 rfl rfl (rfl) rfl (rfl)) (by rintro _ _ ⟨rfl, rfl⟩ w h; exact (((h).erase 0).erase 0).erase 0) ?_
            rintro _ _ ⟨rfl, rfl⟩
            refine HW.run 11 rfl (by kernel_rfl) _ (.inl rfl) rfl (Ow.storeW (vs := [_, _, _, _]) 2 Try.sizeOf39 rfl rfl (rfl) rfl (rfl)) (by rintro _ _ ⟨rfl, rfl⟩ w h; exact (((h).erase 0).erase 0).erase 0) ?_
            rintro _ _ ⟨rfl, rfl⟩
            refine HW.done (by kernel_rfl) ?_
            refine PW.mem _ (fun w h => h.front 3 rfl) ?_
            refine PW.mem _ (fun w h => h.front 1 rfl) ?_
            refine PW.mem _ (fun w h => h.front 3 rfl) ?_
            refine PW.mem _ (fun w h => h.front 3 rfl) ?_
            exact PW.mid (b13, b14, (Am1, cm1), (none, 0)) (trivial) ⟨rfl, rfl, rfl, rfl, rfl, rfl, trivial⟩ (fun w h => (h).erase 4)
      · intro ⟨b13, b14, ⟨Am1, cm1⟩, ⟨Am2, cm2⟩⟩ _
        (try dsimp only)
        refine CW.seq ?_
        refine CW.region ?_
        refine RW.y (.inl rfl) rfl (Yv.assign rfl) ?_
        refine RW.nil ?_
        refine PW.go ?_
        refine CW.seq ?_
        refine CW.region ?_
        refine RW.y (.inl rfl) rfl (Yv.move rfl) ?_
        refine RW.o _ (.inl rfl) rfl (Ow.call e29 rfl (C.val (fun w hs => netEdge_nil 0 _))) ?_
        rintro _ _ ⟨rfl, rfl⟩
        refine RW.y (.inl rfl) rfl (Yv.move rfl) ?_
        refine RW.y (.inl rfl) rfl (Yv.extract rfl rfl) ?_
        refine RW.y (.inl rfl) rfl (Yv.extract rfl rfl) ?_
        refine RW.o _ (.inl rfl) rfl (Ow.alloc (cs := [_, _, _]) Try.zeroValue48 rfl) ?_
        rintro _ _ ⟨b16, rfl, rfl⟩
        refine RW.o _ (.inl rfl) rfl (Ow.storeW (vs := [_, _, _]) 0 Try.sizeOf48 rfl rfl (rfl) rfl (rfl)) ?_
        rintro _ _ ⟨rfl, rfl⟩
        refine RW.y (.inl rfl) rfl (Yv.assign rfl) ?_
        refine RW.nil ?_
        refine PW.go ?_
        refine CW.seq ?_
        refine CW.seq ?_
        refine CW.region ?_
        refine RW.y (.inl rfl) rfl (Yv.move rfl) ?_
        refine RW.o _ (.inl rfl) rfl (Ow.call e30 rfl (C.val (fun w hs => netN_nil _))) ?_
        rintro _ _ ⟨rfl, rfl⟩
        refine RW.y (.inl rfl) rfl (Yv.ne rfl rfl) ?_
        refine RW.y (.inl rfl) rfl (Yv.move rfl) ?_
        refine RW.isF 60 rfl (by simp) ?_
        refine RW.y (.inr ⟨_, _, 60, rfl, rfl, rfl⟩) rfl (Yv.move rfl) ?_
        refine RW.o _ (.inr ⟨_, _, 60, rfl, rfl, rfl⟩) rfl (Ow.call e27 rfl (C.val (fun w hs => netM_nil _))) ?_
        rintro _ _ ⟨rfl, rfl⟩
        refine RW.y (.inr ⟨_, _, 60, rfl, rfl, rfl⟩) rfl (Yv.ne rfl rfl) ?_
        refine RW.y (.inl rfl) rfl (Yv.pickF rfl rfl) ?_
        refine RW.y (.inl rfl) rfl (Yv.move rfl) ?_
        refine RW.isF 65 rfl (by simp) ?_
        refine RW.y (.inr ⟨_, _, 65, rfl, rfl, rfl⟩) rfl (Yv.move rfl) ?_
        refine RW.o _ (.inr ⟨_, _, 65, rfl, rfl, rfl⟩) rfl (Ow.call e31 rfl (C.val (fun w hs => netEdges_nil _))) ?_
        rintro _ _ ⟨rfl, rfl⟩
        refine RW.y (.inr ⟨_, _, 65, rfl, rfl, rfl⟩) rfl (Yv.len Try.underlying22 rfl) ?_
        refine RW.y (.inr ⟨_, _, 65, rfl, rfl, rfl⟩) rfl (Yv.ne rfl rfl) ?_
        refine RW.y (.inl rfl) rfl (Yv.pickF rfl rfl) ?_
        refine RW.y (.inl rfl) rfl (Yv.move rfl) ?_
        refine RW.isF 71 rfl (by simp) ?_
        refine RW.y (.inr ⟨_, _, 71, rfl, rfl, rfl⟩) rfl (Yv.move rfl) ?_
        refine RW.y (.inl rfl) rfl (Yv.pickF rfl rfl) ?_
        refine RW.y (.inl rfl) rfl (Yv.move rfl) ?_
        refine RW.isB (c := false) 74 rfl (rfl) ?_
        refine RW.y (.inr ⟨_, _, 74, rfl, rfl, rfl⟩) rfl (Yv.move rfl) ?_
        refine RW.o _ (.inr ⟨_, _, 74, rfl, rfl, rfl⟩) rfl (Ow.call e32 rfl (C.val (fun w hs => netWeight_nil 0 1 _))) ?_
        rintro _ _ ⟨rfl, rfl⟩
        refine RW.y (.inr ⟨_, _, 74, rfl, rfl, rfl⟩) rfl (Yv.ne rfl rfl) ?_
        refine RW.y (.inl rfl) rfl (Yv.pickF rfl rfl) ?_
        refine RW.y (.inl rfl) rfl (Yv.move rfl) ?_
        refine RW.isF 79 rfl (by simp) ?_
        refine RW.y (.inr ⟨_, _, 79, rfl, rfl, rfl⟩) rfl (Yv.move rfl) ?_
        refine RW.o _ (.inr ⟨_, _, 79, rfl, rfl, rfl⟩) rfl (Ow.call e33 rfl (C.val (fun w hs => netDegree_nil 0 _))) ?_
        rintro _ _ ⟨rfl, rfl⟩
        refine RW.y (.inr ⟨_, _, 79, rfl, rfl, rfl⟩) rfl (Yv.ne rfl rfl) ?_
        refine RW.y (.inl rfl) rfl (Yv.pickF rfl rfl) ?_
        refine RW.y (.inl rfl) rfl (Yv.move rfl) ?_
        refine RW.isF 84 rfl (by simp) ?_
        refine RW.y (.inr ⟨_, _, 84, rfl, rfl, rfl⟩) rfl (Yv.move rfl) ?_
        refine RW.o _ (.inr ⟨_, _, 84, rfl, rfl, rfl⟩) rfl (Ow.call e34 rfl (C.val (fun w hs => netNear_nil 0 _))) ?_
        rintro _ _ ⟨rfl, rfl⟩
        refine RW.y (.inr ⟨_, _, 84, rfl, rfl, rfl⟩) rfl (Yv.len Try.underlying32 rfl) ?_
        refine RW.y (.inr ⟨_, _, 84, rfl, rfl, rfl⟩) rfl (Yv.ne rfl rfl) ?_
        refine RW.y (.inl rfl) rfl (Yv.pickF rfl rfl) ?_
        refine RW.y (.inl rfl) rfl (Yv.move rfl) ?_
        refine RW.isF 90 rfl (by simp) ?_
        refine RW.y (.inr ⟨_, _, 90, rfl, rfl, rfl⟩) rfl (Yv.move rfl) ?_
        refine RW.o _ (.inr ⟨_, _, 90, rfl, rfl, rfl⟩) rfl (Ow.call e35 rfl (C.val (fun w hs => netTotal_nil _))) ?_
        rintro _ _ ⟨rfl, rfl⟩
        refine RW.y (.inr ⟨_, _, 90, rfl, rfl, rfl⟩) rfl (Yv.ne rfl rfl) ?_
        refine RW.y (.inl rfl) rfl (Yv.pickF rfl rfl) ?_
        refine RW.y (.inl rfl) rfl (Yv.move rfl) ?_
        refine RW.isF 95 rfl (by simp) ?_
        refine RW.y (.inr ⟨_, _, 95, rfl, rfl, rfl⟩) rfl (Yv.move rfl) ?_
        refine RW.o _ (.inr ⟨_, _, 95, rfl, rfl, rfl⟩) rfl (Ow.call e36 rfl (C.val (fun w hs => netSame_nil _))) ?_
        rintro _ _ ⟨rfl, rfl⟩
        refine RW.y (.inr ⟨_, _, 95, rfl, rfl, rfl⟩) rfl (Yv.not rfl) ?_
        refine RW.y (.inl rfl) rfl (Yv.pickF rfl rfl) ?_
        refine RW.nil ?_
        refine PW.go ?_
        refine CW.cond rfl (fun hc99 => ?_) (fun hc99 => ?_)
        ·
          cases hc99
        ·
          refine CW.skip ?_
          refine PW.go ?_
          refine CW.seq ?_
          refine CW.seq ?_
          refine CW.region ?_
          refine RW.y (.inl rfl) rfl (Yv.move rfl) ?_
          refine RW.y (.inl rfl) rfl (Yv.ne rfl rfl) ?_
          refine RW.y (.inl rfl) rfl (Yv.move rfl) ?_
          refine RW.isF 102 rfl (by simp) ?_
          refine RW.y (.inr ⟨_, _, 102, rfl, rfl, rfl⟩) rfl (Yv.move rfl) ?_
          refine RW.y (.inr ⟨_, _, 102, rfl, rfl, rfl⟩) rfl (Yv.ne rfl rfl) ?_
          refine RW.y (.inl rfl) rfl (Yv.pickF rfl rfl) ?_
          refine RW.nil ?_
          refine PW.go ?_
          refine CW.condD rfl (fun hc105 => ?_) (fun hc105 => ?_)
          ·
            refine CW.seq ?_
            refine CW.region ?_
            refine RW.y (.inl rfl) rfl (Yv.move rfl) ?_
            refine RW.y (.inl rfl) rfl (Yv.move rfl) ?_
            refine RW.o _ (.inl rfl) rfl (Ow.call e36 rfl (C.val (fun w hs => netSame_right ⟨bg1, 0, none⟩ _))) ?_
            rintro _ _ ⟨rfl, rfl⟩
            refine RW.y (.inl rfl) rfl (Yv.move rfl) ?_
            refine RW.y (.inl rfl) rfl (Yv.ne rfl rfl) ?_
            refine RW.y (.inl rfl) rfl (Yv.move rfl) ?_
            refine RW.isF 111 rfl (by simp) ?_
            refine RW.no ⟨_, _, 111, _, rfl, rfl, rfl, fun h => by simp [undef] at h⟩ rfl ?_
            refine RW.no ⟨_, _, 111, _, rfl, rfl, rfl, fun h => by simp [undef] at h⟩ rfl ?_
            refine RW.y (.inl rfl) rfl (Yv.pickF rfl rfl) ?_
            refine RW.y (.inl rfl) rfl (Yv.boolEq Try.underlying4 rfl rfl) ?_
            refine RW.y (.inl rfl) rfl (Yv.move rfl) ?_
            refine RW.isB (c := true) 116 rfl (rfl) ?_
            refine RW.o _ (.inr ⟨_, _, 116, rfl, rfl, rfl⟩) rfl (Ow.call e28 rfl (C.val (fun w hs => awake16 _))) ?_
            rintro _ _ ⟨rfl, rfl⟩
            refine RW.y (.inl rfl) rfl (Yv.pickT rfl rfl) ?_
            refine RW.y (.inl rfl) rfl (Yv.assign rfl) ?_
            refine RW.nil ?_
            refine PW.go ?_
            refine CW.ret ?_
            refine PW.then_ret ?_
            refine PW.ret1 Try.results5 rfl (fun w1 hs => ?_)
            exact ⟨rfl, hs.mod.below⟩
          ·
            exact absurd hk2 hc105

set_option maxRecDepth 100000 in
theorem netSameLaw_eo (n0 n1 : Int) (A B : Option Addr) (c d : Nat) (la lb : List Edg) (w : World) (hr1 : Rd w A 3 la.length (cellsE la)) (hr2 : Rd w B 3 lb.length (cellsE lb)) (k1 : Int) (i1 : Nat) (hk1 : k1 ≠ 0) (he1 : NewE n0 la k1 i1) (hok2 : NewOk n1 lb) : Calls Try.prog 5 #[.agg #[.int .i64 n0, .int .i64 n1], .slice A la.length c, .slice B lb.length d] w fun e w1 => e = .returned (.bool true) ∧ Gr w w1 := by
  have hml2 := mergeL_length lb
  have hl2 := hok2.hl
  refine CW.enter (P := Try.prog) (F0 := none0) (L := [(0, _), (1, _), (2, _)]) 148 [] Try.func5 rfl Try.ntmps5 (Nat.le_of_ble_eq_true rfl) (St.start w none0) rfl ?_
  refine CW.seq ?_
  refine CW.region ?_
  refine RW.o _ (.inl rfl) rfl (Ow.box (cs := [_, _]) rfl rfl) ?_
  rintro _ _ ⟨b3, rfl, rfl⟩
  refine RW.y (.inl rfl) rfl (Yv.assign rfl) ?_
  refine RW.nil ?_
  refine PW.go ?_
  refine CW.seq ?_
  refine CW.seq ?_
  refine CW.region ?_
  refine RW.y (.inl rfl) rfl (Yv.move rfl) ?_
  refine RW.y (.inl rfl) rfl (Yv.len Try.underlying22 rfl) ?_
  refine RW.y (.inl rfl) rfl (Yv.gt rfl rfl) ?_
  refine RW.y (.inl rfl) rfl (Yv.move rfl) ?_
  refine RW.splitD 22 rfl (fun hc22 => ?_) (fun hc22 => ?_)
  ·
    refine RW.no ⟨_, _, 22, _, rfl, rfl, rfl, fun h => by simp [undef] at h⟩ rfl ?_
    refine RW.no ⟨_, _, 22, _, rfl, rfl, rfl, fun h => by simp [undef] at h⟩ rfl ?_
    refine RW.no ⟨_, _, 22, _, rfl, rfl, rfl, fun h => by simp [undef] at h⟩ rfl ?_
    refine RW.y (.inl rfl) rfl (Yv.pickT rfl rfl) ?_
    refine RW.nil ?_
    refine PW.go ?_
    refine CW.condT rfl ?_
    refine CW.seq ?_
    refine CW.region ?_
    refine RW.o _ (.inl rfl) rfl (Ow.call e28 rfl (C.val (fun w hs => awake16 _))) ?_
    rintro _ _ ⟨rfl, rfl⟩
    refine RW.y (.inl rfl) rfl (Yv.assign rfl) ?_
    refine RW.nil ?_
    refine PW.go ?_
    refine CW.ret ?_
    refine PW.then_ret ?_
    refine PW.ret1 Try.results5 rfl (fun w1 hs => ?_)
    exact ⟨rfl, hs.mod.below⟩
  ·
    refine RW.y (.inr ⟨_, _, 22, rfl, rfl, rfl⟩) rfl (Yv.move rfl) ?_
    refine RW.y (.inr ⟨_, _, 22, rfl, rfl, rfl⟩) rfl (Yv.len Try.underlying22 rfl) ?_
    refine RW.y (.inr ⟨_, _, 22, rfl, rfl, rfl⟩) rfl (Yv.gt rfl rfl) ?_
    refine RW.y (.inl rfl) rfl (Yv.pickF rfl rfl) ?_
    refine RW.nil ?_
    refine PW.go ?_
    refine CW.condD rfl (fun hc26 => ?_) (fun hc26 => ?_)
    ·
      refine CW.seq ?_
      refine CW.region ?_
      refine RW.o _ (.inl rfl) rfl (Ow.call e28 rfl (C.val (fun w hs => awake16 _))) ?_
      rintro _ _ ⟨rfl, rfl⟩
      refine RW.y (.inl rfl) rfl (Yv.assign rfl) ?_
      refine RW.nil ?_
      refine PW.go ?_
      refine CW.ret ?_
      refine PW.then_ret ?_
      refine PW.ret1 Try.results5 rfl (fun w1 hs => ?_)
      exact ⟨rfl, hs.mod.below⟩
    ·
      refine CW.skip ?_
      refine PW.go ?_
      refine CW.seq ?_
      refine CW.region ?_
      refine RW.y (.inl rfl) rfl (Yv.indexA Try.underlying23 Try.sizeOf3 rfl rfl (by omega) (by omega)) ?_
      refine RW.y (.inl rfl) rfl (Yv.load1 Try.isAgg3 rfl (CF.blk 0 rfl rfl)) ?_
      refine RW.y (.inl rfl) rfl (Yv.move rfl) ?_
      refine RW.o _ (.inl rfl) rfl (Ow.call e9 rfl (C.val (fun w hs => netNew_err n0 A c la _ (hr1.below hs.mod.below) k1 i1 hk1 he1))) ?_
      rintro _ _ ⟨rfl, rfl⟩
      refine RW.y (.inl rfl) rfl (Yv.move rfl) ?_
      refine RW.y (.inl rfl) rfl (Yv.extract rfl rfl) ?_
      refine RW.y (.inl rfl) rfl (Yv.extract rfl rfl) ?_
      refine RW.y (.inl rfl) rfl (Yv.extract rfl rfl) ?_
      refine RW.y (.inl rfl) rfl (Yv.assign rfl) ?_
      refine RW.y (.inl rfl) rfl (Yv.assign rfl) ?_
      refine RW.y (.inl rfl) rfl (Yv.assign rfl) ?_
      refine RW.nil ?_
      refine PW.go ?_
      refine CW.seq ?_
      refine CW.region ?_
      refine RW.y (.inl rfl) rfl (Yv.indexA Try.underlying23 Try.sizeOf3 rfl rfl (by omega) (by omega)) ?_
      refine RW.y (.inl rfl) rfl (Yv.load1 Try.isAgg3 rfl (CF.blk 0 rfl rfl)) ?_
      refine RW.y (.inl rfl) rfl (Yv.move rfl) ?_
      refine RW.o _ (.inl rfl) rfl (Ow.call e9 rfl (C.new (val := fun (b : Nat) => .tuple #[.pointer (some ⟨b, 0, none⟩), .int .i64 0, .int .i64 0]) (φ := fun _ => True) (Ψ := fun b => nowA (fun w' => IsNet w' b (netOf n1 lb))) (fun w2 hs => (netNew_ok n1 B d lb w2 (hr2.below hs.mod.below) hok2).mono (fun en w3 ⟨b, ht, he, hb, F, hF, hk⟩ => ⟨b, ht, he, hb, F, hF, hk⟩)))) ?_
      rintro _ _ ⟨bg2, -, rfl, rfl⟩
      refine RW.y (.inl rfl) rfl (Yv.move rfl) ?_
      refine RW.y (.inl rfl) rfl (Yv.extract rfl rfl) ?_
      refine RW.y (.inl rfl) rfl (Yv.extract rfl rfl) ?_
      refine RW.y (.inl rfl) rfl (Yv.extract rfl rfl) ?_
      refine RW.y (.inl rfl) rfl (Yv.assign rfl) ?_
      refine RW.y (.inl rfl) rfl (Yv.assign rfl) ?_
      refine RW.y (.inl rfl) rfl (Yv.assign rfl) ?_
      refine RW.nil ?_
      refine PW.go ?_
      refine CW.cut (σ := Nat × Nat × (Option Addr × Nat) × (Option Addr × Nat)) (fun s => True) (fun s => [(7, .pointer none), (8, .int .i64 k1), (10, .pointer (some ⟨bg2, 0, none⟩)), (11, .int .i64 0), (13, .pointer (some ⟨s.1, 0, none⟩)), (14, .pointer (some ⟨s.2.1, 0, none⟩))]) (fun s => [blk s.1 [.int .i64 0, .slice none 0 0, .int .i64 k1, .int .i64 i1] 39, blk s.2.1 [.int .i64 n1, .slice s.2.2.2.1 (mergeL lb).length s.2.2.2.2, .int .i64 0, .int .i64 0] 39, row (.slice s.2.2.2.1 (mergeL lb).length s.2.2.2.2) 48 3 (mergeL lb).length (cellsE (mergeL lb)), nowA (fun w' => IsNet w' bg2 (netOf n1 lb))]) ?_ ?_
      ·
        refine CW.draw0 mixed ?_
        refine HW.take 0 rfl (by kernel_rfl) (by kernel_rfl) (by kernel_rfl) (fun _ _ _ h => h) (.inl rfl) rfl (fun _ h => h) (Yv.indexA Try.underlying23 Try.sizeOf3 rfl rfl (by omega) (by omega)) ?_
        refine HW.take 1 rfl (by kernel_rfl) (by kernel_rfl) (by kernel_rfl) (fun _ _ _ h => h) (.inl rfl) rfl (fun _ h => h) (Yv.load1 Try.isAgg3 rfl (CF.blk 1 rfl rfl)) ?_
        refine HW.take 2 rfl (by kernel_rfl) (by kernel_rfl) (by kernel_rfl) (fun _ _ _ h => h) (.inl rfl) rfl (fun _ h => h) (Yv.move rfl) ?_
        refine HW.take 4 rfl (by kernel_rfl) (by kernel_rfl) (by kernel_rfl) (fun _ _ _ h => h) (.inl rfl) rfl (fun _ h => h) (Yv.indexA Try.underlying23 Try.sizeOf3 rfl rfl (by omega) (by omega)) ?_
        refine HW.take 5 rfl (by kernel_rfl) (by kernel_rfl) (by kernel_rfl) (fun _ _ _ h => h) (.inl rfl) rfl (fun _ h => h) (Yv.load1 Try.isAgg3 rfl (CF.blk 1 rfl rfl)) ?_
        refine HW.take 6 rfl (by kernel_rfl) (by kernel_rfl) (by kernel_rfl) (fun _ _ _ h => h) (.inl rfl) rfl (fun _ h => h) (Yv.move rfl) ?_
        refine HW.run3 3 8 9 (by kernel_rfl) (fun a w hf hs => HW.opp 3 rfl _ (.inl rfl) rfl (Ow.call e17 rfl (C.val (fun w hs => ref16New_err n0 A c la _ (hr1.below hs.mod.below) k1 i1 hk1 he1))) (by rintro _ _ ⟨rfl, rfl⟩ w h; exact h) ?_ hf hs) (fun a w hf hs => HW.opp 8 rfl _ (.inl rfl) rfl (Ow.alloc (cs := [_, _, _, _]) Try.zeroValue39 rfl) (by rintro _ _ ⟨b13, rfl, rfl⟩ w h; exact (h).erase 0) ?_ hf hs) (fun a w hf hs => HW.opp 9 rfl _ (.inl rfl) rfl (Ow.alloc (cs := [_, _, _, _]) Try.zeroValue39 rfl) (by rintro _ _ ⟨b14, rfl, rfl⟩ w h; exact (h).erase 0) ?_ hf hs)
        ·
          clear hf hs
          rintro _ _ ⟨rfl, rfl⟩
          refine HW.run3 7 8 9 (by kernel_rfl) (fun a w hf hs => HW.opp 7 rfl _ (.inl rfl) rfl (Ow.call e17 rfl (C.new (val := fun (p : Option Addr × Nat) => .agg #[.int .i64 n1, .slice p.1 (mergeL lb).length p.2, .int .i64 0, .int .i64 0]) (φ := fun _ => True) (Ψ := fun p => row (.slice p.1 (mergeL lb).length p.2) 48 3 (mergeL lb).length (cellsE (mergeL lb))) (fun w2 hs => (ref16New_ok n1 B d lb w2 (hr2.below hs.mod.below) hok2).mono (fun en w3 ⟨p, he, hb, F, hF, hk⟩ => ⟨p, trivial, he, hb, F, hF, hk⟩)))) (by rintro _ _ ⟨⟨Am2, cm2⟩, -, rfl, rfl⟩ w h; exact (h).erase 0) ?_ hf hs) (fun a w hf hs => HW.opp 8 rfl _ (.inl rfl) rfl (Ow.alloc (cs := [_, _, _, _]) Try.zeroValue39 rfl) (by rintro _ _ ⟨b13, rfl, rfl⟩ w h; exact (h).erase 0) ?_ hf hs) (fun a w hf hs => HW.opp 9 rfl _ (.inl rfl) rfl (Ow.alloc (cs := [_, _, _, _]) Try.zeroValue39 rfl) (by rintro _ _ ⟨b14, rfl, rfl⟩ w h; exact (h).erase 0) ?_ hf hs)
          ·
            clear hf hs
            rintro _ _ ⟨⟨Am2, cm2⟩, -, rfl, rfl⟩
            refine HW.run2 8 9 (by kernel_rfl) (fun a w hf hs => HW.opp 8 rfl _ (.inl rfl) rfl (Ow.alloc (cs := [_, _, _, _]) Try.zeroValue39 rfl) (by rintro _ _ ⟨b13, rfl, rfl⟩ w h; exact ((h).erase 0).erase 0) ?_ hf hs) (fun a w hf hs => HW.opp 9 rfl _ (.inl rfl) rfl (Ow.alloc (cs := [_, _, _, _]) Try.zeroValue39 rfl) (by rintro _ _ ⟨b14, rfl, rfl⟩ w h; exact ((h).erase 0).erase 0) ?_ hf hs)
            ·
              clear hf hs
              rintro _ _ ⟨b13, rfl, rfl⟩
              refine HW.run 9 rfl (by kernel_rfl) _ (.inl rfl) rfl (Ow.alloc (cs := [_, _, _, _]) Try.zeroValue39 rfl) (by rintro _ _ ⟨b14, rfl, rfl⟩ w h; exact (((h).erase 0).erase 0).erase 0) ?_
              rintro _ _ ⟨b14, rfl, rfl⟩
              refine HW.run 10 rfl (by kernel_rfl) _ (.inl rfl) rfl (Ow.storeW (vs := [_, _, _, _]) 1 Try.sizeOf39 rfl rfl (rfl) rfl (rfl)) (by rintro _ _ ⟨rfl, rfl⟩ w h; exact (((h).erase 0).erase 0).erase 0) ?_
              rintro _ _ ⟨rfl, rfl⟩
              refine HW.run 11 rfl (by kernel_rfl) _ (.inl rfl) rfl (Ow.storeW (vs := [_, _, _, _]) 0 Try.sizeOf39 rfl rfl (rfl) rfl (rfl)) (by rintro _ _ ⟨rfl, rfl⟩ w h; exact (((h).erase 0).erase 0).erase 0) ?_
              rintro _ _ ⟨rfl, rfl⟩
              refine HW.done (by kernel_rfl) ?_
              refine PW.mem _ (fun w h => h.front 3 rfl) ?_
              refine PW.mem _ (fun w h => h.front 3 rfl) ?_
              refine PW.mem _ (fun w h => h.front 2 rfl) ?_
              refine PW.mem _ (fun w h => h.front 3 rfl) ?_
              exact PW.mid (b13, b14, (none, 0), (Am2, cm2)) (trivial) ⟨rfl, rfl, rfl, rfl, rfl, rfl, trivial⟩ (fun w h => (h).erase 4)
            ·
              clear hf hs
              rintro _ _ ⟨b14, rfl, rfl⟩
              refine HW.run 8 rfl (by kernel_rfl) _ (.inl rfl) rfl (Ow.alloc (cs := [_, _, _, _]) Try.zeroValue39 rfl) (by rintro _ _ ⟨b13, rfl, rfl⟩ w h; exact (((h).erase 0).erase 0).erase 0) ?_
              rintro _ _ ⟨b13, rfl, rfl⟩
              refine HW.run 10 rfl (by kernel_rfl) _ (.inl rfl) rfl (Ow.storeW (vs := [_, _, _, _]) 0 Try.sizeOf39 rfl rfl (rfl) rfl (rfl)) (by rintro _ _ ⟨rfl, rfl⟩ w h; exact (((h).erase 0).erase 0).erase 0) ?_
              rintro _ _ ⟨rfl, rfl⟩
              refine HW.run 11 rfl (by kernel_rfl) _ (.inl rfl) rfl (Ow.storeW (vs := [_, _, _, _]) 1 Try.sizeOf39 rfl rfl (rfl) rfl (rfl)) (by rintro _ _ ⟨rfl, rfl⟩ w h; exact (((h).erase 0).erase 0).erase 0) ?_
              rintro _ _ ⟨rfl, rfl⟩
              refine HW.done (by kernel_rfl) ?_
              refine PW.mem _ (fun w h => h.front 3 rfl) ?_
              refine PW.mem _ (fun w h => h.front 3 rfl) ?_
              refine PW.mem _ (fun w h => h.front 3 rfl) ?_
              refine PW.mem _ (fun w h => h.front 3 rfl) ?_
              exact PW.mid (b13, b14, (none, 0), (Am2, cm2)) (trivial) ⟨rfl, rfl, rfl, rfl, rfl, rfl, trivial⟩ (fun w h => (h).erase 4)
          ·
            clear hf hs
            rintro _ _ ⟨b13, rfl, rfl⟩
            refine HW.run2 7 9 (by kernel_rfl) (fun a w hf hs => HW.opp 7 rfl _ (.inl rfl) rfl (Ow.call e17 rfl (C.new (val := fun (p : Option Addr × Nat) => .agg #[.int .i64 n1, .slice p.1 (mergeL lb).length p.2, .int .i64 0, .int .i64 0]) (φ := fun _ => True) (Ψ := fun p => row (.slice p.1 (mergeL lb).length p.2) 48 3 (mergeL lb).length (cellsE (mergeL lb))) (fun w2 hs => (ref16New_ok n1 B d lb w2 (hr2.below hs.mod.below) hok2).mono (fun en w3 ⟨p, he, hb, F, hF, hk⟩ => ⟨p, trivial, he, hb, F, hF, hk⟩)))) (by rintro _ _ ⟨⟨Am2, cm2⟩, -, rfl, rfl⟩ w h; exact ((h).erase 0).erase 0) ?_ hf hs) (fun a w hf hs => HW.opp 9 rfl _ (.inl rfl) rfl (Ow.alloc (cs := [_, _, _, _]) Try.zeroValue39 rfl) (by rintro _ _ ⟨b14, rfl, rfl⟩ w h; exact ((h).erase 0).erase 0) ?_ hf hs)
            ·
              clear hf hs
              rintro _ _ ⟨⟨Am2, cm2⟩, -, rfl, rfl⟩
              refine HW.run 9 rfl (by kernel_rfl) _ (.inl rfl) rfl (Ow.alloc (cs := [_, _, _, _]) Try.zeroValue39 rfl) (by rintro _ _ ⟨b14, rfl, rfl⟩ w h; exact (((h).erase 0).erase 0).erase 0) ?_
              rintro _ _ ⟨b14, rfl, rfl⟩
              refine HW.run 10 rfl (by kernel_rfl) _ (.inl rfl) rfl (Ow.storeW (vs := [_, _, _, _]) 2 Try.sizeOf39 rfl rfl (rfl) rfl (rfl)) (by rintro _ _ ⟨rfl, rfl⟩ w h; exact (((h).erase 0).erase 0).erase 0) ?_
              rintro _ _ ⟨rfl, rfl⟩
              refine HW.run 11 rfl (by kernel_rfl) _ (.inl rfl) rfl (Ow.storeW (vs := [_, _, _, _]) 0 Try.sizeOf39 rfl rfl (rfl) rfl (rfl)) (by rintro _ _ ⟨rfl, rfl⟩ w h; exact (((h).erase 0).erase 0).erase 0) ?_
              rintro _ _ ⟨rfl, rfl⟩
              refine HW.done (by kernel_rfl) ?_
              refine PW.mem _ (fun w h => h.front 3 rfl) ?_
              refine PW.mem _ (fun w h => h.front 2 rfl) ?_
              refine PW.mem _ (fun w h => h.front 2 rfl) ?_
              refine PW.mem _ (fun w h => h.front 3 rfl) ?_
              exact PW.mid (b13, b14, (none, 0), (Am2, cm2)) (trivial) ⟨rfl, rfl, rfl, rfl, rfl, rfl, trivial⟩ (fun w h => (h).erase 4)
            ·
              clear hf hs
              rintro _ _ ⟨b14, rfl, rfl⟩
              refine HW.run 7 rfl (by kernel_rfl) _ (.inl rfl) rfl (Ow.call e17 rfl (C.new (val := fun (p : Option Addr × Nat) => .agg #[.int .i64 n1, .slice p.1 (mergeL lb).length p.2, .int .i64 0, .int .i64 0]) (φ := fun _ => True) (Ψ := fun p => row (.slice p.1 (mergeL lb).length p.2) 48 3 (mergeL lb).length (cellsE (mergeL lb))) (fun w2 hs => (ref16New_ok n1 B d lb w2 (hr2.below hs.mod.below) hok2).mono (fun en w3 ⟨p, he, hb, F, hF, hk⟩ => ⟨p, trivial, he, hb, F, hF, hk⟩)))) (by rintro _ _ ⟨⟨Am2, cm2⟩, -, rfl, rfl⟩ w h; exact (((h).erase 0).erase 0).erase 0) ?_
              rintro _ _ ⟨⟨Am2, cm2⟩, -, rfl, rfl⟩
              refine HW.run 10 rfl (by kernel_rfl) _ (.inl rfl) rfl (Ow.storeW (vs := [_, _, _, _]) 2 Try.sizeOf39 rfl rfl (rfl) rfl (rfl)) (by rintro _ _ ⟨rfl, rfl⟩ w h; exact (((h).erase 0).erase 0).erase 0) ?_
              rintro _ _ ⟨rfl, rfl⟩
              refine HW.run 11 rfl (by kernel_rfl) _ (.inl rfl) rfl (Ow.storeW (vs := [_, _, _, _]) 1 Try.sizeOf39 rfl rfl (rfl) rfl (rfl)) (by rintro _ _ ⟨rfl, rfl⟩ w h; exact (((h).erase 0).erase 0).erase 0) ?_
              rintro _ _ ⟨rfl, rfl⟩
              refine HW.done (by kernel_rfl) ?_
              refine PW.mem _ (fun w h => h.front 3 rfl) ?_
              refine PW.mem _ (fun w h => h.front 1 rfl) ?_
              refine PW.mem _ (fun w h => h.front 2 rfl) ?_
              refine PW.mem _ (fun w h => h.front 3 rfl) ?_
              exact PW.mid (b13, b14, (none, 0), (Am2, cm2)) (trivial) ⟨rfl, rfl, rfl, rfl, rfl, rfl, trivial⟩ (fun w h => (h).erase 4)
          ·
            clear hf hs
            rintro _ _ ⟨b14, rfl, rfl⟩
            refine HW.run2 7 8 (by kernel_rfl) (fun a w hf hs => HW.opp 7 rfl _ (.inl rfl) rfl (Ow.call e17 rfl (C.new (val := fun (p : Option Addr × Nat) => .agg #[.int .i64 n1, .slice p.1 (mergeL lb).length p.2, .int .i64 0, .int .i64 0]) (φ := fun _ => True) (Ψ := fun p => row (.slice p.1 (mergeL lb).length p.2) 48 3 (mergeL lb).length (cellsE (mergeL lb))) (fun w2 hs => (ref16New_ok n1 B d lb w2 (hr2.below hs.mod.below) hok2).mono (fun en w3 ⟨p, he, hb, F, hF, hk⟩ => ⟨p, trivial, he, hb, F, hF, hk⟩)))) (by rintro _ _ ⟨⟨Am2, cm2⟩, -, rfl, rfl⟩ w h; exact ((h).erase 0).erase 0) ?_ hf hs) (fun a w hf hs => HW.opp 8 rfl _ (.inl rfl) rfl (Ow.alloc (cs := [_, _, _, _]) Try.zeroValue39 rfl) (by rintro _ _ ⟨b13, rfl, rfl⟩ w h; exact ((h).erase 0).erase 0) ?_ hf hs)
            ·
              clear hf hs
              rintro _ _ ⟨⟨Am2, cm2⟩, -, rfl, rfl⟩
              refine HW.run 8 rfl (by kernel_rfl) _ (.inl rfl) rfl (Ow.alloc (cs := [_, _, _, _]) Try.zeroValue39 rfl) (by rintro _ _ ⟨b13, rfl, rfl⟩ w h; exact (((h).erase 0).erase 0).erase 0) ?_
              rintro _ _ ⟨b13, rfl, rfl⟩
              refine HW.run 10 rfl (by kernel_rfl) _ (.inl rfl) rfl (Ow.storeW (vs := [_, _, _, _]) 0 Try.sizeOf39 rfl rfl (rfl) rfl (rfl)) (by rintro _ _ ⟨rfl, rfl⟩ w h; exact (((h).erase 0).erase 0).erase 0) ?_
              rintro _ _ ⟨rfl, rfl⟩
              refine HW.run 11 rfl (by kernel_rfl) _ (.inl rfl) rfl (Ow.storeW (vs := [_, _, _, _]) 2 Try.sizeOf39 rfl rfl (rfl) rfl (rfl)) (by rintro _ _ ⟨rfl, rfl⟩ w h; exact (((h).erase 0).erase 0).erase 0) ?_
              rintro _ _ ⟨rfl, rfl⟩
              refine HW.done (by kernel_rfl) ?_
              refine PW.mem _ (fun w h => h.front 3 rfl) ?_
              refine PW.mem _ (fun w h => h.front 2 rfl) ?_
              refine PW.mem _ (fun w h => h.front 3 rfl) ?_
              refine PW.mem _ (fun w h => h.front 3 rfl) ?_
              exact PW.mid (b13, b14, (none, 0), (Am2, cm2)) (trivial) ⟨rfl, rfl, rfl, rfl, rfl, rfl, trivial⟩ (fun w h => (h).erase 4)
            ·
              clear hf hs
              rintro _ _ ⟨b13, rfl, rfl⟩
              refine HW.run 7 rfl (by kernel_rfl) _ (.inl rfl) rfl (Ow.call e17 rfl (C.new (val := fun (p : Option Addr × Nat) => .agg #[.int .i64 n1, .slice p.1 (mergeL lb).length p.2, .int .i64 0, .int .i64 0]) (φ := fun _ => True) (Ψ := fun p => row (.slice p.1 (mergeL lb).length p.2) 48 3 (mergeL lb).length (cellsE (mergeL lb))) (fun w2 hs => (ref16New_ok n1 B d lb w2 (hr2.below hs.mod.below) hok2).mono (fun en w3 ⟨p, he, hb, F, hF, hk⟩ => ⟨p, trivial, he, hb, F, hF, hk⟩)))) (by rintro _ _ ⟨⟨Am2, cm2⟩, -, rfl, rfl⟩ w h; exact (((h).erase 0).erase 0).erase 0) ?_
              rintro _ _ ⟨⟨Am2, cm2⟩, -, rfl, rfl⟩
              refine HW.run 10 rfl (by kernel_rfl) _ (.inl rfl) rfl (Ow.storeW (vs := [_, _, _, _]) 1 Try.sizeOf39 rfl rfl (rfl) rfl (rfl)) (by rintro _ _ ⟨rfl, rfl⟩ w h; exact (((h).erase 0).erase 0).erase 0) ?_
              rintro _ _ ⟨rfl, rfl⟩
              refine HW.run 11 rfl (by kernel_rfl) _ (.inl rfl) rfl (Ow.storeW (vs := [_, _, _, _]) 2 Try.sizeOf39 rfl rfl (rfl) rfl (rfl)) (by rintro _ _ ⟨rfl, rfl⟩ w h; exact (((h).erase 0).erase 0).erase 0) ?_
              rintro _ _ ⟨rfl, rfl⟩
              refine HW.done (by kernel_rfl) ?_
              refine PW.mem _ (fun w h => h.front 3 rfl) ?_
              refine PW.mem _ (fun w h => h.front 1 rfl) ?_
              refine PW.mem _ (fun w h => h.front 3 rfl) ?_
              refine PW.mem _ (fun w h => h.front 3 rfl) ?_
              exact PW.mid (b13, b14, (none, 0), (Am2, cm2)) (trivial) ⟨rfl, rfl, rfl, rfl, rfl, rfl, trivial⟩ (fun w h => (h).erase 4)
        ·
          clear hf hs
          rintro _ _ ⟨b13, rfl, rfl⟩
          refine HW.run2 3 9 (by kernel_rfl) (fun a w hf hs => HW.opp 3 rfl _ (.inl rfl) rfl (Ow.call e17 rfl (C.val (fun w hs => ref16New_err n0 A c la _ (hr1.below hs.mod.below) k1 i1 hk1 he1))) (by rintro _ _ ⟨rfl, rfl⟩ w h; exact (h).erase 0) ?_ hf hs) (fun a w hf hs => HW.opp 9 rfl _ (.inl rfl) rfl (Ow.alloc (cs := [_, _, _, _]) Try.zeroValue39 rfl) (by rintro _ _ ⟨b14, rfl, rfl⟩ w h; exact ((h).erase 0).erase 0) ?_ hf hs)
          ·
            clear hf hs
            rintro _ _ ⟨rfl, rfl⟩
            refine HW.run2 7 9 (by kernel_rfl) (fun a w hf hs => HW.opp 7 rfl _ (.inl rfl) rfl (Ow.call e17 rfl (C.new (val := fun (p : Option Addr × Nat) => .agg #[.int .i64 n1, .slice p.1 (mergeL lb).length p.2, .int .i64 0, .int .i64 0]) (φ := fun _ => True) (Ψ := fun p => row (.slice p.1 (mergeL lb).length p.2) 48 3 (mergeL lb).length (cellsE (mergeL lb))) (fun w2 hs => (ref16New_ok n1 B d lb w2 (hr2.below hs.mod.below) hok2).mono (fun en w3 ⟨p, he, hb, F, hF, hk⟩ => ⟨p, trivial, he, hb, F, hF, hk⟩)))) (by rintro _ _ ⟨⟨Am2, cm2⟩, -, rfl, rfl⟩ w h; exact ((h).erase 0).erase 0) ?_ hf hs) (fun a w hf hs => HW.opp 9 rfl _ (.inl rfl) rfl (Ow.alloc (cs := [_, _, _, _]) Try.zeroValue39 rfl) (by rintro _ _ ⟨b14, rfl, rfl⟩ w h; exact ((h).erase 0).erase 0) ?_ hf hs)
            ·
              clear hf hs
              rintro _ _ ⟨⟨Am2, cm2⟩, -, rfl, rfl⟩
              refine HW.run 9 rfl (by kernel_rfl) _ (.inl rfl) rfl (Ow.alloc (cs := [_, _, _, _]) Try.zeroValue39 rfl) (by rintro _ _ ⟨b14, rfl, rfl⟩ w h; exact (((h).erase 0).erase 0).erase 0) ?_
              rintro _ _ ⟨b14, rfl, rfl⟩
              refine HW.run 10 rfl (by kernel_rfl) _ (.inl rfl) rfl (Ow.storeW (vs := [_, _, _, _]) 2 Try.sizeOf39 rfl rfl (rfl) rfl (rfl)) (by rintro _ _ ⟨rfl, rfl⟩ w h; exact (((h).erase 0).erase 0).erase 0) ?_
              rintro _ _ ⟨rfl, rfl⟩
              refine HW.run 11 rfl (by kernel_rfl) _ (.inl rfl) rfl (Ow.storeW (vs := [_, _, _, _]) 0 Try.sizeOf39 rfl rfl (rfl) rfl (rfl)) (by rintro _ _ ⟨rfl, rfl⟩ w h; exact (((h).erase 0).erase 0).erase 0) ?_
              rintro _ _ ⟨rfl, rfl⟩
              refine HW.done (by kernel_rfl) ?_
              refine PW.mem _ (fun w h => h.front 3 rfl) ?_
              refine PW.mem _ (fun w h => h.front 2 rfl) ?_
              refine PW.mem _ (fun w h => h.front 2 rfl) ?_
              refine PW.mem _ (fun w h => h.front 3 rfl) ?_
              exact PW.mid (b13, b14, (none, 0), (Am2, cm2)) (trivial) ⟨rfl, rfl, rfl, rfl, rfl, rfl, trivial⟩ (fun w h => (h).erase 4)
            ·
              clear hf hs
              rintro _ _ ⟨b14, rfl, rfl⟩
              refine HW.run 7 rfl (by kernel_rfl) _ (.inl rfl) rfl (Ow.call e17 rfl (C.new (val := fun (p : Option Addr × Nat) => .agg #[.int .i64 n1, .slice p.1 (mergeL lb).length p.2, .int .i64 0, .int .i64 0]) (φ := fun _ => True) (Ψ := fun p => row (.slice p.1 (mergeL lb).length p.2) 48 3 (mergeL lb).length (cellsE (mergeL lb))) (fun w2 hs => (ref16New_ok n1 B d lb w2 (hr2.below hs.mod.below) hok2).mono (fun en w3 ⟨p, he, hb, F, hF, hk⟩ => ⟨p, trivial, he, hb, F, hF, hk⟩)))) (by rintro _ _ ⟨⟨Am2, cm2⟩, -, rfl, rfl⟩ w h; exact (((h).erase 0).erase 0).erase 0) ?_
              rintro _ _ ⟨⟨Am2, cm2⟩, -, rfl, rfl⟩
              refine HW.run 10 rfl (by kernel_rfl) _ (.inl rfl) rfl (Ow.storeW (vs := [_, _, _, _]) 2 Try.sizeOf39 rfl rfl (rfl) rfl (rfl)) (by rintro _ _ ⟨rfl, rfl⟩ w h; exact (((h).erase 0).erase 0).erase 0) ?_
              rintro _ _ ⟨rfl, rfl⟩
              refine HW.run 11 rfl (by kernel_rfl) _ (.inl rfl) rfl (Ow.storeW (vs := [_, _, _, _]) 1 Try.sizeOf39 rfl rfl (rfl) rfl (rfl)) (by rintro _ _ ⟨rfl, rfl⟩ w h; exact (((h).erase 0).erase 0).erase 0) ?_
              rintro _ _ ⟨rfl, rfl⟩
              refine HW.done (by kernel_rfl) ?_
              refine PW.mem _ (fun w h => h.front 3 rfl) ?_
              refine PW.mem _ (fun w h => h.front 1 rfl) ?_
              refine PW.mem _ (fun w h => h.front 2 rfl) ?_
              refine PW.mem _ (fun w h => h.front 3 rfl) ?_
              exact PW.mid (b13, b14, (none, 0), (Am2, cm2)) (trivial) ⟨rfl, rfl, rfl, rfl, rfl, rfl, trivial⟩ (fun w h => (h).erase 4)
          ·
            clear hf hs
            rintro _ _ ⟨b14, rfl, rfl⟩
            refine HW.run 3 rfl (by kernel_rfl) _ (.inl rfl) rfl (Ow.call e17 rfl (C.val (fun w hs => ref16New_err n0 A c la _ (hr1.below hs.mod.below) k1 i1 hk1 he1))) (by rintro _ _ ⟨rfl, rfl⟩ w h; exact ((h).erase 0).erase 0) ?_
            rintro _ _ ⟨rfl, rfl⟩
            refine HW.run 7 rfl (by kernel_rfl) _ (.inl rfl) rfl (Ow.call e17 rfl (C.new (val := fun (p : Option Addr × Nat) => .agg #[.int .i64 n1, .slice p.1 (mergeL lb).length p.2, .int .i64 0, .int .i64 0]) (φ := fun _ => True) (Ψ := fun p => row (.slice p.1 (mergeL lb).length p.2) 48 3 (mergeL lb).length (cellsE (mergeL lb))) (fun w2 hs => (ref16New_ok n1 B d lb w2 (hr2.below hs.mod.below) hok2).mono (fun en w3 ⟨p, he, hb, F, hF, hk⟩ => ⟨p, trivial, he, hb, F, hF, hk⟩)))) (by rintro _ _ ⟨⟨Am2, cm2⟩, -, rfl, rfl⟩ w h; exact (((h).erase 0).erase 0).erase 0) ?_
            rintro _ _ ⟨⟨Am2, cm2⟩, -, rfl, rfl⟩
            refine HW.run 10 rfl (by kernel_rfl) _ (.inl rfl) rfl (Ow.storeW (vs := [_, _, _, _]) 2 Try.sizeOf39 rfl rfl (rfl) rfl (rfl)) (by rintro _ _ ⟨rfl, rfl⟩ w h; exact (((h).erase 0).erase 0).erase 0) ?_
            rintro _ _ ⟨rfl, rfl⟩
            refine HW.run 11 rfl (by kernel_rfl) _ (.inl rfl) rfl (Ow.storeW (vs := [_, _, _, _]) 1 Try.sizeOf39 rfl rfl (rfl) rfl (rfl)) (by rintro _ _ ⟨rfl, rfl⟩ w h; exact (((h).erase 0).erase 0).erase 0) ?_
            rintro _ _ ⟨rfl, rfl⟩
            refine HW.done (by kernel_rfl) ?_
            refine PW.mem _ (fun w h => h.front 3 rfl) ?_
            refine PW.mem _ (fun w h => h.front 1 rfl) ?_
            refine PW.mem _ (fun w h => h.front 2 rfl) ?_
            refine PW.mem _ (fun w h => h.front 3 rfl) ?_
            exact PW.mid (b13, b14, (none, 0), (Am2, cm2)) (trivial) ⟨rfl, rfl, rfl, rfl, rfl, rfl, trivial⟩ (fun w h => (h).erase 4)
        ·
          clear hf hs
          rintro _ _ ⟨b14, rfl, rfl⟩
          refine HW.run2 3 8 (by kernel_rfl) (fun a w hf hs => HW.opp 3 rfl _ (.inl rfl) rfl (Ow.call e17 rfl (C.val (fun w hs => ref16New_err n0 A c la _ (hr1.below hs.mod.below) k1 i1 hk1 he1))) (by rintro _ _ ⟨rfl, rfl⟩ w h; exact (h).erase 0) ?_ hf hs) (fun a w hf hs => HW.opp 8 rfl _ (.inl rfl) rfl (Ow.alloc (cs := [_, _, _, _]) Try.zeroValue39 rfl) (by rintro _ _ ⟨b13, rfl, rfl⟩ w h; exact ((h).erase 0).erase 0) ?_ hf hs)
          ·
            clear hf hs
            rintro _ _ ⟨rfl, rfl⟩
            refine HW.run2 7 8 (by kernel_rfl) (fun a w hf hs => HW.opp 7 rfl _ (.inl rfl) rfl (Ow.call e17 rfl (C.new (val := fun (p : Option Addr × Nat) => .agg #[.int .i64 n1, .slice p.1 (mergeL lb).length p.2, .int .i64 0, .int .i64 0]) (φ := fun _ => True) (Ψ := fun p => row (.slice p.1 (mergeL lb).length p.2) 48 3 (mergeL lb).length (cellsE (mergeL lb))) (fun w2 hs => (ref16New_ok n1 B d lb w2 (hr2.below hs.mod.below) hok2).mono (fun en w3 ⟨p, he, hb, F, hF, hk⟩ => ⟨p, trivial, he, hb, F, hF, hk⟩)))) (by rintro _ _ ⟨⟨Am2, cm2⟩, -, rfl, rfl⟩ w h; exact ((h).erase 0).erase 0) ?_ hf hs) (fun a w hf hs => HW.opp 8 rfl _ (.inl rfl) rfl (Ow.alloc (cs := [_, _, _, _]) Try.zeroValue39 rfl) (by rintro _ _ ⟨b13, rfl, rfl⟩ w h; exact ((h).erase 0).erase 0) ?_ hf hs)
            ·
              clear hf hs
              rintro _ _ ⟨⟨Am2, cm2⟩, -, rfl, rfl⟩
              refine HW.run 8 rfl (by kernel_rfl) _ (.inl rfl) rfl (Ow.alloc (cs := [_, _, _, _]) Try.zeroValue39 rfl) (by rintro _ _ ⟨b13, rfl, rfl⟩ w h; exact (((h).erase 0).erase 0).erase 0) ?_
              rintro _ _ ⟨b13, rfl, rfl⟩
              refine HW.run 10 rfl (by kernel_rfl) _ (.inl rfl) rfl (Ow.storeW (vs := [_, _, _, _]) 0 Try.sizeOf39 rfl rfl (rfl) rfl (rfl)) (by rintro _ _ ⟨rfl, rfl⟩ w h; exact (((h).erase 0).erase 0).erase 0) ?_
              rintro _ _ ⟨rfl, rfl⟩
              refine HW.run 11 rfl (by kernel_rfl) _ (.inl rfl) rfl (Ow.storeW (vs := [_, _, _, _]) 2 Try.sizeOf39 rfl rfl (rfl) rfl (rfl)) (by rintro _ _ ⟨rfl, rfl⟩ w h; exact (((h).erase 0).erase 0).erase 0) ?_
              rintro _ _ ⟨rfl, rfl⟩
              refine HW.done (by kernel_rfl) ?_
              refine PW.mem _ (fun w h => h.front 3 rfl) ?_
              refine PW.mem _ (fun w h => h.front 2 rfl) ?_
              refine PW.mem _ (fun w h => h.front 3 rfl) ?_
              refine PW.mem _ (fun w h => h.front 3 rfl) ?_
              exact PW.mid (b13, b14, (none, 0), (Am2, cm2)) (trivial) ⟨rfl, rfl, rfl, rfl, rfl, rfl, trivial⟩ (fun w h => (h).erase 4)
            ·
              clear hf hs
              rintro _ _ ⟨b13, rfl, rfl⟩
              refine HW.run 7 rfl (by kernel_rfl) _ (.inl rfl) rfl (Ow.call e17 rfl (C.new (val := fun (p : Option Addr × Nat) => .agg #[.int .i64 n1, .slice p.1 (mergeL lb).length p.2, .int .i64 0, .int .i64 0]) (φ := fun _ => True) (Ψ := fun p => row (.slice p.1 (mergeL lb).length p.2) 48 3 (mergeL lb).length (cellsE (mergeL lb))) (fun w2 hs => (ref16New_ok n1 B d lb w2 (hr2.below hs.mod.below) hok2).mono (fun en w3 ⟨p, he, hb, F, hF, hk⟩ => ⟨p, trivial, he, hb, F, hF, hk⟩)))) (by rintro _ _ ⟨⟨Am2, cm2⟩, -, rfl, rfl⟩ w h; exact (((h).erase 0).erase 0).erase 0) ?_
              rintro _ _ ⟨⟨Am2, cm2⟩, -, rfl, rfl⟩
              refine HW.run 10 rfl (by kernel_rfl) _ (.inl rfl) rfl (Ow.storeW (vs := [_, _, _, _]) 1 Try.sizeOf39 rfl rfl (rfl) rfl (rfl)) (by rintro _ _ ⟨rfl, rfl⟩ w h; exact (((h).erase 0).erase 0).erase 0) ?_
              rintro _ _ ⟨rfl, rfl⟩
              refine HW.run 11 rfl (by kernel_rfl) _ (.inl rfl) rfl (Ow.storeW (vs := [_, _, _, _]) 2 Try.sizeOf39 rfl rfl (rfl) rfl (rfl)) (by rintro _ _ ⟨rfl, rfl⟩ w h; exact (((h).erase 0).erase 0).erase 0) ?_
              rintro _ _ ⟨rfl, rfl⟩
              refine HW.done (by kernel_rfl) ?_
              refine PW.mem _ (fun w h => h.front 3 rfl) ?_
              refine PW.mem _ (fun w h => h.front 1 rfl) ?_
              refine PW.mem _ (fun w h => h.front 3 rfl) ?_
              refine PW.mem _ (fun w h => h.front 3 rfl) ?_
              exact PW.mid (b13, b14, (none, 0), (Am2, cm2)) (trivial) ⟨rfl, rfl, rfl, rfl, rfl, rfl, trivial⟩ (fun w h => (h).erase 4)
          ·
            clear hf hs
            rintro _ _ ⟨b13, rfl, rfl⟩
            refine HW.run 3 rfl (by kernel_rfl) _ (.inl rfl) rfl (Ow.call e17 rfl (C.val (fun w hs => ref16New_err n0 A c la _ (hr1.below hs.mod.below) k1 i1 hk1 he1))) (by rintro _ _ ⟨rfl, rfl⟩ w h; exact ((h).erase 0).erase 0) ?_
            rintro _ _ ⟨rfl, rfl⟩
            refine HW.run 7 rfl (by kernel_rfl) _ (.inl rfl) rfl (Ow.call e17 rfl (C.new (val := fun (p : Option Addr × Nat) => .agg #[.int .i64 n1, .slice p.1 (mergeL lb).length p.2, .int .i64 0, .int .i64 0]) (φ := fun _ => True) (Ψ := fun p => row (.slice p.1 (mergeL lb).length p.2) 48 3 (mergeL lb).length (cellsE (mergeL lb))) (fun w2 hs => (ref16New_ok n1 B d lb w2 (hr2.below hs.mod.below) hok2).mono (fun en w3 ⟨p, he, hb, F, hF, hk⟩ => ⟨p, trivial, he, hb, F, hF, hk⟩)))) (by rintro _ _ ⟨⟨Am2, cm2⟩, -, rfl, rfl⟩ w h; exact (((h).erase 0).erase 0).erase 0) ?_
            rintro _ _ ⟨⟨Am2, cm2⟩, -, rfl, rfl⟩
            refine HW.run 10 rfl (by kernel_rfl) _ (.inl rfl) rfl (Ow.storeW (vs := [_, _, _, _]) 1 Try.sizeOf39 rfl rfl (rfl) rfl (rfl)) (by rintro _ _ ⟨rfl, rfl⟩ w h; exact (((h).erase 0).erase 0).erase 0) ?_
            rintro _ _ ⟨rfl, rfl⟩
            refine HW.run 11 rfl (by kernel_rfl) _ (.inl rfl) rfl (Ow.storeW (vs := [_, _, _, _]) 2 Try.sizeOf39 rfl rfl (rfl) rfl (rfl)) (by rintro _ _ ⟨rfl, rfl⟩ w h; exact (((h).erase 0).erase 0).erase 0) ?_
            rintro _ _ ⟨rfl, rfl⟩
            refine HW.done (by kernel_rfl) ?_
            refine PW.mem _ (fun w h => h.front 3 rfl) ?_
            refine PW.mem _ (fun w h => h.front 1 rfl) ?_
            refine PW.mem _ (fun w h => h.front 3 rfl) ?_
            refine PW.mem _ (fun w h => h.front 3 rfl) ?_
            exact PW.mid (b13, b14, (none, 0), (Am2, cm2)) (trivial) ⟨rfl, rfl, rfl, rfl, rfl, rfl, trivial⟩ (fun w h => (h).erase 4)
      · intro ⟨b13, b14, ⟨Am1, cm1⟩, ⟨Am2, cm2⟩⟩ _
        (try dsimp only)
        refine CW.seq ?_
        refine CW.region ?_
        refine RW.y (.inl rfl) rfl (Yv.assign rfl) ?_
        refine RW.nil ?_
        refine PW.go ?_
        refine CW.seq ?_
        refine CW.region ?_
        refine RW.y (.inl rfl) rfl (Yv.move rfl) ?_
        refine RW.o _ (.inl rfl) rfl (Ow.call e29 rfl (C.val (fun w hs => netEdge_nil 0 _))) ?_
        rintro _ _ ⟨rfl, rfl⟩
        refine RW.y (.inl rfl) rfl (Yv.move rfl) ?_
        refine RW.y (.inl rfl) rfl (Yv.extract rfl rfl) ?_
        refine RW.y (.inl rfl) rfl (Yv.extract rfl rfl) ?_
        refine RW.o _ (.inl rfl) rfl (Ow.alloc (cs := [_, _, _]) Try.zeroValue48 rfl) ?_
        rintro _ _ ⟨b16, rfl, rfl⟩
        refine RW.o _ (.inl rfl) rfl (Ow.storeW (vs := [_, _, _]) 0 Try.sizeOf48 rfl rfl (rfl) rfl (rfl)) ?_
        rintro _ _ ⟨rfl, rfl⟩
        refine RW.y (.inl rfl) rfl (Yv.assign rfl) ?_
        refine RW.nil ?_
        refine PW.go ?_
        refine CW.seq ?_
        refine CW.seq ?_
        refine CW.region ?_
        refine RW.y (.inl rfl) rfl (Yv.move rfl) ?_
        refine RW.o _ (.inl rfl) rfl (Ow.call e30 rfl (C.val (fun w hs => netN_nil _))) ?_
        rintro _ _ ⟨rfl, rfl⟩
        refine RW.y (.inl rfl) rfl (Yv.ne rfl rfl) ?_
        refine RW.y (.inl rfl) rfl (Yv.move rfl) ?_
        refine RW.isF 60 rfl (by simp) ?_
        refine RW.y (.inr ⟨_, _, 60, rfl, rfl, rfl⟩) rfl (Yv.move rfl) ?_
        refine RW.o _ (.inr ⟨_, _, 60, rfl, rfl, rfl⟩) rfl (Ow.call e27 rfl (C.val (fun w hs => netM_nil _))) ?_
        rintro _ _ ⟨rfl, rfl⟩
        refine RW.y (.inr ⟨_, _, 60, rfl, rfl, rfl⟩) rfl (Yv.ne rfl rfl) ?_
        refine RW.y (.inl rfl) rfl (Yv.pickF rfl rfl) ?_
        refine RW.y (.inl rfl) rfl (Yv.move rfl) ?_
        refine RW.isF 65 rfl (by simp) ?_
        refine RW.y (.inr ⟨_, _, 65, rfl, rfl, rfl⟩) rfl (Yv.move rfl) ?_
        refine RW.o _ (.inr ⟨_, _, 65, rfl, rfl, rfl⟩) rfl (Ow.call e31 rfl (C.val (fun w hs => netEdges_nil _))) ?_
        rintro _ _ ⟨rfl, rfl⟩
        refine RW.y (.inr ⟨_, _, 65, rfl, rfl, rfl⟩) rfl (Yv.len Try.underlying22 rfl) ?_
        refine RW.y (.inr ⟨_, _, 65, rfl, rfl, rfl⟩) rfl (Yv.ne rfl rfl) ?_
        refine RW.y (.inl rfl) rfl (Yv.pickF rfl rfl) ?_
        refine RW.y (.inl rfl) rfl (Yv.move rfl) ?_
        refine RW.isF 71 rfl (by simp) ?_
        refine RW.y (.inr ⟨_, _, 71, rfl, rfl, rfl⟩) rfl (Yv.move rfl) ?_
        refine RW.y (.inl rfl) rfl (Yv.pickF rfl rfl) ?_
        refine RW.y (.inl rfl) rfl (Yv.move rfl) ?_
        refine RW.isB (c := false) 74 rfl (rfl) ?_
        refine RW.y (.inr ⟨_, _, 74, rfl, rfl, rfl⟩) rfl (Yv.move rfl) ?_
        refine RW.o _ (.inr ⟨_, _, 74, rfl, rfl, rfl⟩) rfl (Ow.call e32 rfl (C.val (fun w hs => netWeight_nil 0 1 _))) ?_
        rintro _ _ ⟨rfl, rfl⟩
        refine RW.y (.inr ⟨_, _, 74, rfl, rfl, rfl⟩) rfl (Yv.ne rfl rfl) ?_
        refine RW.y (.inl rfl) rfl (Yv.pickF rfl rfl) ?_
        refine RW.y (.inl rfl) rfl (Yv.move rfl) ?_
        refine RW.isF 79 rfl (by simp) ?_
        refine RW.y (.inr ⟨_, _, 79, rfl, rfl, rfl⟩) rfl (Yv.move rfl) ?_
        refine RW.o _ (.inr ⟨_, _, 79, rfl, rfl, rfl⟩) rfl (Ow.call e33 rfl (C.val (fun w hs => netDegree_nil 0 _))) ?_
        rintro _ _ ⟨rfl, rfl⟩
        refine RW.y (.inr ⟨_, _, 79, rfl, rfl, rfl⟩) rfl (Yv.ne rfl rfl) ?_
        refine RW.y (.inl rfl) rfl (Yv.pickF rfl rfl) ?_
        refine RW.y (.inl rfl) rfl (Yv.move rfl) ?_
        refine RW.isF 84 rfl (by simp) ?_
        refine RW.y (.inr ⟨_, _, 84, rfl, rfl, rfl⟩) rfl (Yv.move rfl) ?_
        refine RW.o _ (.inr ⟨_, _, 84, rfl, rfl, rfl⟩) rfl (Ow.call e34 rfl (C.val (fun w hs => netNear_nil 0 _))) ?_
        rintro _ _ ⟨rfl, rfl⟩
        refine RW.y (.inr ⟨_, _, 84, rfl, rfl, rfl⟩) rfl (Yv.len Try.underlying32 rfl) ?_
        refine RW.y (.inr ⟨_, _, 84, rfl, rfl, rfl⟩) rfl (Yv.ne rfl rfl) ?_
        refine RW.y (.inl rfl) rfl (Yv.pickF rfl rfl) ?_
        refine RW.y (.inl rfl) rfl (Yv.move rfl) ?_
        refine RW.isF 90 rfl (by simp) ?_
        refine RW.y (.inr ⟨_, _, 90, rfl, rfl, rfl⟩) rfl (Yv.move rfl) ?_
        refine RW.o _ (.inr ⟨_, _, 90, rfl, rfl, rfl⟩) rfl (Ow.call e35 rfl (C.val (fun w hs => netTotal_nil _))) ?_
        rintro _ _ ⟨rfl, rfl⟩
        refine RW.y (.inr ⟨_, _, 90, rfl, rfl, rfl⟩) rfl (Yv.ne rfl rfl) ?_
        refine RW.y (.inl rfl) rfl (Yv.pickF rfl rfl) ?_
        refine RW.y (.inl rfl) rfl (Yv.move rfl) ?_
        refine RW.isF 95 rfl (by simp) ?_
        refine RW.y (.inr ⟨_, _, 95, rfl, rfl, rfl⟩) rfl (Yv.move rfl) ?_
        refine RW.o _ (.inr ⟨_, _, 95, rfl, rfl, rfl⟩) rfl (Ow.call e36 rfl (C.val (fun w hs => netSame_nil _))) ?_
        rintro _ _ ⟨rfl, rfl⟩
        refine RW.y (.inr ⟨_, _, 95, rfl, rfl, rfl⟩) rfl (Yv.not rfl) ?_
        refine RW.y (.inl rfl) rfl (Yv.pickF rfl rfl) ?_
        refine RW.nil ?_
        refine PW.go ?_
        refine CW.cond rfl (fun hc99 => ?_) (fun hc99 => ?_)
        ·
          cases hc99
        ·
          refine CW.skip ?_
          refine PW.go ?_
          refine CW.seq ?_
          refine CW.seq ?_
          refine CW.region ?_
          refine RW.y (.inl rfl) rfl (Yv.move rfl) ?_
          refine RW.y (.inl rfl) rfl (Yv.ne rfl rfl) ?_
          refine RW.y (.inl rfl) rfl (Yv.move rfl) ?_
          refine RW.isT 102 rfl (hk1) ?_
          refine RW.no ⟨_, _, 102, _, rfl, rfl, rfl, fun h => by simp [undef] at h⟩ rfl ?_
          refine RW.no ⟨_, _, 102, _, rfl, rfl, rfl, fun h => by simp [undef] at h⟩ rfl ?_
          refine RW.y (.inl rfl) rfl (Yv.pickT rfl rfl) ?_
          refine RW.nil ?_
          refine PW.go ?_
          refine CW.condT rfl ?_
          refine CW.seq ?_
          refine CW.region ?_
          refine RW.y (.inl rfl) rfl (Yv.move rfl) ?_
          refine RW.y (.inl rfl) rfl (Yv.move rfl) ?_
          refine RW.o _ (.inl rfl) rfl (Ow.call e36 rfl (C.val (fun w hs => netSame_left ⟨bg2, 0, none⟩ _))) ?_
          rintro _ _ ⟨rfl, rfl⟩
          refine RW.y (.inl rfl) rfl (Yv.move rfl) ?_
          refine RW.y (.inl rfl) rfl (Yv.ne rfl rfl) ?_
          refine RW.y (.inl rfl) rfl (Yv.move rfl) ?_
          refine RW.isT 111 rfl (hk1) ?_
          refine RW.y (.inr ⟨_, _, 111, rfl, rfl, rfl⟩) rfl (Yv.move rfl) ?_
          refine RW.y (.inr ⟨_, _, 111, rfl, rfl, rfl⟩) rfl (Yv.ne rfl rfl) ?_
          refine RW.y (.inl rfl) rfl (Yv.pickT rfl rfl) ?_
          refine RW.y (.inl rfl) rfl (Yv.boolEq Try.underlying4 rfl rfl) ?_
          refine RW.y (.inl rfl) rfl (Yv.move rfl) ?_
          refine RW.isB (c := true) 116 rfl (by simp) ?_
          refine RW.o _ (.inr ⟨_, _, 116, rfl, rfl, rfl⟩) rfl (Ow.call e28 rfl (C.val (fun w hs => awake16 _))) ?_
          rintro _ _ ⟨rfl, rfl⟩
          refine RW.y (.inl rfl) rfl (Yv.pickT rfl rfl) ?_
          refine RW.y (.inl rfl) rfl (Yv.assign rfl) ?_
          refine RW.nil ?_
          refine PW.go ?_
          refine CW.ret ?_
          refine PW.then_ret ?_
          refine PW.ret1 Try.results5 rfl (fun w1 hs => ?_)
          exact ⟨rfl, hs.mod.below⟩

set_option maxRecDepth 100000 in
theorem netSameLaw_ee (n0 n1 : Int) (A B : Option Addr) (c d : Nat) (la lb : List Edg) (w : World) (hr1 : Rd w A 3 la.length (cellsE la)) (hr2 : Rd w B 3 lb.length (cellsE lb)) (k1 : Int) (i1 : Nat) (hk1 : k1 ≠ 0) (he1 : NewE n0 la k1 i1) (k2 : Int) (i2 : Nat) (hk2 : k2 ≠ 0) (he2 : NewE n1 lb k2 i2) : Calls Try.prog 5 #[.agg #[.int .i64 n0, .int .i64 n1], .slice A la.length c, .slice B lb.length d] w fun e w1 => e = .returned (.bool true) ∧ Gr w w1 := by
  refine CW.enter (P := Try.prog) (F0 := none0) (L := [(0, _), (1, _), (2, _)]) 148 [] Try.func5 rfl Try.ntmps5 (Nat.le_of_ble_eq_true rfl) (St.start w none0) rfl ?_
  refine CW.seq ?_
  refine CW.region ?_
  refine RW.o _ (.inl rfl) rfl (Ow.box (cs := [_, _]) rfl rfl) ?_
  rintro _ _ ⟨b3, rfl, rfl⟩
  refine RW.y (.inl rfl) rfl (Yv.assign rfl) ?_
  refine RW.nil ?_
  refine PW.go ?_
  refine CW.seq ?_
  refine CW.seq ?_
  refine CW.region ?_
  refine RW.y (.inl rfl) rfl (Yv.move rfl) ?_
  refine RW.y (.inl rfl) rfl (Yv.len Try.underlying22 rfl) ?_
  refine RW.y (.inl rfl) rfl (Yv.gt rfl rfl) ?_
  refine RW.y (.inl rfl) rfl (Yv.move rfl) ?_
  refine RW.splitD 22 rfl (fun hc22 => ?_) (fun hc22 => ?_)
  ·
    refine RW.no ⟨_, _, 22, _, rfl, rfl, rfl, fun h => by simp [undef] at h⟩ rfl ?_
    refine RW.no ⟨_, _, 22, _, rfl, rfl, rfl, fun h => by simp [undef] at h⟩ rfl ?_
    refine RW.no ⟨_, _, 22, _, rfl, rfl, rfl, fun h => by simp [undef] at h⟩ rfl ?_
    refine RW.y (.inl rfl) rfl (Yv.pickT rfl rfl) ?_
    refine RW.nil ?_
    refine PW.go ?_
    refine CW.condT rfl ?_
    refine CW.seq ?_
    refine CW.region ?_
    refine RW.o _ (.inl rfl) rfl (Ow.call e28 rfl (C.val (fun w hs => awake16 _))) ?_
    rintro _ _ ⟨rfl, rfl⟩
    refine RW.y (.inl rfl) rfl (Yv.assign rfl) ?_
    refine RW.nil ?_
    refine PW.go ?_
    refine CW.ret ?_
    refine PW.then_ret ?_
    refine PW.ret1 Try.results5 rfl (fun w1 hs => ?_)
    exact ⟨rfl, hs.mod.below⟩
  ·
    refine RW.y (.inr ⟨_, _, 22, rfl, rfl, rfl⟩) rfl (Yv.move rfl) ?_
    refine RW.y (.inr ⟨_, _, 22, rfl, rfl, rfl⟩) rfl (Yv.len Try.underlying22 rfl) ?_
    refine RW.y (.inr ⟨_, _, 22, rfl, rfl, rfl⟩) rfl (Yv.gt rfl rfl) ?_
    refine RW.y (.inl rfl) rfl (Yv.pickF rfl rfl) ?_
    refine RW.nil ?_
    refine PW.go ?_
    refine CW.condD rfl (fun hc26 => ?_) (fun hc26 => ?_)
    ·
      refine CW.seq ?_
      refine CW.region ?_
      refine RW.o _ (.inl rfl) rfl (Ow.call e28 rfl (C.val (fun w hs => awake16 _))) ?_
      rintro _ _ ⟨rfl, rfl⟩
      refine RW.y (.inl rfl) rfl (Yv.assign rfl) ?_
      refine RW.nil ?_
      refine PW.go ?_
      refine CW.ret ?_
      refine PW.then_ret ?_
      refine PW.ret1 Try.results5 rfl (fun w1 hs => ?_)
      exact ⟨rfl, hs.mod.below⟩
    ·
      refine CW.skip ?_
      refine PW.go ?_
      refine CW.seq ?_
      refine CW.region ?_
      refine RW.y (.inl rfl) rfl (Yv.indexA Try.underlying23 Try.sizeOf3 rfl rfl (by omega) (by omega)) ?_
      refine RW.y (.inl rfl) rfl (Yv.load1 Try.isAgg3 rfl (CF.blk 0 rfl rfl)) ?_
      refine RW.y (.inl rfl) rfl (Yv.move rfl) ?_
      refine RW.o _ (.inl rfl) rfl (Ow.call e9 rfl (C.val (fun w hs => netNew_err n0 A c la _ (hr1.below hs.mod.below) k1 i1 hk1 he1))) ?_
      rintro _ _ ⟨rfl, rfl⟩
      refine RW.y (.inl rfl) rfl (Yv.move rfl) ?_
      refine RW.y (.inl rfl) rfl (Yv.extract rfl rfl) ?_
      refine RW.y (.inl rfl) rfl (Yv.extract rfl rfl) ?_
      refine RW.y (.inl rfl) rfl (Yv.extract rfl rfl) ?_
      refine RW.y (.inl rfl) rfl (Yv.assign rfl) ?_
      refine RW.y (.inl rfl) rfl (Yv.assign rfl) ?_
      refine RW.y (.inl rfl) rfl (Yv.assign rfl) ?_
      refine RW.nil ?_
      refine PW.go ?_
      refine CW.seq ?_
      refine CW.region ?_
      refine RW.y (.inl rfl) rfl (Yv.indexA Try.underlying23 Try.sizeOf3 rfl rfl (by omega) (by omega)) ?_
      refine RW.y (.inl rfl) rfl (Yv.load1 Try.isAgg3 rfl (CF.blk 0 rfl rfl)) ?_
      refine RW.y (.inl rfl) rfl (Yv.move rfl) ?_
      refine RW.o _ (.inl rfl) rfl (Ow.call e9 rfl (C.val (fun w hs => netNew_err n1 B d lb _ (hr2.below hs.mod.below) k2 i2 hk2 he2))) ?_
      rintro _ _ ⟨rfl, rfl⟩
      refine RW.y (.inl rfl) rfl (Yv.move rfl) ?_
      refine RW.y (.inl rfl) rfl (Yv.extract rfl rfl) ?_
      refine RW.y (.inl rfl) rfl (Yv.extract rfl rfl) ?_
      refine RW.y (.inl rfl) rfl (Yv.extract rfl rfl) ?_
      refine RW.y (.inl rfl) rfl (Yv.assign rfl) ?_
      refine RW.y (.inl rfl) rfl (Yv.assign rfl) ?_
      refine RW.y (.inl rfl) rfl (Yv.assign rfl) ?_
      refine RW.nil ?_
      refine PW.go ?_
      refine CW.cut (σ := Nat × Nat × (Option Addr × Nat) × (Option Addr × Nat)) (fun s => True) (fun s => [(7, .pointer none), (8, .int .i64 k1), (10, .pointer none), (11, .int .i64 k2), (13, .pointer (some ⟨s.1, 0, none⟩)), (14, .pointer (some ⟨s.2.1, 0, none⟩))]) (fun s => [blk s.1 [.int .i64 0, .slice none 0 0, .int .i64 k1, .int .i64 i1] 39, blk s.2.1 [.int .i64 0, .slice none 0 0, .int .i64 k2, .int .i64 i2] 39]) ?_ ?_
      ·
        refine CW.draw0 mixed ?_
        refine HW.take 0 rfl (by kernel_rfl) (by kernel_rfl) (by kernel_rfl) (fun _ _ _ h => h) (.inl rfl) rfl (fun _ h => h) (Yv.indexA Try.underlying23 Try.sizeOf3 rfl rfl (by omega) (by omega)) ?_
        refine HW.take 1 rfl (by kernel_rfl) (by kernel_rfl) (by kernel_rfl) (fun _ _ _ h => h) (.inl rfl) rfl (fun _ h => h) (Yv.load1 Try.isAgg3 rfl (CF.blk 0 rfl rfl)) ?_
        refine HW.take 2 rfl (by kernel_rfl) (by kernel_rfl) (by kernel_rfl) (fun _ _ _ h => h) (.inl rfl) rfl (fun _ h => h) (Yv.move rfl) ?_
        refine HW.take 4 rfl (by kernel_rfl) (by kernel_rfl) (by kernel_rfl) (fun _ _ _ h => h) (.inl rfl) rfl (fun _ h => h) (Yv.indexA Try.underlying23 Try.sizeOf3 rfl rfl (by omega) (by omega)) ?_
        refine HW.take 5 rfl (by kernel_rfl) (by kernel_rfl) (by kernel_rfl) (fun _ _ _ h => h) (.inl rfl) rfl (fun _ h => h) (Yv.load1 Try.isAgg3 rfl (CF.blk 0 rfl rfl)) ?_
        refine HW.take 6 rfl (by kernel_rfl) (by kernel_rfl) (by kernel_rfl) (fun _ _ _ h => h) (.inl rfl) rfl (fun _ h => h) (Yv.move rfl) ?_
        refine HW.run3 3 8 9 (by kernel_rfl) (fun a w hf hs => HW.opp 3 rfl _ (.inl rfl) rfl (Ow.call e17 rfl (C.val (fun w hs => ref16New_err n0 A c la _ (hr1.below hs.mod.below) k1 i1 hk1 he1))) (by rintro _ _ ⟨rfl, rfl⟩ w h; exact h) ?_ hf hs) (fun a w hf hs => HW.opp 8 rfl _ (.inl rfl) rfl (Ow.alloc (cs := [_, _, _, _]) Try.zeroValue39 rfl) (by rintro _ _ ⟨b13, rfl, rfl⟩ w h; exact (h).erase 0) ?_ hf hs) (fun a w hf hs => HW.opp 9 rfl _ (.inl rfl) rfl (Ow.alloc (cs := [_, _, _, _]) Try.zeroValue39 rfl) (by rintro _ _ ⟨b14, rfl, rfl⟩ w h; exact (h).erase 0) ?_ hf hs)
        ·
          clear hf hs
          rintro _ _ ⟨rfl, rfl⟩
          refine HW.run3 7 8 9 (by kernel_rfl) (fun a w hf hs => HW.opp 7 rfl _ (.inl rfl) rfl (Ow.call e17 rfl (C.val (fun w hs => ref16New_err n1 B d lb _ (hr2.below hs.mod.below) k2 i2 hk2 he2))) (by rintro _ _ ⟨rfl, rfl⟩ w h; exact h) ?_ hf hs) (fun a w hf hs => HW.opp 8 rfl _ (.inl rfl) rfl (Ow.alloc (cs := [_, _, _, _]) Try.zeroValue39 rfl) (by rintro _ _ ⟨b13, rfl, rfl⟩ w h; exact (h).erase 0) ?_ hf hs) (fun a w hf hs => HW.opp 9 rfl _ (.inl rfl) rfl (Ow.alloc (cs := [_, _, _, _]) Try.zeroValue39 rfl) (by rintro _ _ ⟨b14, rfl, rfl⟩ w h; exact (h).erase 0) ?_ hf hs)
          ·
            clear hf hs
            rintro _ _ ⟨rfl, rfl⟩
            refine HW.run2 8 9 (by kernel_rfl) (fun a w hf hs => HW.opp 8 rfl _ (.inl rfl) rfl (Ow.alloc (cs := [_, _, _, _]) Try.zeroValue39 rfl) (by rintro _ _ ⟨b13, rfl, rfl⟩ w h; exact (h).erase 0) ?_ hf hs) (fun a w hf hs => HW.opp 9 rfl _ (.inl rfl) rfl (Ow.alloc (cs := [_, _, _, _]) Try.zeroValue39 rfl) (by rintro _ _ ⟨b14, rfl, rfl⟩ w h; exact (h).erase 0) ?_ hf hs)
            ·
              clear hf hs
              rintro _ _ ⟨b13, rfl, rfl⟩
              refine HW.run 9 rfl (by kernel_rfl) _ (.inl rfl) rfl (Ow.alloc (cs := [_, _, _, _]) Try.zeroValue39 rfl) (by rintro _ _ ⟨b14, rfl, rfl⟩ w h; exact ((h).erase 0).erase 0) ?_
              rintro _ _ ⟨b14, rfl, rfl⟩
              refine HW.run 10 rfl (by kernel_rfl) _ (.inl rfl) rfl (Ow.storeW (vs := [_, _, _, _]) 1 Try.sizeOf39 rfl rfl (rfl) rfl (rfl)) (by rintro _ _ ⟨rfl, rfl⟩ w h; exact ((h).erase 0).erase 0) ?_
              rintro _ _ ⟨rfl, rfl⟩
              refine HW.run 11 rfl (by kernel_rfl) _ (.inl rfl) rfl (Ow.storeW (vs := [_, _, _, _]) 0 Try.sizeOf39 rfl rfl (rfl) rfl (rfl)) (by rintro _ _ ⟨rfl, rfl⟩ w h; exact ((h).erase 0).erase 0) ?_
              rintro _ _ ⟨rfl, rfl⟩
              refine HW.done (by kernel_rfl) ?_
              refine PW.mem _ (fun w h => h.front 0 rfl) ?_
              refine PW.mem _ (fun w h => h.front 1 rfl) ?_
              exact PW.mid (b13, b14, (none, 0), (none, 0)) (trivial) ⟨rfl, rfl, rfl, rfl, rfl, rfl, trivial⟩ (fun w h => (h).erase 2)
            ·
              clear hf hs
              rintro _ _ ⟨b14, rfl, rfl⟩
              refine HW.run 8 rfl (by kernel_rfl) _ (.inl rfl) rfl (Ow.alloc (cs := [_, _, _, _]) Try.zeroValue39 rfl) (by rintro _ _ ⟨b13, rfl, rfl⟩ w h; exact ((h).erase 0).erase 0) ?_
              rintro _ _ ⟨b13, rfl, rfl⟩
              refine HW.run 10 rfl (by kernel_rfl) _ (.inl rfl) rfl (Ow.storeW (vs := [_, _, _, _]) 0 Try.sizeOf39 rfl rfl (rfl) rfl (rfl)) (by rintro _ _ ⟨rfl, rfl⟩ w h; exact ((h).erase 0).erase 0) ?_
              rintro _ _ ⟨rfl, rfl⟩
              refine HW.run 11 rfl (by kernel_rfl) _ (.inl rfl) rfl (Ow.storeW (vs := [_, _, _, _]) 1 Try.sizeOf39 rfl rfl (rfl) rfl (rfl)) (by rintro _ _ ⟨rfl, rfl⟩ w h; exact ((h).erase 0).erase 0) ?_
              rintro _ _ ⟨rfl, rfl⟩
              refine HW.done (by kernel_rfl) ?_
              refine PW.mem _ (fun w h => h.front 1 rfl) ?_
              refine PW.mem _ (fun w h => h.front 1 rfl) ?_
              exact PW.mid (b13, b14, (none, 0), (none, 0)) (trivial) ⟨rfl, rfl, rfl, rfl, rfl, rfl, trivial⟩ (fun w h => (h).erase 2)
          ·
            clear hf hs
            rintro _ _ ⟨b13, rfl, rfl⟩
            refine HW.run2 7 9 (by kernel_rfl) (fun a w hf hs => HW.opp 7 rfl _ (.inl rfl) rfl (Ow.call e17 rfl (C.val (fun w hs => ref16New_err n1 B d lb _ (hr2.below hs.mod.below) k2 i2 hk2 he2))) (by rintro _ _ ⟨rfl, rfl⟩ w h; exact (h).erase 0) ?_ hf hs) (fun a w hf hs => HW.opp 9 rfl _ (.inl rfl) rfl (Ow.alloc (cs := [_, _, _, _]) Try.zeroValue39 rfl) (by rintro _ _ ⟨b14, rfl, rfl⟩ w h; exact ((h).erase 0).erase 0) ?_ hf hs)
            ·
              clear hf hs
              rintro _ _ ⟨rfl, rfl⟩
              refine HW.run 9 rfl (by kernel_rfl) _ (.inl rfl) rfl (Ow.alloc (cs := [_, _, _, _]) Try.zeroValue39 rfl) (by rintro _ _ ⟨b14, rfl, rfl⟩ w h; exact ((h).erase 0).erase 0) ?_
              rintro _ _ ⟨b14, rfl, rfl⟩
              refine HW.run 10 rfl (by kernel_rfl) _ (.inl rfl) rfl (Ow.storeW (vs := [_, _, _, _]) 1 Try.sizeOf39 rfl rfl (rfl) rfl (rfl)) (by rintro _ _ ⟨rfl, rfl⟩ w h; exact ((h).erase 0).erase 0) ?_
              rintro _ _ ⟨rfl, rfl⟩
              refine HW.run 11 rfl (by kernel_rfl) _ (.inl rfl) rfl (Ow.storeW (vs := [_, _, _, _]) 0 Try.sizeOf39 rfl rfl (rfl) rfl (rfl)) (by rintro _ _ ⟨rfl, rfl⟩ w h; exact ((h).erase 0).erase 0) ?_
              rintro _ _ ⟨rfl, rfl⟩
              refine HW.done (by kernel_rfl) ?_
              refine PW.mem _ (fun w h => h.front 0 rfl) ?_
              refine PW.mem _ (fun w h => h.front 1 rfl) ?_
              exact PW.mid (b13, b14, (none, 0), (none, 0)) (trivial) ⟨rfl, rfl, rfl, rfl, rfl, rfl, trivial⟩ (fun w h => (h).erase 2)
            ·
              clear hf hs
              rintro _ _ ⟨b14, rfl, rfl⟩
              refine HW.run 7 rfl (by kernel_rfl) _ (.inl rfl) rfl (Ow.call e17 rfl (C.val (fun w hs => ref16New_err n1 B d lb _ (hr2.below hs.mod.below) k2 i2 hk2 he2))) (by rintro _ _ ⟨rfl, rfl⟩ w h; exact ((h).erase 0).erase 0) ?_
              rintro _ _ ⟨rfl, rfl⟩
              refine HW.run 10 rfl (by kernel_rfl) _ (.inl rfl) rfl (Ow.storeW (vs := [_, _, _, _]) 1 Try.sizeOf39 rfl rfl (rfl) rfl (rfl)) (by rintro _ _ ⟨rfl, rfl⟩ w h; exact ((h).erase 0).erase 0) ?_
              rintro _ _ ⟨rfl, rfl⟩
              refine HW.run 11 rfl (by kernel_rfl) _ (.inl rfl) rfl (Ow.storeW (vs := [_, _, _, _]) 0 Try.sizeOf39 rfl rfl (rfl) rfl (rfl)) (by rintro _ _ ⟨rfl, rfl⟩ w h; exact ((h).erase 0).erase 0) ?_
              rintro _ _ ⟨rfl, rfl⟩
              refine HW.done (by kernel_rfl) ?_
              refine PW.mem _ (fun w h => h.front 0 rfl) ?_
              refine PW.mem _ (fun w h => h.front 1 rfl) ?_
              exact PW.mid (b13, b14, (none, 0), (none, 0)) (trivial) ⟨rfl, rfl, rfl, rfl, rfl, rfl, trivial⟩ (fun w h => (h).erase 2)
          ·
            clear hf hs
            rintro _ _ ⟨b14, rfl, rfl⟩
            refine HW.run2 7 8 (by kernel_rfl) (fun a w hf hs => HW.opp 7 rfl _ (.inl rfl) rfl (Ow.call e17 rfl (C.val (fun w hs => ref16New_err n1 B d lb _ (hr2.below hs.mod.below) k2 i2 hk2 he2))) (by rintro _ _ ⟨rfl, rfl⟩ w h; exact (h).erase 0) ?_ hf hs) (fun a w hf hs => HW.opp 8 rfl _ (.inl rfl) rfl (Ow.alloc (cs := [_, _, _, _]) Try.zeroValue39 rfl) (by rintro _ _ ⟨b13, rfl, rfl⟩ w h; exact ((h).erase 0).erase 0) ?_ hf hs)
            ·
              clear hf hs
              rintro _ _ ⟨rfl, rfl⟩
              refine HW.run 8 rfl (by kernel_rfl) _ (.inl rfl) rfl (Ow.alloc (cs := [_, _, _, _]) Try.zeroValue39 rfl) (by rintro _ _ ⟨b13, rfl, rfl⟩ w h; exact ((h).erase 0).erase 0) ?_
              rintro _ _ ⟨b13, rfl, rfl⟩
              refine HW.run 10 rfl (by kernel_rfl) _ (.inl rfl) rfl (Ow.storeW (vs := [_, _, _, _]) 0 Try.sizeOf39 rfl rfl (rfl) rfl (rfl)) (by rintro _ _ ⟨rfl, rfl⟩ w h; exact ((h).erase 0).erase 0) ?_
              rintro _ _ ⟨rfl, rfl⟩
              refine HW.run 11 rfl (by kernel_rfl) _ (.inl rfl) rfl (Ow.storeW (vs := [_, _, _, _]) 1 Try.sizeOf39 rfl rfl (rfl) rfl (rfl)) (by rintro _ _ ⟨rfl, rfl⟩ w h; exact ((h).erase 0).erase 0) ?_
              rintro _ _ ⟨rfl, rfl⟩
              refine HW.done (by kernel_rfl) ?_
              refine PW.mem _ (fun w h => h.front 1 rfl) ?_
              refine PW.mem _ (fun w h => h.front 1 rfl) ?_
              exact PW.mid (b13, b14, (none, 0), (none, 0)) (trivial) ⟨rfl, rfl, rfl, rfl, rfl, rfl, trivial⟩ (fun w h => (h).erase 2)
            ·
              clear hf hs
              rintro _ _ ⟨b13, rfl, rfl⟩
              refine HW.run 7 rfl (by kernel_rfl) _ (.inl rfl) rfl (Ow.call e17 rfl (C.val (fun w hs => ref16New_err n1 B d lb _ (hr2.below hs.mod.below) k2 i2 hk2 he2))) (by rintro _ _ ⟨rfl, rfl⟩ w h; exact ((h).erase 0).erase 0) ?_
              rintro _ _ ⟨rfl, rfl⟩
              refine HW.run 10 rfl (by kernel_rfl) _ (.inl rfl) rfl (Ow.storeW (vs := [_, _, _, _]) 0 Try.sizeOf39 rfl rfl (rfl) rfl (rfl)) (by rintro _ _ ⟨rfl, rfl⟩ w h; exact ((h).erase 0).erase 0) ?_
              rintro _ _ ⟨rfl, rfl⟩
              refine HW.run 11 rfl (by kernel_rfl) _ (.inl rfl) rfl (Ow.storeW (vs := [_, _, _, _]) 1 Try.sizeOf39 rfl rfl (rfl) rfl (rfl)) (by rintro _ _ ⟨rfl, rfl⟩ w h; exact ((h).erase 0).erase 0) ?_
              rintro _ _ ⟨rfl, rfl⟩
              refine HW.done (by kernel_rfl) ?_
              refine PW.mem _ (fun w h => h.front 1 rfl) ?_
              refine PW.mem _ (fun w h => h.front 1 rfl) ?_
              exact PW.mid (b13, b14, (none, 0), (none, 0)) (trivial) ⟨rfl, rfl, rfl, rfl, rfl, rfl, trivial⟩ (fun w h => (h).erase 2)
        ·
          clear hf hs
          rintro _ _ ⟨b13, rfl, rfl⟩
          refine HW.run2 3 9 (by kernel_rfl) (fun a w hf hs => HW.opp 3 rfl _ (.inl rfl) rfl (Ow.call e17 rfl (C.val (fun w hs => ref16New_err n0 A c la _ (hr1.below hs.mod.below) k1 i1 hk1 he1))) (by rintro _ _ ⟨rfl, rfl⟩ w h; exact (h).erase 0) ?_ hf hs) (fun a w hf hs => HW.opp 9 rfl _ (.inl rfl) rfl (Ow.alloc (cs := [_, _, _, _]) Try.zeroValue39 rfl) (by rintro _ _ ⟨b14, rfl, rfl⟩ w h; exact ((h).erase 0).erase 0) ?_ hf hs)
          ·
            clear hf hs
            rintro _ _ ⟨rfl, rfl⟩
            refine HW.run2 7 9 (by kernel_rfl) (fun a w hf hs => HW.opp 7 rfl _ (.inl rfl) rfl (Ow.call e17 rfl (C.val (fun w hs => ref16New_err n1 B d lb _ (hr2.below hs.mod.below) k2 i2 hk2 he2))) (by rintro _ _ ⟨rfl, rfl⟩ w h; exact (h).erase 0) ?_ hf hs) (fun a w hf hs => HW.opp 9 rfl _ (.inl rfl) rfl (Ow.alloc (cs := [_, _, _, _]) Try.zeroValue39 rfl) (by rintro _ _ ⟨b14, rfl, rfl⟩ w h; exact ((h).erase 0).erase 0) ?_ hf hs)
            ·
              clear hf hs
              rintro _ _ ⟨rfl, rfl⟩
              refine HW.run 9 rfl (by kernel_rfl) _ (.inl rfl) rfl (Ow.alloc (cs := [_, _, _, _]) Try.zeroValue39 rfl) (by rintro _ _ ⟨b14, rfl, rfl⟩ w h; exact ((h).erase 0).erase 0) ?_
              rintro _ _ ⟨b14, rfl, rfl⟩
              refine HW.run 10 rfl (by kernel_rfl) _ (.inl rfl) rfl (Ow.storeW (vs := [_, _, _, _]) 1 Try.sizeOf39 rfl rfl (rfl) rfl (rfl)) (by rintro _ _ ⟨rfl, rfl⟩ w h; exact ((h).erase 0).erase 0) ?_
              rintro _ _ ⟨rfl, rfl⟩
              refine HW.run 11 rfl (by kernel_rfl) _ (.inl rfl) rfl (Ow.storeW (vs := [_, _, _, _]) 0 Try.sizeOf39 rfl rfl (rfl) rfl (rfl)) (by rintro _ _ ⟨rfl, rfl⟩ w h; exact ((h).erase 0).erase 0) ?_
              rintro _ _ ⟨rfl, rfl⟩
              refine HW.done (by kernel_rfl) ?_
              refine PW.mem _ (fun w h => h.front 0 rfl) ?_
              refine PW.mem _ (fun w h => h.front 1 rfl) ?_
              exact PW.mid (b13, b14, (none, 0), (none, 0)) (trivial) ⟨rfl, rfl, rfl, rfl, rfl, rfl, trivial⟩ (fun w h => (h).erase 2)
            ·
              clear hf hs
              rintro _ _ ⟨b14, rfl, rfl⟩
              refine HW.run 7 rfl (by kernel_rfl) _ (.inl rfl) rfl (Ow.call e17 rfl (C.val (fun w hs => ref16New_err n1 B d lb _ (hr2.below hs.mod.below) k2 i2 hk2 he2))) (by rintro _ _ ⟨rfl, rfl⟩ w h; exact ((h).erase 0).erase 0) ?_
              rintro _ _ ⟨rfl, rfl⟩
              refine HW.run 10 rfl (by kernel_rfl) _ (.inl rfl) rfl (Ow.storeW (vs := [_, _, _, _]) 1 Try.sizeOf39 rfl rfl (rfl) rfl (rfl)) (by rintro _ _ ⟨rfl, rfl⟩ w h; exact ((h).erase 0).erase 0) ?_
              rintro _ _ ⟨rfl, rfl⟩
              refine HW.run 11 rfl (by kernel_rfl) _ (.inl rfl) rfl (Ow.storeW (vs := [_, _, _, _]) 0 Try.sizeOf39 rfl rfl (rfl) rfl (rfl)) (by rintro _ _ ⟨rfl, rfl⟩ w h; exact ((h).erase 0).erase 0) ?_
              rintro _ _ ⟨rfl, rfl⟩
              refine HW.done (by kernel_rfl) ?_
              refine PW.mem _ (fun w h => h.front 0 rfl) ?_
              refine PW.mem _ (fun w h => h.front 1 rfl) ?_
              exact PW.mid (b13, b14, (none, 0), (none, 0)) (trivial) ⟨rfl, rfl, rfl, rfl, rfl, rfl, trivial⟩ (fun w h => (h).erase 2)
          ·
            clear hf hs
            rintro _ _ ⟨b14, rfl, rfl⟩
            refine HW.run 3 rfl (by kernel_rfl) _ (.inl rfl) rfl (Ow.call e17 rfl (C.val (fun w hs => ref16New_err n0 A c la _ (hr1.below hs.mod.below) k1 i1 hk1 he1))) (by rintro _ _ ⟨rfl, rfl⟩ w h; exact ((h).erase 0).erase 0) ?_
            rintro _ _ ⟨rfl, rfl⟩
            refine HW.run 7 rfl (by kernel_rfl) _ (.inl rfl) rfl (Ow.call e17 rfl (C.val (fun w hs => ref16New_err n1 B d lb _ (hr2.below hs.mod.below) k2 i2 hk2 he2))) (by rintro _ _ ⟨rfl, rfl⟩ w h; exact ((h).erase 0).erase 0) ?_
            rintro _ _ ⟨rfl, rfl⟩
            refine HW.run 10 rfl (by kernel_rfl) _ (.inl rfl) rfl (Ow.storeW (vs := [_, _, _, _]) 1 Try.sizeOf39 rfl rfl (rfl) rfl (rfl)) (by rintro _ _ ⟨rfl, rfl⟩ w h; exact ((h).erase 0).erase 0) ?_
            rintro _ _ ⟨rfl, rfl⟩
            refine HW.run 11 rfl (by kernel_rfl) _ (.inl rfl) rfl (Ow.storeW (vs := [_, _, _, _]) 0 Try.sizeOf39 rfl rfl (rfl) rfl (rfl)) (by rintro _ _ ⟨rfl, rfl⟩ w h; exact ((h).erase 0).erase 0) ?_
            rintro _ _ ⟨rfl, rfl⟩
            refine HW.done (by kernel_rfl) ?_
            refine PW.mem _ (fun w h => h.front 0 rfl) ?_
            refine PW.mem _ (fun w h => h.front 1 rfl) ?_
            exact PW.mid (b13, b14, (none, 0), (none, 0)) (trivial) ⟨rfl, rfl, rfl, rfl, rfl, rfl, trivial⟩ (fun w h => (h).erase 2)
        ·
          clear hf hs
          rintro _ _ ⟨b14, rfl, rfl⟩
          refine HW.run2 3 8 (by kernel_rfl) (fun a w hf hs => HW.opp 3 rfl _ (.inl rfl) rfl (Ow.call e17 rfl (C.val (fun w hs => ref16New_err n0 A c la _ (hr1.below hs.mod.below) k1 i1 hk1 he1))) (by rintro _ _ ⟨rfl, rfl⟩ w h; exact (h).erase 0) ?_ hf hs) (fun a w hf hs => HW.opp 8 rfl _ (.inl rfl) rfl (Ow.alloc (cs := [_, _, _, _]) Try.zeroValue39 rfl) (by rintro _ _ ⟨b13, rfl, rfl⟩ w h; exact ((h).erase 0).erase 0) ?_ hf hs)
          ·
            clear hf hs
            rintro _ _ ⟨rfl, rfl⟩
            refine HW.run2 7 8 (by kernel_rfl) (fun a w hf hs => HW.opp 7 rfl _ (.inl rfl) rfl (Ow.call e17 rfl (C.val (fun w hs => ref16New_err n1 B d lb _ (hr2.below hs.mod.below) k2 i2 hk2 he2))) (by rintro _ _ ⟨rfl, rfl⟩ w h; exact (h).erase 0) ?_ hf hs) (fun a w hf hs => HW.opp 8 rfl _ (.inl rfl) rfl (Ow.alloc (cs := [_, _, _, _]) Try.zeroValue39 rfl) (by rintro _ _ ⟨b13, rfl, rfl⟩ w h; exact ((h).erase 0).erase 0) ?_ hf hs)
            ·
              clear hf hs
              rintro _ _ ⟨rfl, rfl⟩
              refine HW.run 8 rfl (by kernel_rfl) _ (.inl rfl) rfl (Ow.alloc (cs := [_, _, _, _]) Try.zeroValue39 rfl) (by rintro _ _ ⟨b13, rfl, rfl⟩ w h; exact ((h).erase 0).erase 0) ?_
              rintro _ _ ⟨b13, rfl, rfl⟩
              refine HW.run 10 rfl (by kernel_rfl) _ (.inl rfl) rfl (Ow.storeW (vs := [_, _, _, _]) 0 Try.sizeOf39 rfl rfl (rfl) rfl (rfl)) (by rintro _ _ ⟨rfl, rfl⟩ w h; exact ((h).erase 0).erase 0) ?_
              rintro _ _ ⟨rfl, rfl⟩
              refine HW.run 11 rfl (by kernel_rfl) _ (.inl rfl) rfl (Ow.storeW (vs := [_, _, _, _]) 1 Try.sizeOf39 rfl rfl (rfl) rfl (rfl)) (by rintro _ _ ⟨rfl, rfl⟩ w h; exact ((h).erase 0).erase 0) ?_
              rintro _ _ ⟨rfl, rfl⟩
              refine HW.done (by kernel_rfl) ?_
              refine PW.mem _ (fun w h => h.front 1 rfl) ?_
              refine PW.mem _ (fun w h => h.front 1 rfl) ?_
              exact PW.mid (b13, b14, (none, 0), (none, 0)) (trivial) ⟨rfl, rfl, rfl, rfl, rfl, rfl, trivial⟩ (fun w h => (h).erase 2)
            ·
              clear hf hs
              rintro _ _ ⟨b13, rfl, rfl⟩
              refine HW.run 7 rfl (by kernel_rfl) _ (.inl rfl) rfl (Ow.call e17 rfl (C.val (fun w hs => ref16New_err n1 B d lb _ (hr2.below hs.mod.below) k2 i2 hk2 he2))) (by rintro _ _ ⟨rfl, rfl⟩ w h; exact ((h).erase 0).erase 0) ?_
              rintro _ _ ⟨rfl, rfl⟩
              refine HW.run 10 rfl (by kernel_rfl) _ (.inl rfl) rfl (Ow.storeW (vs := [_, _, _, _]) 0 Try.sizeOf39 rfl rfl (rfl) rfl (rfl)) (by rintro _ _ ⟨rfl, rfl⟩ w h; exact ((h).erase 0).erase 0) ?_
              rintro _ _ ⟨rfl, rfl⟩
              refine HW.run 11 rfl (by kernel_rfl) _ (.inl rfl) rfl (Ow.storeW (vs := [_, _, _, _]) 1 Try.sizeOf39 rfl rfl (rfl) rfl (rfl)) (by rintro _ _ ⟨rfl, rfl⟩ w h; exact ((h).erase 0).erase 0) ?_
              rintro _ _ ⟨rfl, rfl⟩
              refine HW.done (by kernel_rfl) ?_
              refine PW.mem _ (fun w h => h.front 1 rfl) ?_
              refine PW.mem _ (fun w h => h.front 1 rfl) ?_
              exact PW.mid (b13, b14, (none, 0), (none, 0)) (trivial) ⟨rfl, rfl, rfl, rfl, rfl, rfl, trivial⟩ (fun w h => (h).erase 2)
          ·
            clear hf hs
            rintro _ _ ⟨b13, rfl, rfl⟩
            refine HW.run 3 rfl (by kernel_rfl) _ (.inl rfl) rfl (Ow.call e17 rfl (C.val (fun w hs => ref16New_err n0 A c la _ (hr1.below hs.mod.below) k1 i1 hk1 he1))) (by rintro _ _ ⟨rfl, rfl⟩ w h; exact ((h).erase 0).erase 0) ?_
            rintro _ _ ⟨rfl, rfl⟩
            refine HW.run 7 rfl (by kernel_rfl) _ (.inl rfl) rfl (Ow.call e17 rfl (C.val (fun w hs => ref16New_err n1 B d lb _ (hr2.below hs.mod.below) k2 i2 hk2 he2))) (by rintro _ _ ⟨rfl, rfl⟩ w h; exact ((h).erase 0).erase 0) ?_
            rintro _ _ ⟨rfl, rfl⟩
            refine HW.run 10 rfl (by kernel_rfl) _ (.inl rfl) rfl (Ow.storeW (vs := [_, _, _, _]) 0 Try.sizeOf39 rfl rfl (rfl) rfl (rfl)) (by rintro _ _ ⟨rfl, rfl⟩ w h; exact ((h).erase 0).erase 0) ?_
            rintro _ _ ⟨rfl, rfl⟩
            refine HW.run 11 rfl (by kernel_rfl) _ (.inl rfl) rfl (Ow.storeW (vs := [_, _, _, _]) 1 Try.sizeOf39 rfl rfl (rfl) rfl (rfl)) (by rintro _ _ ⟨rfl, rfl⟩ w h; exact ((h).erase 0).erase 0) ?_
            rintro _ _ ⟨rfl, rfl⟩
            refine HW.done (by kernel_rfl) ?_
            refine PW.mem _ (fun w h => h.front 1 rfl) ?_
            refine PW.mem _ (fun w h => h.front 1 rfl) ?_
            exact PW.mid (b13, b14, (none, 0), (none, 0)) (trivial) ⟨rfl, rfl, rfl, rfl, rfl, rfl, trivial⟩ (fun w h => (h).erase 2)
      · intro ⟨b13, b14, ⟨Am1, cm1⟩, ⟨Am2, cm2⟩⟩ _
        (try dsimp only)
        refine CW.seq ?_
        refine CW.region ?_
        refine RW.y (.inl rfl) rfl (Yv.assign rfl) ?_
        refine RW.nil ?_
        refine PW.go ?_
        refine CW.seq ?_
        refine CW.region ?_
        refine RW.y (.inl rfl) rfl (Yv.move rfl) ?_
        refine RW.o _ (.inl rfl) rfl (Ow.call e29 rfl (C.val (fun w hs => netEdge_nil 0 _))) ?_
        rintro _ _ ⟨rfl, rfl⟩
        refine RW.y (.inl rfl) rfl (Yv.move rfl) ?_
        refine RW.y (.inl rfl) rfl (Yv.extract rfl rfl) ?_
        refine RW.y (.inl rfl) rfl (Yv.extract rfl rfl) ?_
        refine RW.o _ (.inl rfl) rfl (Ow.alloc (cs := [_, _, _]) Try.zeroValue48 rfl) ?_
        rintro _ _ ⟨b16, rfl, rfl⟩
        refine RW.o _ (.inl rfl) rfl (Ow.storeW (vs := [_, _, _]) 0 Try.sizeOf48 rfl rfl (rfl) rfl (rfl)) ?_
        rintro _ _ ⟨rfl, rfl⟩
        refine RW.y (.inl rfl) rfl (Yv.assign rfl) ?_
        refine RW.nil ?_
        refine PW.go ?_
        refine CW.seq ?_
        refine CW.seq ?_
        refine CW.region ?_
        refine RW.y (.inl rfl) rfl (Yv.move rfl) ?_
        refine RW.o _ (.inl rfl) rfl (Ow.call e30 rfl (C.val (fun w hs => netN_nil _))) ?_
        rintro _ _ ⟨rfl, rfl⟩
        refine RW.y (.inl rfl) rfl (Yv.ne rfl rfl) ?_
        refine RW.y (.inl rfl) rfl (Yv.move rfl) ?_
        refine RW.isF 60 rfl (by simp) ?_
        refine RW.y (.inr ⟨_, _, 60, rfl, rfl, rfl⟩) rfl (Yv.move rfl) ?_
        refine RW.o _ (.inr ⟨_, _, 60, rfl, rfl, rfl⟩) rfl (Ow.call e27 rfl (C.val (fun w hs => netM_nil _))) ?_
        rintro _ _ ⟨rfl, rfl⟩
        refine RW.y (.inr ⟨_, _, 60, rfl, rfl, rfl⟩) rfl (Yv.ne rfl rfl) ?_
        refine RW.y (.inl rfl) rfl (Yv.pickF rfl rfl) ?_
        refine RW.y (.inl rfl) rfl (Yv.move rfl) ?_
        refine RW.isF 65 rfl (by simp) ?_
        refine RW.y (.inr ⟨_, _, 65, rfl, rfl, rfl⟩) rfl (Yv.move rfl) ?_
        refine RW.o _ (.inr ⟨_, _, 65, rfl, rfl, rfl⟩) rfl (Ow.call e31 rfl (C.val (fun w hs => netEdges_nil _))) ?_
        rintro _ _ ⟨rfl, rfl⟩
        refine RW.y (.inr ⟨_, _, 65, rfl, rfl, rfl⟩) rfl (Yv.len Try.underlying22 rfl) ?_
        refine RW.y (.inr ⟨_, _, 65, rfl, rfl, rfl⟩) rfl (Yv.ne rfl rfl) ?_
        refine RW.y (.inl rfl) rfl (Yv.pickF rfl rfl) ?_
        refine RW.y (.inl rfl) rfl (Yv.move rfl) ?_
        refine RW.isF 71 rfl (by simp) ?_
        refine RW.y (.inr ⟨_, _, 71, rfl, rfl, rfl⟩) rfl (Yv.move rfl) ?_
        refine RW.y (.inl rfl) rfl (Yv.pickF rfl rfl) ?_
        refine RW.y (.inl rfl) rfl (Yv.move rfl) ?_
        refine RW.isB (c := false) 74 rfl (rfl) ?_
        refine RW.y (.inr ⟨_, _, 74, rfl, rfl, rfl⟩) rfl (Yv.move rfl) ?_
        refine RW.o _ (.inr ⟨_, _, 74, rfl, rfl, rfl⟩) rfl (Ow.call e32 rfl (C.val (fun w hs => netWeight_nil 0 1 _))) ?_
        rintro _ _ ⟨rfl, rfl⟩
        refine RW.y (.inr ⟨_, _, 74, rfl, rfl, rfl⟩) rfl (Yv.ne rfl rfl) ?_
        refine RW.y (.inl rfl) rfl (Yv.pickF rfl rfl) ?_
        refine RW.y (.inl rfl) rfl (Yv.move rfl) ?_
        refine RW.isF 79 rfl (by simp) ?_
        refine RW.y (.inr ⟨_, _, 79, rfl, rfl, rfl⟩) rfl (Yv.move rfl) ?_
        refine RW.o _ (.inr ⟨_, _, 79, rfl, rfl, rfl⟩) rfl (Ow.call e33 rfl (C.val (fun w hs => netDegree_nil 0 _))) ?_
        rintro _ _ ⟨rfl, rfl⟩
        refine RW.y (.inr ⟨_, _, 79, rfl, rfl, rfl⟩) rfl (Yv.ne rfl rfl) ?_
        refine RW.y (.inl rfl) rfl (Yv.pickF rfl rfl) ?_
        refine RW.y (.inl rfl) rfl (Yv.move rfl) ?_
        refine RW.isF 84 rfl (by simp) ?_
        refine RW.y (.inr ⟨_, _, 84, rfl, rfl, rfl⟩) rfl (Yv.move rfl) ?_
        refine RW.o _ (.inr ⟨_, _, 84, rfl, rfl, rfl⟩) rfl (Ow.call e34 rfl (C.val (fun w hs => netNear_nil 0 _))) ?_
        rintro _ _ ⟨rfl, rfl⟩
        refine RW.y (.inr ⟨_, _, 84, rfl, rfl, rfl⟩) rfl (Yv.len Try.underlying32 rfl) ?_
        refine RW.y (.inr ⟨_, _, 84, rfl, rfl, rfl⟩) rfl (Yv.ne rfl rfl) ?_
        refine RW.y (.inl rfl) rfl (Yv.pickF rfl rfl) ?_
        refine RW.y (.inl rfl) rfl (Yv.move rfl) ?_
        refine RW.isF 90 rfl (by simp) ?_
        refine RW.y (.inr ⟨_, _, 90, rfl, rfl, rfl⟩) rfl (Yv.move rfl) ?_
        refine RW.o _ (.inr ⟨_, _, 90, rfl, rfl, rfl⟩) rfl (Ow.call e35 rfl (C.val (fun w hs => netTotal_nil _))) ?_
        rintro _ _ ⟨rfl, rfl⟩
        refine RW.y (.inr ⟨_, _, 90, rfl, rfl, rfl⟩) rfl (Yv.ne rfl rfl) ?_
        refine RW.y (.inl rfl) rfl (Yv.pickF rfl rfl) ?_
        refine RW.y (.inl rfl) rfl (Yv.move rfl) ?_
        refine RW.isF 95 rfl (by simp) ?_
        refine RW.y (.inr ⟨_, _, 95, rfl, rfl, rfl⟩) rfl (Yv.move rfl) ?_
        refine RW.o _ (.inr ⟨_, _, 95, rfl, rfl, rfl⟩) rfl (Ow.call e36 rfl (C.val (fun w hs => netSame_nil _))) ?_
        rintro _ _ ⟨rfl, rfl⟩
        refine RW.y (.inr ⟨_, _, 95, rfl, rfl, rfl⟩) rfl (Yv.not rfl) ?_
        refine RW.y (.inl rfl) rfl (Yv.pickF rfl rfl) ?_
        refine RW.nil ?_
        refine PW.go ?_
        refine CW.cond rfl (fun hc99 => ?_) (fun hc99 => ?_)
        ·
          cases hc99
        ·
          refine CW.skip ?_
          refine PW.go ?_
          refine CW.seq ?_
          refine CW.seq ?_
          refine CW.region ?_
          refine RW.y (.inl rfl) rfl (Yv.move rfl) ?_
          refine RW.y (.inl rfl) rfl (Yv.ne rfl rfl) ?_
          refine RW.y (.inl rfl) rfl (Yv.move rfl) ?_
          refine RW.isT 102 rfl (hk1) ?_
          refine RW.no ⟨_, _, 102, _, rfl, rfl, rfl, fun h => by simp [undef] at h⟩ rfl ?_
          refine RW.no ⟨_, _, 102, _, rfl, rfl, rfl, fun h => by simp [undef] at h⟩ rfl ?_
          refine RW.y (.inl rfl) rfl (Yv.pickT rfl rfl) ?_
          refine RW.nil ?_
          refine PW.go ?_
          refine CW.condT rfl ?_
          refine CW.seq ?_
          refine CW.region ?_
          refine RW.y (.inl rfl) rfl (Yv.move rfl) ?_
          refine RW.y (.inl rfl) rfl (Yv.move rfl) ?_
          refine RW.o _ (.inl rfl) rfl (Ow.call e36 rfl (C.val (fun w hs => netSame_nil _))) ?_
          rintro _ _ ⟨rfl, rfl⟩
          refine RW.y (.inl rfl) rfl (Yv.move rfl) ?_
          refine RW.y (.inl rfl) rfl (Yv.ne rfl rfl) ?_
          refine RW.y (.inl rfl) rfl (Yv.move rfl) ?_
          refine RW.isT 111 rfl (hk1) ?_
          refine RW.y (.inr ⟨_, _, 111, rfl, rfl, rfl⟩) rfl (Yv.move rfl) ?_
          refine RW.y (.inr ⟨_, _, 111, rfl, rfl, rfl⟩) rfl (Yv.ne rfl rfl) ?_
          refine RW.y (.inl rfl) rfl (Yv.pickT rfl rfl) ?_
          refine RW.y (.inl rfl) rfl (Yv.boolEq Try.underlying4 rfl rfl) ?_
          refine RW.y (.inl rfl) rfl (Yv.move rfl) ?_
          refine RW.isB (c := true) 116 rfl (by simp [hk2]) ?_
          refine RW.o _ (.inr ⟨_, _, 116, rfl, rfl, rfl⟩) rfl (Ow.call e28 rfl (C.val (fun w hs => awake16 _))) ?_
          rintro _ _ ⟨rfl, rfl⟩
          refine RW.y (.inl rfl) rfl (Yv.pickT rfl rfl) ?_
          refine RW.y (.inl rfl) rfl (Yv.assign rfl) ?_
          refine RW.nil ?_
          refine PW.go ?_
          refine CW.ret ?_
          refine PW.then_ret ?_
          refine PW.ret1 Try.results5 rfl (fun w1 hs => ?_)
          exact ⟨rfl, hs.mod.below⟩

set_option maxRecDepth 100000 in
theorem netSameLaw_long (n0 n1 : Int) (A B : Option Addr) (c d na nb : Nat) (w : World) (h : 100 < na ∨ 100 < nb) : Calls Try.prog 5 #[.agg #[.int .i64 n0, .int .i64 n1], .slice A na c, .slice B nb d] w fun e w1 => e = .returned (.bool true) ∧ Gr w w1 := by
  refine CW.enter (P := Try.prog) (F0 := none0) (L := [(0, _), (1, _), (2, _)]) 148 [] Try.func5 rfl Try.ntmps5 (Nat.le_of_ble_eq_true rfl) (St.start w none0) rfl ?_
  refine CW.seq ?_
  refine CW.region ?_
  refine RW.o _ (.inl rfl) rfl (Ow.box (cs := [_, _]) rfl rfl) ?_
  rintro _ _ ⟨b3, rfl, rfl⟩
  refine RW.y (.inl rfl) rfl (Yv.assign rfl) ?_
  refine RW.nil ?_
  refine PW.go ?_
  refine CW.seq ?_
  refine CW.seq ?_
  refine CW.region ?_
  refine RW.y (.inl rfl) rfl (Yv.move rfl) ?_
  refine RW.y (.inl rfl) rfl (Yv.len Try.underlying22 rfl) ?_
  refine RW.y (.inl rfl) rfl (Yv.gt rfl rfl) ?_
  refine RW.y (.inl rfl) rfl (Yv.move rfl) ?_
  refine RW.splitD 22 rfl (fun hc22 => ?_) (fun hc22 => ?_)
  ·
    refine RW.no ⟨_, _, 22, _, rfl, rfl, rfl, fun h => by simp [undef] at h⟩ rfl ?_
    refine RW.no ⟨_, _, 22, _, rfl, rfl, rfl, fun h => by simp [undef] at h⟩ rfl ?_
    refine RW.no ⟨_, _, 22, _, rfl, rfl, rfl, fun h => by simp [undef] at h⟩ rfl ?_
    refine RW.y (.inl rfl) rfl (Yv.pickT rfl rfl) ?_
    refine RW.nil ?_
    refine PW.go ?_
    refine CW.condT rfl ?_
    refine CW.seq ?_
    refine CW.region ?_
    refine RW.o _ (.inl rfl) rfl (Ow.call e28 rfl (C.val (fun w hs => awake16 _))) ?_
    rintro _ _ ⟨rfl, rfl⟩
    refine RW.y (.inl rfl) rfl (Yv.assign rfl) ?_
    refine RW.nil ?_
    refine PW.go ?_
    refine CW.ret ?_
    refine PW.then_ret ?_
    refine PW.ret1 Try.results5 rfl (fun w1 hs => ?_)
    exact ⟨rfl, hs.mod.below⟩
  ·
    refine RW.y (.inr ⟨_, _, 22, rfl, rfl, rfl⟩) rfl (Yv.move rfl) ?_
    refine RW.y (.inr ⟨_, _, 22, rfl, rfl, rfl⟩) rfl (Yv.len Try.underlying22 rfl) ?_
    refine RW.y (.inr ⟨_, _, 22, rfl, rfl, rfl⟩) rfl (Yv.gt rfl rfl) ?_
    refine RW.y (.inl rfl) rfl (Yv.pickF rfl rfl) ?_
    refine RW.nil ?_
    refine PW.go ?_
    refine CW.condD rfl (fun hc26 => ?_) (fun hc26 => ?_)
    ·
      refine CW.seq ?_
      refine CW.region ?_
      refine RW.o _ (.inl rfl) rfl (Ow.call e28 rfl (C.val (fun w hs => awake16 _))) ?_
      rintro _ _ ⟨rfl, rfl⟩
      refine RW.y (.inl rfl) rfl (Yv.assign rfl) ?_
      refine RW.nil ?_
      refine PW.go ?_
      refine CW.ret ?_
      refine PW.then_ret ?_
      refine PW.ret1 Try.results5 rfl (fun w1 hs => ?_)
      exact ⟨rfl, hs.mod.below⟩
    ·
      omega

theorem netSameLaw (n0 n1 : Int) (A B : Option Addr) (c d : Nat) (la lb : List Edg) (w : World) (hr1 : la.length ≤ 4611686018427387904 → Rd w A 3 la.length (cellsE la)) (hr2 : lb.length ≤ 4611686018427387904 → Rd w B 3 lb.length (cellsE lb)) :
    Calls Try.prog 5 #[.agg #[.int .i64 n0, .int .i64 n1], .slice A la.length c, .slice B lb.length d] w fun e w1 => e = .returned (.bool true) ∧ Gr w w1 := by
  by_cases hl : 100 < la.length ∨ 100 < lb.length
  · exact netSameLaw_long n0 n1 A B c d la.length lb.length w hl
  · have r1 := hr1 (by omega)
    have r2 := hr2 (by omega)
    obtain ⟨k1, i1, h1⟩ := newE_total n0 la
    obtain ⟨k2, i2, h2⟩ := newE_total n1 lb
    by_cases z1 : k1 = 0
    · subst z1
      by_cases z2 : k2 = 0
      · subst z2; exact netSameLaw_oo n0 n1 A B c d la lb w r1 r2 (newE_ok h1).1 (newE_ok h2).1
      · exact netSameLaw_oe n0 n1 A B c d la lb w r1 r2 (newE_ok h1).1 k2 i2 z2 h2
    · by_cases z2 : k2 = 0
      · subst z2; exact netSameLaw_eo n0 n1 A B c d la lb w r1 r2 k1 i1 z1 h1 (newE_ok h2).1
      · exact netSameLaw_ee n0 n1 A B c d la lb w r1 r2 k1 i1 z1 h1 k2 i2 z2 h2

end Go.Proofs.Ytpkjbbhkkhpafaa
