/- Walks, written by a program of this session (gen.py) out of a spec. -/
import Derived.Test.YtipoblpnkkcpgaaNet3
import Derived.Test.YtipoblpnkkcpgaaRef0
set_option linter.unusedVariables false
set_option linter.unusedSimpArgs false
namespace Go.Proofs.Ytipoblpnkkcpgaa
open Go Go.RowKit Go.Proofs.Ytipoblpnkkcpgaa.B

def cmp2 (a b : Edg) : Int := orOf [cmpI a.u b.u, cmpI a.v b.v]
theorem cmp2_lt (a b : Edg) : cmp2 a b < 0 ↔ keyLt a b := by
  unfold cmp2 cmpI keyLt
  rcases Int.lt_trichotomy a.u b.u with h1 | h1 | h1 <;> rcases Int.lt_trichotomy a.v b.v with h2 | h2 | h2 <;>
    simp [orOf, h1, h2, Int.lt_asymm, Int.lt_irrefl] <;> omega
theorem cmp2_eq (a b : Edg) : cmp2 a b = 0 ↔ keyEq a b := by
  unfold cmp2 cmpI keyEq
  rcases Int.lt_trichotomy a.u b.u with h1 | h1 | h1 <;> rcases Int.lt_trichotomy a.v b.v with h2 | h2 | h2 <;>
    simp [orOf, h1, h2, Int.lt_asymm, Int.lt_irrefl] <;> omega
def BsOk (cf : Edg → Int) (l : List Edg) (i j : Nat) : Prop := i ≤ j ∧ j ≤ l.length ∧ (∀ k x, k < i → l[k]? = some x → cf x < 0) ∧ (∀ k x, j ≤ k → l[k]? = some x → ¬ cf x < 0)

set_option maxRecDepth 100000 in
theorem netWeight1 (x y : Edg) (w : World) : Calls Try.prog 77 #[aggE x, aggE y] w fun e w1 => e = .returned (.int .i64 (cmp2 x y)) ∧ Gr w w1 := by
  unfold aggE
  refine CW.enter (P := Try.prog) (F0 := none0) (L := [(0, _), (1, _)]) 17 [] Try.func77 rfl Try.ntmps77 (Nat.le_of_ble_eq_true rfl) (St.start w none0) rfl ?_
  refine CW.seq ?_
  refine CW.region ?_
  refine RW.o _ (.inl rfl) rfl (Ow.box (cs := [_, _, _]) rfl rfl) ?_
  rintro _ _ ⟨b2, rfl, rfl⟩
  refine RW.o _ (.inl rfl) rfl (Ow.box (cs := [_, _, _]) rfl rfl) ?_
  rintro _ _ ⟨b3, rfl, rfl⟩
  refine RW.y (.inl rfl) rfl (Yv.assign rfl) ?_
  refine RW.nil ?_
  refine PW.go ?_
  refine CW.seq ?_
  refine CW.draw0 mixed ?_
  refine HW.take 0 rfl (by kernel_rfl) (by kernel_rfl) (by kernel_rfl) (fun _ _ _ h => h) (.inl rfl) rfl (fun _ h => h) (Yv.fieldAddr Try.underlying72 rfl Try.sizeOf3 rfl rfl) ?_
  refine HW.take 1 rfl (by kernel_rfl) (by kernel_rfl) (by kernel_rfl) (fun _ _ _ h => h) (.inl rfl) rfl (fun _ h => h) (Yv.load1 Try.isAgg3 rfl (CF.blk 1 rfl rfl)) ?_
  refine HW.take 2 rfl (by kernel_rfl) (by kernel_rfl) (by kernel_rfl) (fun _ _ _ h => h) (.inl rfl) rfl (fun _ h => h) (Yv.fieldAddr Try.underlying72 rfl Try.sizeOf3 rfl rfl) ?_
  refine HW.take 3 rfl (by kernel_rfl) (by kernel_rfl) (by kernel_rfl) (fun _ _ _ h => h) (.inl rfl) rfl (fun _ h => h) (Yv.load1 Try.isAgg3 rfl (CF.blk 0 rfl rfl)) ?_
  refine HW.take 5 rfl (by kernel_rfl) (by kernel_rfl) (by kernel_rfl) (fun _ _ _ h => h) (.inl rfl) rfl (fun _ h => h) (Yv.fieldAddr Try.underlying72 rfl Try.sizeOf3 rfl rfl) ?_
  refine HW.take 6 rfl (by kernel_rfl) (by kernel_rfl) (by kernel_rfl) (fun _ _ _ h => h) (.inl rfl) rfl (fun _ h => h) (Yv.load1 Try.isAgg3 rfl (CF.blk 1 rfl rfl)) ?_
  refine HW.take 7 rfl (by kernel_rfl) (by kernel_rfl) (by kernel_rfl) (fun _ _ _ h => h) (.inl rfl) rfl (fun _ h => h) (Yv.fieldAddr Try.underlying72 rfl Try.sizeOf3 rfl rfl) ?_
  refine HW.take 8 rfl (by kernel_rfl) (by kernel_rfl) (by kernel_rfl) (fun _ _ _ h => h) (.inl rfl) rfl (fun _ h => h) (Yv.load1 Try.isAgg3 rfl (CF.blk 0 rfl rfl)) ?_
  refine HW.run 4 rfl (by kernel_rfl) _ (.inl rfl) rfl (Ow.call e54 rfl (C.val (fun w hs => cmpCompare x.u y.u _))) (by rintro _ _ ⟨rfl, rfl⟩ w h; exact h) ?_
  rintro _ _ ⟨rfl, rfl⟩
  refine HW.run 9 rfl (by kernel_rfl) _ (.inl rfl) rfl (Ow.call e54 rfl (C.val (fun w hs => cmpCompare x.v y.v _))) (by rintro _ _ ⟨rfl, rfl⟩ w h; exact h) ?_
  rintro _ _ ⟨rfl, rfl⟩
  refine HW.run 10 rfl (by kernel_rfl) _ (.inl rfl) rfl (Ow.lit (len := 2) (vs := [_, _]) (cs := [_, _]) Try.underlying32 info3 rfl rfl rfl rfl rfl rfl rfl) (by rintro _ _ ⟨b15, rfl, rfl⟩ w h; exact (h).erase 0) ?_
  rintro _ _ ⟨b15, rfl, rfl⟩
  refine HW.run 11 rfl (by kernel_rfl) _ (.inl rfl) rfl (Ow.call e78 rfl (C.val (fun w hs => cmpOr _ _ [cmpI x.u y.u, cmpI x.v y.v] _ (hs.blk_Rd 0 rfl rfl (Nat.le_of_ble_eq_true rfl))))) (by rintro _ _ ⟨rfl, rfl⟩ w h; exact (h).erase 0) ?_
  rintro _ _ ⟨rfl, rfl⟩
  refine HW.take 12 rfl (by kernel_rfl) (by kernel_rfl) (by kernel_rfl) (fun _ _ _ h => h) (.inl rfl) rfl (fun _ h => (h).erase 0) (Yv.assign rfl) ?_
  refine HW.done (by kernel_rfl) ?_
  refine PW.go ?_
  refine CW.ret ?_
  refine PW.ret1 Try.results77 rfl (fun w1 hs => ?_)
  exact ⟨rfl, hs.mod.below⟩

set_option maxRecDepth 100000 in
theorem binSearchE (g : Nat) (cf : Edg → Edg → Int) (he : Enters Try.prog g) (hp : ∀ x y w, Calls Try.prog g #[aggE x, aggE y] w fun e w1 => e = .returned (.int .i64 (cf x y)) ∧ Gr w w1) (A : Option Addr) (c : Nat) (l : List Edg) (t : Edg) (w : World) (hr : Rd w A 3 l.length (cellsE l)) (hlen : l.length ≤ 1099511627776) (hm : ∀ (i j : Nat) (x y : Edg), i < j → l[i]? = some x → l[j]? = some y → cf y t < 0 → cf x t < 0) : Calls Try.prog 76 #[.slice A l.length c, aggE t, .func (.func g) #[] #[]] w fun e w1 => ∃ p : Nat × Bool, (BsOk (fun x => cf x t) l p.1 p.1 ∧ p.2 = decide (∃ x, l[p.1]? = some x ∧ cf x t = 0)) ∧ e = .returned (.tuple #[.int .i64 (p.1 : Nat), .bool p.2]) ∧ Gr w w1 := by
  unfold aggE
  refine CW.enter (P := Try.prog) (F0 := none0) (L := [(0, _), (1, _), (2, _)]) 49 [] Try.func76 rfl Try.ntmps76 (Nat.le_of_ble_eq_true rfl) (St.start w none0) rfl ?_
  refine CW.seq ?_
  refine CW.region ?_
  refine RW.o _ (.inl rfl) rfl (Ow.box (cs := [_, _, _]) rfl rfl) ?_
  rintro _ _ ⟨b4, rfl, rfl⟩
  refine RW.y (.inl rfl) rfl (Yv.assign rfl) ?_
  refine RW.y (.inl rfl) rfl (Yv.assign rfl) ?_
  refine RW.nil ?_
  refine PW.go ?_
  refine CW.seq ?_
  refine CW.region ?_
  refine RW.y (.inl rfl) rfl (Yv.move rfl) ?_
  refine RW.y (.inl rfl) rfl (Yv.len Try.underlying22 rfl) ?_
  refine RW.y (.inl rfl) rfl (Yv.assign rfl) ?_
  refine RW.nil ?_
  refine PW.go ?_
  refine CW.seq ?_
  refine CW.region ?_
  refine RW.y (.inl rfl) rfl (Yv.move rfl) ?_
  refine RW.y (.inl rfl) rfl (Yv.assign rfl) ?_
  refine RW.y (.inl rfl) rfl (Yv.assign rfl) ?_
  refine RW.nil ?_
  refine PW.go ?_
  refine CW.seq ?_
  refine CW.block ?_
  refine CW.loop (σ := Nat × Nat) (fun s => BsOk (fun x => cf x t) l s.1 s.2) (fun s => [(0, .slice A l.length c), (2, .func (.func g) #[] #[]), (4, .pointer (some ⟨b4, 0, none⟩)), (8, .int .i64 l.length), (9, .int .i64 (s.1 : Nat)), (10, .int .i64 (s.2 : Nat))]) (fun s => [blk b4 (encE t) 72]) (fun s => s.2 - s.1) (0, l.length) (⟨Nat.zero_le _, Nat.le_refl _, fun k x hk => absurd hk (Nat.not_lt_zero _), fun k x hk hx => by rw [List.getElem?_eq_none hk] at hx; cases hx⟩) ⟨rfl, rfl, rfl, rfl, rfl, rfl, trivial⟩ (fun w h => h) ?_
  rintro ⟨i, j⟩ ⟨hij, hj, hlo, hhi⟩
  (try dsimp only at *)
  refine CW.seq ?_
  refine CW.seq ?_
  refine CW.region ?_
  refine RW.y (.inl rfl) rfl (Yv.move rfl) ?_
  refine RW.y (.inl rfl) rfl (Yv.move rfl) ?_
  refine RW.y (.inl rfl) rfl (Yv.lt rfl rfl) ?_
  refine RW.nil ?_
  refine PW.go ?_
  refine CW.condD rfl (fun hc17 => ?_) (fun hc17 => ?_)
  ·
    refine CW.skip ?_
    refine PW.go ?_
    refine CW.block ?_
    refine CW.seq ?_
    refine CW.region ?_
    refine RW.y (.inl rfl) rfl (Yv.move rfl) ?_
    refine RW.y (.inl rfl) rfl (Yv.move rfl) ?_
    refine RW.y (.inl rfl) rfl (Yv.add rfl rfl (by omega)) ?_
    refine RW.y (.inl rfl) rfl (Yv.convU Try.underlying3 Try.underlying119 rfl (by omega)) ?_
    refine RW.y (.inl rfl) rfl (Yv.shrU1 rfl rfl) ?_
    refine RW.y (.inl rfl) rfl (Yv.conv64 Try.underlying119 Try.underlying3 rfl (by omega)) ?_
    refine RW.y (.inl rfl) rfl (Yv.assign rfl) ?_
    refine RW.nil ?_
    refine PW.go ?_
    refine CW.seq ?_
    have hh : ((i : Int) + (j : Int)) / 2 = (((i + j) / 2 : Nat) : Int) := by omega
    rw [hh]
    have hhl : (i + j) / 2 < l.length := by omega
    obtain ⟨b, o, rfl, hb, hcc⟩ := hr.2.2 (by omega)
    obtain ⟨x, hx⟩ : ∃ x, l[(i + j) / 2]? = some x := ⟨_, List.getElem?_eq_getElem hhl⟩
    refine CW.draw0 mixed ?_
    refine HW.take 0 rfl (by kernel_rfl) (by kernel_rfl) (by kernel_rfl) (fun _ _ _ h => h) (.inl rfl) rfl (fun _ h => h) (Yv.move rfl) ?_
    refine HW.take 1 rfl (by kernel_rfl) (by kernel_rfl) (by kernel_rfl) (fun _ _ _ h => h) (.inl rfl) rfl (fun _ h => h) (Yv.move rfl) ?_
    refine HW.take 2 rfl (by kernel_rfl) (by kernel_rfl) (by kernel_rfl) (fun _ _ _ h => h) (.inl rfl) rfl (fun _ h => h) (Yv.move rfl) ?_
    refine HW.take 3 rfl (by kernel_rfl) (by kernel_rfl) (by kernel_rfl) (fun _ _ _ h => h) (.inl rfl) rfl (fun _ h => h) (Yv.indexK Try.underlying22 Try.sizeOf72 rfl rfl (by omega) (by omega)) ?_
    refine HW.take 4 rfl (by kernel_rfl) (by kernel_rfl) (by kernel_rfl) (fun _ _ _ h => h) (.inl rfl) rfl (fun _ h => h) (Yv.loadK (vs := [_, _, _]) Try.isAgg72 Try.sizeOf72 rfl (CFs.old (vs := encE x) (fun q v hq => by rw [add_plain', Nat.add_assoc]; exact hcc _ v (cellsE_get l ((i + j) / 2) x hx q v hq)) (fun _ _ _ => not_none0 _))) ?_
    refine HW.take 5 rfl (by kernel_rfl) (by kernel_rfl) (by kernel_rfl) (fun _ _ _ h => h) (.inl rfl) rfl (fun _ h => h) (Yv.loadK (vs := [_, _, _]) Try.isAgg72 Try.sizeOf72 rfl (CFs.whole 0 rfl)) ?_
    refine HW.run 6 rfl (by kernel_rfl) _ (.inl rfl) rfl (Ow.callv he rfl rfl (C.val (fun w2 hs => hp x t w2))) (by rintro _ _ ⟨rfl, rfl⟩ w h; exact h) ?_
    rintro _ _ ⟨rfl, rfl⟩
    refine HW.take 7 rfl (by kernel_rfl) (by kernel_rfl) (by kernel_rfl) (fun _ _ _ h => h) (.inl rfl) rfl (fun _ h => h) (Yv.lt rfl rfl) ?_
    refine HW.done (by kernel_rfl) ?_
    refine PW.go ?_
    refine CW.condD rfl (fun hc31 => ?_) (fun hc31 => ?_)
    ·
      refine CW.region ?_
      refine RW.y (.inl rfl) rfl (Yv.move rfl) ?_
      refine RW.y (.inl rfl) rfl (Yv.add rfl rfl (by omega)) ?_
      refine RW.y (.inl rfl) rfl (Yv.assign rfl) ?_
      refine RW.nil ?_
      refine PW.block ?_
      exact PW.next ((i + j) / 2 + 1, j) (⟨by show (i + j) / 2 + 1 ≤ j; omega, hj, fun k y hk hy => by
            have hk' : k < (i + j) / 2 + 1 := hk
            rcases Nat.lt_or_ge k ((i + j) / 2) with h | h
            · exact hm k _ y x h hy hx (by simpa using hc31)
            · obtain rfl : k = (i + j) / 2 := by omega
              rw [hx] at hy; cases hy; simpa using hc31, hhi⟩) ⟨rfl, rfl, rfl, rfl, by show _ = some (Value.int .i64 _); rw [Int.natCast_add]; rfl, rfl, trivial⟩ (fun w h => h) (by show j - ((i + j) / 2 + 1) < j - i; omega)
    ·
      refine CW.region ?_
      refine RW.y (.inl rfl) rfl (Yv.move rfl) ?_
      refine RW.y (.inl rfl) rfl (Yv.assign rfl) ?_
      refine RW.nil ?_
      refine PW.block ?_
      exact PW.next (i, (i + j) / 2) (⟨by show i ≤ (i + j) / 2; omega, by show (i + j) / 2 ≤ l.length; omega, hlo, fun k y hk hy => by
            have hk' : (i + j) / 2 ≤ k := hk
            show ¬ cf y t < 0
            intro hlt
            rcases Nat.lt_or_ge ((i + j) / 2) k with h | h
            · exact absurd (hm _ k x y h hx hy hlt) (by simpa using hc31)
            · obtain rfl : k = (i + j) / 2 := by omega
              rw [hx] at hy; cases hy; exact absurd hlt (by simpa using hc31)⟩) ⟨rfl, rfl, rfl, rfl, rfl, rfl, trivial⟩ (fun w h => h) (by show (i + j) / 2 - i < j - i; omega)
  ·
    refine CW.exit ?_
    refine PW.then_exit ?_
    refine PW.then_exit ?_
    refine PW.block_exit ?_
    refine PW.go ?_
    refine CW.seq ?_
    obtain rfl : i = j := by omega
    refine CW.draw0 mixed ?_
    refine HW.take 0 rfl (by kernel_rfl) (by kernel_rfl) (by kernel_rfl) (fun _ _ _ h => h) (.inl rfl) rfl (fun _ h => h) (Yv.move rfl) ?_
    refine HW.take 1 rfl (by kernel_rfl) (by kernel_rfl) (by kernel_rfl) (fun _ _ _ h => h) (.inl rfl) rfl (fun _ h => h) (Yv.move rfl) ?_
    refine HW.take 2 rfl (by kernel_rfl) (by kernel_rfl) (by kernel_rfl) (fun _ _ _ h => h) (.inl rfl) rfl (fun _ h => h) (Yv.move rfl) ?_
    refine HW.take 3 rfl (by kernel_rfl) (by kernel_rfl) (by kernel_rfl) (fun _ _ _ h => h) (.inl rfl) rfl (fun _ h => h) (Yv.lt rfl rfl) ?_
    refine HW.take 4 rfl (by kernel_rfl) (by kernel_rfl) (by kernel_rfl) (fun _ _ _ h => h) (.inl rfl) rfl (fun _ h => h) (Yv.move rfl) ?_
    refine HW.splitD 39 rfl (fun hc39 => ?_) (fun hc39 => ?_)
    ·
      have hil : i < l.length := by omega
      obtain ⟨b, o, rfl, hb, hcc⟩ := hr.2.2 (by omega)
      obtain ⟨x, hx⟩ : ∃ x, l[i]? = some x := ⟨_, List.getElem?_eq_getElem hil⟩
      refine HW.take 5 rfl (by kernel_rfl) (by kernel_rfl) (by kernel_rfl) (fun _ _ _ h => h) (.inr ⟨_, _, 39, rfl, rfl, rfl⟩) rfl (fun _ h => h) (Yv.move rfl) ?_
      refine HW.take 6 rfl (by kernel_rfl) (by kernel_rfl) (by kernel_rfl) (fun _ _ _ h => h) (.inr ⟨_, _, 39, rfl, rfl, rfl⟩) rfl (fun _ h => h) (Yv.move rfl) ?_
      refine HW.take 7 rfl (by kernel_rfl) (by kernel_rfl) (by kernel_rfl) (fun _ _ _ h => h) (.inr ⟨_, _, 39, rfl, rfl, rfl⟩) rfl (fun _ h => h) (Yv.move rfl) ?_
      refine HW.take 8 rfl (by kernel_rfl) (by kernel_rfl) (by kernel_rfl) (fun _ _ _ h => h) (.inr ⟨_, _, 39, rfl, rfl, rfl⟩) rfl (fun _ h => h) (Yv.indexK Try.underlying22 Try.sizeOf72 rfl rfl (by omega) (by omega)) ?_
      refine HW.take 9 rfl (by kernel_rfl) (by kernel_rfl) (by kernel_rfl) (fun _ _ _ h => h) (.inr ⟨_, _, 39, rfl, rfl, rfl⟩) rfl (fun _ h => h) (Yv.loadK (vs := [_, _, _]) Try.isAgg72 Try.sizeOf72 rfl (CFs.old (vs := encE x) (fun q v hq => by rw [add_plain', Nat.add_assoc]; exact hcc _ v (cellsE_get l i x hx q v hq)) (fun _ _ _ => not_none0 _))) ?_
      refine HW.take 10 rfl (by kernel_rfl) (by kernel_rfl) (by kernel_rfl) (fun _ _ _ h => h) (.inr ⟨_, _, 39, rfl, rfl, rfl⟩) rfl (fun _ h => h) (Yv.loadK (vs := [_, _, _]) Try.isAgg72 Try.sizeOf72 rfl (CFs.whole 0 rfl)) ?_
      refine HW.run 11 rfl (by kernel_rfl) _ (.inr ⟨_, _, 39, rfl, rfl, rfl⟩) rfl (Ow.callv he rfl rfl (C.val (fun w2 hs => hp x t w2))) (by rintro _ _ ⟨rfl, rfl⟩ w h; exact h) ?_
      rintro _ _ ⟨rfl, rfl⟩
      refine HW.take 12 rfl (by kernel_rfl) (by kernel_rfl) (by kernel_rfl) (fun _ _ _ h => h) (.inr ⟨_, _, 39, rfl, rfl, rfl⟩) rfl (fun _ h => h) (Yv.eq rfl rfl) ?_
      refine HW.take 13 rfl (by kernel_rfl) (by kernel_rfl) (by kernel_rfl) (fun _ _ _ h => h) (.inl rfl) rfl (fun _ h => h) (Yv.pickT rfl rfl) ?_
      refine HW.take 14 rfl (by kernel_rfl) (by kernel_rfl) (by kernel_rfl) (fun _ _ _ h => h) (.inl rfl) rfl (fun _ h => h) (Yv.assign rfl) ?_
      refine HW.take 15 rfl (by kernel_rfl) (by kernel_rfl) (by kernel_rfl) (fun _ _ _ h => h) (.inl rfl) rfl (fun _ h => h) (Yv.assign rfl) ?_
      refine HW.done (by kernel_rfl) ?_
      refine PW.go ?_
      refine CW.ret ?_
      refine PW.ret2 Try.results76 rfl rfl (fun w1 hs => ?_)
      first
      | (refine ⟨(i, decide (cf x t = 0)), ⟨⟨Nat.le_refl _, hj, hlo, hhi⟩, ?_⟩, rfl, hs.mod.below⟩
         simp [hx])
      | (refine ⟨(i, false), ⟨⟨Nat.le_refl _, hj, hlo, hhi⟩, ?_⟩, rfl, hs.mod.below⟩
         simp [hil])
    ·
      have hil : l[i]? = none := List.getElem?_eq_none (by omega)
      refine HW.skip 5 rfl (by kernel_rfl) (by kernel_rfl) (by kernel_rfl) (fun _ _ _ h => h) ⟨_, _, 39, _, rfl, rfl, rfl, fun h => by simp [undef] at h⟩ rfl (fun _ h => h) ?_
      refine HW.skip 6 rfl (by kernel_rfl) (by kernel_rfl) (by kernel_rfl) (fun _ _ _ h => h) ⟨_, _, 39, _, rfl, rfl, rfl, fun h => by simp [undef] at h⟩ rfl (fun _ h => h) ?_
      refine HW.skip 7 rfl (by kernel_rfl) (by kernel_rfl) (by kernel_rfl) (fun _ _ _ h => h) ⟨_, _, 39, _, rfl, rfl, rfl, fun h => by simp [undef] at h⟩ rfl (fun _ h => h) ?_
      refine HW.skip 8 rfl (by kernel_rfl) (by kernel_rfl) (by kernel_rfl) (fun _ _ _ h => h) ⟨_, _, 39, _, rfl, rfl, rfl, fun h => by simp [undef] at h⟩ rfl (fun _ h => h) ?_
      refine HW.skip 9 rfl (by kernel_rfl) (by kernel_rfl) (by kernel_rfl) (fun _ _ _ h => h) ⟨_, _, 39, _, rfl, rfl, rfl, fun h => by simp [undef] at h⟩ rfl (fun _ h => h) ?_
      refine HW.skip 10 rfl (by kernel_rfl) (by kernel_rfl) (by kernel_rfl) (fun _ _ _ h => h) ⟨_, _, 39, _, rfl, rfl, rfl, fun h => by simp [undef] at h⟩ rfl (fun _ h => h) ?_
      refine HW.skip 11 rfl (by kernel_rfl) (by kernel_rfl) (by kernel_rfl) (fun _ _ _ h => h) ⟨_, _, 39, _, rfl, rfl, rfl, fun h => by simp [undef] at h⟩ rfl (fun _ h => h) ?_
      refine HW.skip 12 rfl (by kernel_rfl) (by kernel_rfl) (by kernel_rfl) (fun _ _ _ h => h) ⟨_, _, 39, _, rfl, rfl, rfl, fun h => by simp [undef] at h⟩ rfl (fun _ h => h) ?_
      refine HW.take 13 rfl (by kernel_rfl) (by kernel_rfl) (by kernel_rfl) (fun _ _ _ h => h) (.inl rfl) rfl (fun _ h => h) (Yv.pickF rfl rfl) ?_
      refine HW.take 14 rfl (by kernel_rfl) (by kernel_rfl) (by kernel_rfl) (fun _ _ _ h => h) (.inl rfl) rfl (fun _ h => h) (Yv.assign rfl) ?_
      refine HW.take 15 rfl (by kernel_rfl) (by kernel_rfl) (by kernel_rfl) (fun _ _ _ h => h) (.inl rfl) rfl (fun _ h => h) (Yv.assign rfl) ?_
      refine HW.done (by kernel_rfl) ?_
      refine PW.go ?_
      refine CW.ret ?_
      refine PW.ret2 Try.results76 rfl rfl (fun w1 hs => ?_)
      first
      | (refine ⟨(i, decide (cf x t = 0)), ⟨⟨Nat.le_refl _, hj, hlo, hhi⟩, ?_⟩, rfl, hs.mod.below⟩
         simp [hx])
      | (refine ⟨(i, false), ⟨⟨Nat.le_refl _, hj, hlo, hhi⟩, ?_⟩, rfl, hs.mod.below⟩
         simp [hil])

def weightOf (L : List Edg) (t : Edg) : Int := ((L.find? (fun e => decide (keyEq e t))).map (·.w)).getD 0
theorem sorted_key_inj {L : List Edg} (hs : sortedE L) {x y : Edg} (hx : x ∈ L) (hy : y ∈ L) (hk : keyEq x y) : x = y := by
  obtain ⟨i, hi, rfl⟩ := List.mem_iff_getElem.1 hx
  obtain ⟨j, hj, rfl⟩ := List.mem_iff_getElem.1 hy
  rcases Nat.lt_trichotomy i j with h | rfl | h
  · have := List.pairwise_iff_getElem.1 hs i j hi hj h; unfold keyLt keyEq at *; omega
  · rfl
  · have := List.pairwise_iff_getElem.1 hs j i hj hi h; unfold keyLt keyEq at *; omega
theorem weight_found {L : List Edg} (hs : sortedE L) {t x : Edg} {i : Nat} (hx : L[i]? = some x) (hk : keyEq x t) : weightOf L t = x.w := by
  unfold weightOf
  have hm := List.mem_of_getElem? hx
  cases h : L.find? (fun e => decide (keyEq e t)) with
  | none => have := List.find?_eq_none.1 h x hm; simp at this; exact absurd hk this
  | some y =>
    have hy := List.mem_of_find?_eq_some h
    have hp := List.find?_some h
    have : x = y := sorted_key_inj hs hm hy (by simp at hp; unfold keyEq at *; omega)
    rw [this]; rfl
theorem weight_none {L : List Edg} {t : Edg} (h : ∀ x ∈ L, ¬ keyEq x t) : weightOf L t = 0 := by
  unfold weightOf
  rw [List.find?_eq_none.2 (fun x hx => by simpa using h x hx)]; rfl
theorem bs_none {L : List Edg} (hs : sortedE L) {t : Edg} {i : Nat} (h : BsOk (fun x => cmp2 x t) L i i) (hn : ¬ ∃ x, L[i]? = some x ∧ cmp2 x t = 0) : ∀ x ∈ L, ¬ keyEq x t := by
  intro x hx hk
  obtain ⟨k, hkl, rfl⟩ := List.mem_iff_getElem.1 hx
  have hget : L[k]? = some L[k] := List.getElem?_eq_getElem hkl
  rcases Nat.lt_trichotomy k i with h1 | rfl | h1
  · have := h.2.2.1 k _ h1 hget
    have h2 := (cmp2_eq L[k] t).2 hk
    simp only [h2] at this; omega
  · exact hn ⟨_, hget, (cmp2_eq _ _).2 hk⟩
  · have hi : i < L.length := by omega
    have h3 := h.2.2.2 i _ (Nat.le_refl _) (List.getElem?_eq_getElem hi)
    have h4 := List.pairwise_iff_getElem.1 hs i k hi hkl h1
    simp only [cmp2_lt] at h3
    unfold keyLt keyEq at *; omega

set_option maxRecDepth 100000 in
theorem netWeight (b : Nat) (G : NetD) (u v : Int) (w : World) (hN : IsNet w b G) (hs : sortedE G.l) : Calls Try.prog 57 #[.pointer (some ⟨b, 0, none⟩), .int .i64 u, .int .i64 v] w fun e w1 => e = .returned (.int .i64 (weightOf G.l (normE ⟨u, v, 0⟩))) ∧ Gr w w1 := by
  have hN' := hN
  have hsort := hs
  obtain ⟨⟨An, cn, Ad, cd, Al, cl, vs, h1, h2, h3, h4, h5⟩, hn, hl⟩ := hN
  refine CW.enter (P := Try.prog) (F0 := none0) (L := [(0, _), (1, _), (2, _)]) 35 [] Try.func57 rfl Try.ntmps57 (Nat.le_of_ble_eq_true rfl) (St.start w none0) rfl ?_
  refine CW.seq ?_
  refine CW.region ?_
  refine RW.y (.inl rfl) rfl (Yv.assign rfl) ?_
  refine RW.nil ?_
  refine PW.go ?_
  refine CW.seq ?_
  refine CW.seq ?_
  refine CW.region ?_
  refine RW.y (.inl rfl) rfl (Yv.move rfl) ?_
  refine RW.y (.inl rfl) rfl (Yv.ptrNil Try.underlying25 rfl rfl) ?_
  refine RW.nil ?_
  refine PW.go ?_
  refine CW.cond rfl (fun hc11 => ?_) (fun hc11 => ?_)
  ·
    cases hc11
  ·
    refine CW.skip ?_
    refine PW.go ?_
    refine CW.seq ?_
    refine CW.region ?_
    refine RW.y (.inl rfl) rfl (Yv.move rfl) ?_
    refine RW.y (.inl rfl) rfl (Yv.move rfl) ?_
    refine RW.y (.inl rfl) rfl (Yv.build rfl (fun w => by exact bld72_0_1 _ _ w)) ?_
    refine RW.o _ (.inl rfl) rfl (Ow.call e63 rfl (C.val (fun w hs => edgeNormal ⟨u, v, 0⟩ _))) ?_
    rintro _ _ ⟨rfl, rfl⟩
    refine RW.o _ (.inl rfl) rfl (Ow.alloc (cs := [_, _, _]) Try.zeroValue72 rfl) ?_
    rintro _ _ ⟨b7, rfl, rfl⟩
    refine RW.o _ (.inl rfl) rfl (Ow.storeW (vs := [_, _, _]) 0 Try.sizeOf72 rfl rfl (rfl) rfl (rfl)) ?_
    rintro _ _ ⟨rfl, rfl⟩
    refine RW.nil ?_
    refine PW.go ?_
    refine CW.seq ?_
    refine CW.draw0 mixed ?_
    refine HW.take 0 rfl (by kernel_rfl) (by kernel_rfl) (by kernel_rfl) (fun _ _ _ h => h) (.inl rfl) rfl (fun _ h => h) (Yv.move rfl) ?_
    refine HW.take 1 rfl (by kernel_rfl) (by kernel_rfl) (by kernel_rfl) (fun _ _ _ h => h) (.inl rfl) rfl (fun _ h => h) (Yv.nilCheck rfl) ?_
    refine HW.take 2 rfl (by kernel_rfl) (by kernel_rfl) (by kernel_rfl) (fun _ _ _ h => h) (.inl rfl) rfl (fun _ h => h) (Yv.fieldAddr Try.underlying82 rfl Try.sizeOf22 rfl rfl) ?_
    refine HW.take 3 rfl (by kernel_rfl) (by kernel_rfl) (by kernel_rfl) (fun _ _ _ h => h) (.inl rfl) rfl (fun _ h => h) (Yv.load1 Try.isAgg22 rfl (CF.old (cell_of h1 rfl) (not_none0 _))) ?_
    refine HW.take 4 rfl (by kernel_rfl) (by kernel_rfl) (by kernel_rfl) (fun _ _ _ h => h) (.inl rfl) rfl (fun _ h => h) (Yv.loadK (vs := [_, _, _]) Try.isAgg72 Try.sizeOf72 rfl (CFs.whole 0 rfl)) ?_
    refine HW.run 5 rfl (by kernel_rfl) _ (.inl rfl) rfl (Ow.call e76 rfl (C.ex (val := fun p : Nat × Bool => .tuple #[.int .i64 (p.1 : Nat), .bool p.2]) (fun w2 hs => binSearchE 77 cmp2 e77 netWeight1 Al cl G.l (normE ⟨u, v, 0⟩) w2 (h4.below hs.mod.below) (by omega) (fun i j x y hij hx hy hlt => by
          have hi := (List.getElem?_eq_some_iff.1 hx).1
          have hj := (List.getElem?_eq_some_iff.1 hy).1
          have := List.pairwise_iff_getElem.1 hsort i j hi hj hij
          rw [(List.getElem?_eq_some_iff.1 hx).2, (List.getElem?_eq_some_iff.1 hy).2] at this
          rw [cmp2_lt] at hlt ⊢
          exact keyLt_trans this hlt)))) (by rintro _ _ ⟨⟨i, q⟩, ⟨hbs, hq⟩, rfl, rfl⟩ w h; exact h) ?_
    rintro _ _ ⟨⟨i, q⟩, ⟨hbs, hq⟩, rfl, rfl⟩
    refine HW.take 6 rfl (by kernel_rfl) (by kernel_rfl) (by kernel_rfl) (fun _ _ _ h => h) (.inl rfl) rfl (fun _ h => h) (Yv.move rfl) ?_
    refine HW.take 7 rfl (by kernel_rfl) (by kernel_rfl) (by kernel_rfl) (fun _ _ _ h => h) (.inl rfl) rfl (fun _ h => h) (Yv.extract rfl rfl) ?_
    refine HW.take 8 rfl (by kernel_rfl) (by kernel_rfl) (by kernel_rfl) (fun _ _ _ h => h) (.inl rfl) rfl (fun _ h => h) (Yv.extract rfl rfl) ?_
    refine HW.take 9 rfl (by kernel_rfl) (by kernel_rfl) (by kernel_rfl) (fun _ _ _ h => h) (.inl rfl) rfl (fun _ h => h) (Yv.assign rfl) ?_
    refine HW.take 10 rfl (by kernel_rfl) (by kernel_rfl) (by kernel_rfl) (fun _ _ _ h => h) (.inl rfl) rfl (fun _ h => h) (Yv.assign rfl) ?_
    refine HW.done (by kernel_rfl) ?_
    refine PW.go ?_
    refine CW.seq ?_
    refine CW.seq ?_
    dsimp only at hbs hq ⊢
    refine CW.region ?_
    refine RW.y (.inl rfl) rfl (Yv.move rfl) ?_
    refine RW.y (.inl rfl) rfl (Yv.not rfl) ?_
    refine RW.nil ?_
    refine PW.go ?_
    refine CW.cond rfl (fun hc26 => ?_) (fun hc26 => ?_)
    ·
      have hno := bs_none hsort hbs (by simpa [hq] using hc26)
      refine CW.seq ?_
      refine CW.region ?_
      refine RW.y (.inl rfl) rfl (Yv.assign rfl) ?_
      refine RW.nil ?_
      refine PW.go ?_
      refine CW.ret ?_
      refine PW.then_ret ?_
      refine PW.ret1 Try.results57 rfl (fun w1 hs => ?_)
      exact ⟨by rw [weight_none hno], hs.mod.below⟩
    ·
      obtain ⟨x, hx, hx0⟩ : ∃ x, G.l[i]? = some x ∧ cmp2 x (normE ⟨u, v, 0⟩) = 0 := by simpa [hq] using hc26
      have hil := (List.getElem?_eq_some_iff.1 hx).1
      obtain ⟨bl, ol, rfl, hbl, hcc⟩ := h4.2.2 (by omega)
      refine CW.skip ?_
      refine PW.go ?_
      refine CW.seq ?_
      refine CW.region ?_
      refine RW.y (.inl rfl) rfl (Yv.move rfl) ?_
      refine RW.y (.inl rfl) rfl (Yv.nilCheck rfl) ?_
      refine RW.y (.inl rfl) rfl (Yv.fieldAddr Try.underlying82 rfl Try.sizeOf22 rfl rfl) ?_
      refine RW.y (.inl rfl) rfl (Yv.load1 Try.isAgg22 rfl (CF.old (cell_of h1 rfl) (not_none0 _))) ?_
      refine RW.y (.inl rfl) rfl (Yv.move rfl) ?_
      refine RW.y (.inl rfl) rfl (Yv.indexK Try.underlying22 Try.sizeOf72 rfl rfl (by omega) (by omega)) ?_
      refine RW.y (.inl rfl) rfl (Yv.fieldAddr Try.underlying72 rfl Try.sizeOf2 rfl rfl) ?_
      refine RW.y (.inl rfl) rfl (Yv.load1 Try.isAgg2 rfl (CF.old (by rw [Nat.add_assoc]; exact hcc _ _ (cellsE_get G.l i x hx 2 _ rfl)) (not_none0 _))) ?_
      refine RW.y (.inl rfl) rfl (Yv.assign rfl) ?_
      refine RW.nil ?_
      refine PW.go ?_
      refine CW.ret ?_
      refine PW.ret1 Try.results57 rfl (fun w1 hs => ?_)
      exact ⟨by rw [weight_found hsort hx ((cmp2_eq _ _).1 hx0)], hs.mod.below⟩

end Go.Proofs.Ytipoblpnkkcpgaa
