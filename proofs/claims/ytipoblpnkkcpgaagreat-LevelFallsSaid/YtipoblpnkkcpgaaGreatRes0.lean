/- Walks, written by a program of this session (gen.py) out of a spec. -/
import Derived.Test.YtipoblpnkkcpgaaGreatResP
import Derived.Test.YtipoblpnkkcpgaaGreatCsr2
set_option linter.unusedVariables false
set_option linter.unusedSimpArgs false
namespace Go.Proofs.YtipoblpnkkcpgaaGreat
open Go Go.RowKit Go.Proofs.YtipoblpnkkcpgaaGreat.B

structure RI where
  b : Nat
  ba : Nat
  bl : Nat
  bo : Nat
def restBlk (R : RI) (n m : Nat) : List Value := [.pointer (some ⟨R.ba, 0, none⟩), .slice (some ⟨R.bl, 0, none⟩) m m, .slice (some ⟨R.bo, 0, none⟩) n n]
def restA (R : RI) (n m : Nat) (xs ys : List Int) : Ass :=
  Ass.star (blk R.b (restBlk R n m) 93) (Ass.star (row (.slice (some ⟨R.bl, 0, none⟩) m m) 2 1 m (i64s xs)) (row (.slice (some ⟨R.bo, 0, none⟩) n n) 2 1 n (i64s ys)))
structure IsRest (w : World) (R : RI) (D : ArcsD) (xs ys : List Int) : Prop where
  hb : w.heap[R.b]? = some (.cells (restBlk R D.n (2 * D.l.length)).toArray 93 (0, 0))
  hl : Rd w (some ⟨R.bl, 0, none⟩) 1 (2 * D.l.length) (i64s xs)
  ho : Rd w (some ⟨R.bo, 0, none⟩) 1 D.n (i64s ys)
  ha : IsArcs w R.ba D
theorem IsRest.below {w w' : World} {R : RI} {D : ArcsD} {xs ys : List Int} (h : IsRest w R D xs ys) (hb : Gr w w') : IsRest w' R D xs ys :=
  ⟨by rw [hb.block _ (Array.getElem?_eq_some_iff.1 h.hb).1]; exact h.hb, h.hl.below hb, h.ho.below hb, h.ha.below hb⟩
theorem IsRest.of {w : World} {R : RI} {D : ArcsD} {xs ys : List Int} (h : ∃ F, (restA R D.n (2 * D.l.length) xs ys).holds w F) (ha : IsArcs w R.ba D) : IsRest w R D xs ys := by
  obtain ⟨F, A, B, h1, ⟨C, E, h2, h3, _⟩, _⟩ := h
  have hn := ha.hn; have hl := ha.hl
  exact ⟨h1.1, row_rd h2 (by omega), row_rd h3 (by omega), ha⟩
theorem IsRest.xlen {w : World} {R : RI} {D : ArcsD} {xs ys : List Int} (h : IsRest w R D xs ys) : xs.length = 2 * D.l.length ∧ ys.length = D.n := by
  have h1 := h.hl.1; have h2 := h.ho.1
  rw [i64s_length] at h1 h2; omega
theorem rd_at0 {w : World} {b m : Nat} {xs : List Value} (h : Rd w (some ⟨b, 0, none⟩) 1 m xs) : ∀ j u, xs[j]? = some u → w.cell? ⟨b, j, none⟩ = some u := by
  intro j u hj
  have hjl := (List.getElem?_eq_some_iff.1 hj).1
  obtain ⟨b', o', he, _, hc⟩ := h.2.2 (by have := h.1; omega)
  cases he
  have := hc j u hj
  rwa [Nat.zero_add] at this
section
variable {w0 w : World} {F0 : Nat → Prop} {H : List Ass} {R : RI} {n m : Nat} {xs ys : List Int}
theorem restShut (h : St w0 F0 w (blk R.b (restBlk R n m) 93 :: row (.slice (some ⟨R.bl, 0, none⟩) m m) 2 1 m (i64s xs) :: row (.slice (some ⟨R.bo, 0, none⟩) n n) 2 1 n (i64s ys) :: H)) : St w0 F0 w (restA R n m xs ys :: H) := by
  have h1 := ((h.front 1 rfl).front 2 rfl).front 1 rfl
  exact (h1.join.front 1 rfl).join
theorem restOpen (h : St w0 F0 w (restA R n m xs ys :: H)) : St w0 F0 w (blk R.b (restBlk R n m) 93 :: row (.slice (some ⟨R.bl, 0, none⟩) m m) 2 1 m (i64s xs) :: row (.slice (some ⟨R.bo, 0, none⟩) n n) 2 1 n (i64s ys) :: H) := by
  have h1 := (h.split.front 1 rfl).split
  exact h1.front 2 rfl
end
theorem csrBackN (k : Nat) (hk : k ≤ 4611686018427387904) (w : World) : Calls Tryz.prog 53 #[.int .i64 (k : Int)] w fun e w1 => e = .returned (.int .i64 ((bk k : Nat) : Int)) ∧ Gr w w1 := by
  rw [← backOf_nat]; exact csrBack k (by omega) w
theorem arcsTailT (b : Nat) (D : ArcsD) (i : Int) (hi : -9223372036854775808 ≤ i ∧ i ≤ 9223372036854775807) (t : Int) (ht : tailOf D.l i = t) (w : World) (hA : IsArcs w b D) : Calls Tryz.prog 30 #[.pointer (some ⟨b, 0, none⟩), .int .i64 i] w fun e w1 => e = .returned (.int .i64 t) ∧ Gr w w1 := by
  subst ht; exact arcsTail b D i hi w hA
theorem arcsHeadT (b : Nat) (D : ArcsD) (i : Int) (t : Int) (ht : headOf D.l i = t) (w : World) (hA : IsArcs w b D) : Calls Tryz.prog 31 #[.pointer (some ⟨b, 0, none⟩), .int .i64 i] w fun e w1 => e = .returned (.int .i64 t) ∧ Gr w w1 := by
  subst ht; exact arcsHead b D i w hA

set_option maxRecDepth 100000 in
theorem restArcs (R : RI) (n m : Nat) (w : World) (hb : w.heap[R.b]? = some (.cells (restBlk R n m).toArray 93 (0, 0))) : Calls Tryz.prog 15 #[.pointer (some ⟨R.b, 0, none⟩)] w fun e w1 => e = .returned (.pointer (some ⟨R.ba, 0, none⟩)) ∧ Gr w w1 := by
  refine CW.enter (P := Tryz.prog) (F0 := none0) (L := [(0, _)]) 9 [] Tryz.func15 rfl Tryz.ntmps15 (Nat.le_of_ble_eq_true rfl) (St.start w none0) rfl ?_
  refine CW.seq ?_
  refine CW.region ?_
  refine RW.y (.inl rfl) rfl (Yv.assign rfl) ?_
  refine RW.nil ?_
  refine PW.go ?_
  refine CW.seq ?_
  refine CW.seq ?_
  refine CW.region ?_
  refine RW.y (.inl rfl) rfl (Yv.move rfl) ?_
  refine RW.y (.inl rfl) rfl (Yv.ptrNil Tryz.underlying29 rfl rfl) ?_
  refine RW.nil ?_
  refine PW.go ?_
  refine CW.cond rfl (fun hc4 => ?_) (fun hc4 => ?_)
  ·
    cases hc4
  ·
    refine CW.skip ?_
    refine PW.go ?_
    refine CW.seq ?_
    refine CW.region ?_
    refine RW.y (.inl rfl) rfl (Yv.move rfl) ?_
    refine RW.y (.inl rfl) rfl (Yv.nilCheck rfl) ?_
    refine RW.y (.inl rfl) rfl (Yv.fieldAddr Tryz.underlying93 rfl Tryz.sizeOf47 rfl rfl) ?_
    refine RW.y (.inl rfl) rfl (Yv.load1 Tryz.isAgg47 rfl (CF.old (cell_of hb rfl) (not_none0 _))) ?_
    refine RW.y (.inl rfl) rfl (Yv.assign rfl) ?_
    refine RW.nil ?_
    refine PW.go ?_
    refine CW.ret ?_
    refine PW.ret1 Tryz.results15 rfl (fun w1 hs => ?_)
    exact ⟨rfl, hs.mod.below⟩

set_option maxRecDepth 100000 in
theorem restArcs_nil (w : World) : Calls Tryz.prog 15 #[.pointer none] w fun e w1 => e = .returned (.pointer none) ∧ Gr w w1 := by
  refine CW.enter (P := Tryz.prog) (F0 := none0) (L := [(0, _)]) 9 [] Tryz.func15 rfl Tryz.ntmps15 (Nat.le_of_ble_eq_true rfl) (St.start w none0) rfl ?_
  refine CW.seq ?_
  refine CW.region ?_
  refine RW.y (.inl rfl) rfl (Yv.assign rfl) ?_
  refine RW.nil ?_
  refine PW.go ?_
  refine CW.seq ?_
  refine CW.seq ?_
  refine CW.region ?_
  refine RW.y (.inl rfl) rfl (Yv.move rfl) ?_
  refine RW.y (.inl rfl) rfl (Yv.ptrNil Tryz.underlying29 rfl rfl) ?_
  refine RW.nil ?_
  refine PW.go ?_
  refine CW.cond rfl (fun hc4 => ?_) (fun hc4 => ?_)
  ·
    refine CW.seq ?_
    refine CW.region ?_
    refine RW.y (.inl rfl) rfl (Yv.assign rfl) ?_
    refine RW.nil ?_
    refine PW.go ?_
    refine CW.ret ?_
    refine PW.then_ret ?_
    refine PW.ret1 Tryz.results15 rfl (fun w1 hs => ?_)
    exact ⟨rfl, hs.mod.below⟩
  ·
    cases hc4

set_option maxRecDepth 100000 in
theorem restLeft (R : RI) (D : ArcsD) (xs ys : List Int) (i : Int) (w : World) (hR : IsRest w R D xs ys) : Calls Tryz.prog 32 #[.pointer (some ⟨R.b, 0, none⟩), .int .i64 i] w fun e w1 => e = .returned (.int .i64 (atI xs i)) ∧ Gr w w1 := by
  obtain ⟨hxl, hyl⟩ := hR.xlen
  have hml := hR.ha.hl
  have hnn := hR.ha.hn
  refine CW.enter (P := Tryz.prog) (F0 := none0) (L := [(0, _), (1, _)]) 21 [] Tryz.func32 rfl Tryz.ntmps32 (Nat.le_of_ble_eq_true rfl) (St.start w none0) rfl ?_
  refine CW.seq ?_
  refine CW.region ?_
  refine RW.y (.inl rfl) rfl (Yv.assign rfl) ?_
  refine RW.nil ?_
  refine PW.go ?_
  refine CW.seq ?_
  refine CW.seq ?_
  refine CW.region ?_
  refine RW.y (.inl rfl) rfl (Yv.move rfl) ?_
  refine RW.y (.inl rfl) rfl (Yv.lt rfl rfl) ?_
  refine RW.y (.inl rfl) rfl (Yv.move rfl) ?_
  refine RW.splitD 7 rfl (fun hc7 => ?_) (fun hc7 => ?_)
  ·
    refine RW.no ⟨_, _, 7, _, rfl, rfl, rfl, fun h => by simp [undef] at h⟩ rfl ?_
    refine RW.no ⟨_, _, 7, _, rfl, rfl, rfl, fun h => by simp [undef] at h⟩ rfl ?_
    refine RW.no ⟨_, _, 7, _, rfl, rfl, rfl, fun h => by simp [undef] at h⟩ rfl ?_
    refine RW.no ⟨_, _, 7, _, rfl, rfl, rfl, fun h => by simp [undef] at h⟩ rfl ?_
    refine RW.no ⟨_, _, 7, _, rfl, rfl, rfl, fun h => by simp [undef] at h⟩ rfl ?_
    refine RW.y (.inl rfl) rfl (Yv.pickT rfl rfl) ?_
    refine RW.nil ?_
    refine PW.go ?_
    refine CW.condT rfl ?_
    refine CW.seq ?_
    refine CW.region ?_
    refine RW.y (.inl rfl) rfl (Yv.assign rfl) ?_
    refine RW.nil ?_
    refine PW.go ?_
    refine CW.ret ?_
    refine PW.then_ret ?_
    refine PW.ret1 Tryz.results32 rfl (fun w1 hs => ?_)
    exact ⟨by rw [atI_out (by omega)], hs.mod.below⟩
  ·
    refine RW.y (.inr ⟨_, _, 7, rfl, rfl, rfl⟩) rfl (Yv.move rfl) ?_
    refine RW.y (.inr ⟨_, _, 7, rfl, rfl, rfl⟩) rfl (Yv.move rfl) ?_
    refine RW.o _ (.inr ⟨_, _, 7, rfl, rfl, rfl⟩) rfl (Ow.call e15 rfl (C.val (fun w hs => restArcs R D.n _ _ (hR.below hs.mod.below).hb))) ?_
    rintro _ _ ⟨rfl, rfl⟩
    refine RW.o _ (.inr ⟨_, _, 7, rfl, rfl, rfl⟩) rfl (Ow.call e16 rfl (C.val (fun w hs => arcsLen R.ba D _ (hR.below hs.mod.below).ha))) ?_
    rintro _ _ ⟨rfl, rfl⟩
    refine RW.y (.inr ⟨_, _, 7, rfl, rfl, rfl⟩) rfl (Yv.ge rfl rfl) ?_
    refine RW.y (.inl rfl) rfl (Yv.pickF rfl rfl) ?_
    refine RW.nil ?_
    refine PW.go ?_
    refine CW.condD rfl (fun hc13 => ?_) (fun hc13 => ?_)
    ·
      refine CW.seq ?_
      refine CW.region ?_
      refine RW.y (.inl rfl) rfl (Yv.assign rfl) ?_
      refine RW.nil ?_
      refine PW.go ?_
      refine CW.ret ?_
      refine PW.then_ret ?_
      refine PW.ret1 Tryz.results32 rfl (fun w1 hs => ?_)
      exact ⟨by rw [atI_out (by omega)], hs.mod.below⟩
    ·
      refine CW.skip ?_
      refine PW.go ?_
      refine CW.seq ?_
      obtain ⟨x, hx⟩ : ∃ x, xs[i.toNat]? = some x := ⟨_, List.getElem?_eq_getElem (by omega)⟩
      refine CW.region ?_
      refine RW.y (.inl rfl) rfl (Yv.move rfl) ?_
      refine RW.y (.inl rfl) rfl (Yv.nilCheck rfl) ?_
      refine RW.y (.inl rfl) rfl (Yv.fieldAddr Tryz.underlying93 rfl Tryz.sizeOf33 rfl rfl) ?_
      refine RW.y (.inl rfl) rfl (Yv.load1 Tryz.isAgg33 rfl (CF.old (cell_of hR.hb rfl) (not_none0 _))) ?_
      refine RW.y (.inl rfl) rfl (Yv.move rfl) ?_
      refine RW.y (.inl rfl) rfl (Yv.index0 Tryz.underlying33 Tryz.sizeOf2 rfl rfl (by omega) (by omega)) ?_
      refine RW.y (.inl rfl) rfl (Yv.load1 Tryz.isAgg2 rfl (CF.old (rd_at0 hR.hl _ _ (i64s_get _ _ _ hx)) (not_none0 _))) ?_
      refine RW.y (.inl rfl) rfl (Yv.assign rfl) ?_
      refine RW.nil ?_
      refine PW.go ?_
      refine CW.ret ?_
      refine PW.ret1 Tryz.results32 rfl (fun w1 hs => ?_)
      exact ⟨by rw [atI_of (by omega) hx], hs.mod.below⟩

set_option maxRecDepth 100000 in
theorem restLeft_nil (i : Int) (w : World) : Calls Tryz.prog 32 #[.pointer none, .int .i64 i] w fun e w1 => e = .returned (.int .i64 0) ∧ Gr w w1 := by
  refine CW.enter (P := Tryz.prog) (F0 := none0) (L := [(0, _), (1, _)]) 21 [] Tryz.func32 rfl Tryz.ntmps32 (Nat.le_of_ble_eq_true rfl) (St.start w none0) rfl ?_
  refine CW.seq ?_
  refine CW.region ?_
  refine RW.y (.inl rfl) rfl (Yv.assign rfl) ?_
  refine RW.nil ?_
  refine PW.go ?_
  refine CW.seq ?_
  refine CW.seq ?_
  refine CW.region ?_
  refine RW.y (.inl rfl) rfl (Yv.move rfl) ?_
  refine RW.y (.inl rfl) rfl (Yv.lt rfl rfl) ?_
  refine RW.y (.inl rfl) rfl (Yv.move rfl) ?_
  refine RW.splitD 7 rfl (fun hc7 => ?_) (fun hc7 => ?_)
  ·
    refine RW.no ⟨_, _, 7, _, rfl, rfl, rfl, fun h => by simp [undef] at h⟩ rfl ?_
    refine RW.no ⟨_, _, 7, _, rfl, rfl, rfl, fun h => by simp [undef] at h⟩ rfl ?_
    refine RW.no ⟨_, _, 7, _, rfl, rfl, rfl, fun h => by simp [undef] at h⟩ rfl ?_
    refine RW.no ⟨_, _, 7, _, rfl, rfl, rfl, fun h => by simp [undef] at h⟩ rfl ?_
    refine RW.no ⟨_, _, 7, _, rfl, rfl, rfl, fun h => by simp [undef] at h⟩ rfl ?_
    refine RW.y (.inl rfl) rfl (Yv.pickT rfl rfl) ?_
    refine RW.nil ?_
    refine PW.go ?_
    refine CW.condT rfl ?_
    refine CW.seq ?_
    refine CW.region ?_
    refine RW.y (.inl rfl) rfl (Yv.assign rfl) ?_
    refine RW.nil ?_
    refine PW.go ?_
    refine CW.ret ?_
    refine PW.then_ret ?_
    refine PW.ret1 Tryz.results32 rfl (fun w1 hs => ?_)
    exact ⟨rfl, hs.mod.below⟩
  ·
    refine RW.y (.inr ⟨_, _, 7, rfl, rfl, rfl⟩) rfl (Yv.move rfl) ?_
    refine RW.y (.inr ⟨_, _, 7, rfl, rfl, rfl⟩) rfl (Yv.move rfl) ?_
    refine RW.o _ (.inr ⟨_, _, 7, rfl, rfl, rfl⟩) rfl (Ow.call e15 rfl (C.val (fun w hs => restArcs_nil _))) ?_
    rintro _ _ ⟨rfl, rfl⟩
    refine RW.o _ (.inr ⟨_, _, 7, rfl, rfl, rfl⟩) rfl (Ow.call e16 rfl (C.val (fun w hs => arcsLen_nil _))) ?_
    rintro _ _ ⟨rfl, rfl⟩
    refine RW.y (.inr ⟨_, _, 7, rfl, rfl, rfl⟩) rfl (Yv.ge rfl rfl) ?_
    refine RW.y (.inl rfl) rfl (Yv.pickF rfl rfl) ?_
    refine RW.nil ?_
    refine PW.go ?_
    refine CW.condD rfl (fun hc13 => ?_) (fun hc13 => ?_)
    ·
      refine CW.seq ?_
      refine CW.region ?_
      refine RW.y (.inl rfl) rfl (Yv.assign rfl) ?_
      refine RW.nil ?_
      refine PW.go ?_
      refine CW.ret ?_
      refine PW.then_ret ?_
      refine PW.ret1 Tryz.results32 rfl (fun w1 hs => ?_)
      exact ⟨rfl, hs.mod.below⟩
    ·
      omega

set_option maxRecDepth 100000 in
theorem restExcess (R : RI) (D : ArcsD) (xs ys : List Int) (i : Int) (w : World) (hR : IsRest w R D xs ys) : Calls Tryz.prog 36 #[.pointer (some ⟨R.b, 0, none⟩), .int .i64 i] w fun e w1 => e = .returned (.int .i64 (atI ys i)) ∧ Gr w w1 := by
  obtain ⟨hxl, hyl⟩ := hR.xlen
  have hml := hR.ha.hl
  have hnn := hR.ha.hn
  refine CW.enter (P := Tryz.prog) (F0 := none0) (L := [(0, _), (1, _)]) 21 [] Tryz.func36 rfl Tryz.ntmps36 (Nat.le_of_ble_eq_true rfl) (St.start w none0) rfl ?_
  refine CW.seq ?_
  refine CW.region ?_
  refine RW.y (.inl rfl) rfl (Yv.assign rfl) ?_
  refine RW.nil ?_
  refine PW.go ?_
  refine CW.seq ?_
  refine CW.seq ?_
  refine CW.region ?_
  refine RW.y (.inl rfl) rfl (Yv.move rfl) ?_
  refine RW.y (.inl rfl) rfl (Yv.lt rfl rfl) ?_
  refine RW.y (.inl rfl) rfl (Yv.move rfl) ?_
  refine RW.splitD 7 rfl (fun hc7 => ?_) (fun hc7 => ?_)
  ·
    refine RW.no ⟨_, _, 7, _, rfl, rfl, rfl, fun h => by simp [undef] at h⟩ rfl ?_
    refine RW.no ⟨_, _, 7, _, rfl, rfl, rfl, fun h => by simp [undef] at h⟩ rfl ?_
    refine RW.no ⟨_, _, 7, _, rfl, rfl, rfl, fun h => by simp [undef] at h⟩ rfl ?_
    refine RW.no ⟨_, _, 7, _, rfl, rfl, rfl, fun h => by simp [undef] at h⟩ rfl ?_
    refine RW.no ⟨_, _, 7, _, rfl, rfl, rfl, fun h => by simp [undef] at h⟩ rfl ?_
    refine RW.y (.inl rfl) rfl (Yv.pickT rfl rfl) ?_
    refine RW.nil ?_
    refine PW.go ?_
    refine CW.condT rfl ?_
    refine CW.seq ?_
    refine CW.region ?_
    refine RW.y (.inl rfl) rfl (Yv.assign rfl) ?_
    refine RW.nil ?_
    refine PW.go ?_
    refine CW.ret ?_
    refine PW.then_ret ?_
    refine PW.ret1 Tryz.results36 rfl (fun w1 hs => ?_)
    exact ⟨by rw [atI_out (by omega)], hs.mod.below⟩
  ·
    refine RW.y (.inr ⟨_, _, 7, rfl, rfl, rfl⟩) rfl (Yv.move rfl) ?_
    refine RW.y (.inr ⟨_, _, 7, rfl, rfl, rfl⟩) rfl (Yv.move rfl) ?_
    refine RW.o _ (.inr ⟨_, _, 7, rfl, rfl, rfl⟩) rfl (Ow.call e15 rfl (C.val (fun w hs => restArcs R D.n _ _ (hR.below hs.mod.below).hb))) ?_
    rintro _ _ ⟨rfl, rfl⟩
    refine RW.o _ (.inr ⟨_, _, 7, rfl, rfl, rfl⟩) rfl (Ow.call e42 rfl (C.val (fun w hs => arcsN R.ba D _ (hR.below hs.mod.below).ha))) ?_
    rintro _ _ ⟨rfl, rfl⟩
    refine RW.y (.inr ⟨_, _, 7, rfl, rfl, rfl⟩) rfl (Yv.ge rfl rfl) ?_
    refine RW.y (.inl rfl) rfl (Yv.pickF rfl rfl) ?_
    refine RW.nil ?_
    refine PW.go ?_
    refine CW.condD rfl (fun hc13 => ?_) (fun hc13 => ?_)
    ·
      refine CW.seq ?_
      refine CW.region ?_
      refine RW.y (.inl rfl) rfl (Yv.assign rfl) ?_
      refine RW.nil ?_
      refine PW.go ?_
      refine CW.ret ?_
      refine PW.then_ret ?_
      refine PW.ret1 Tryz.results36 rfl (fun w1 hs => ?_)
      exact ⟨by rw [atI_out (by omega)], hs.mod.below⟩
    ·
      refine CW.skip ?_
      refine PW.go ?_
      refine CW.seq ?_
      obtain ⟨x, hx⟩ : ∃ x, ys[i.toNat]? = some x := ⟨_, List.getElem?_eq_getElem (by omega)⟩
      refine CW.region ?_
      refine RW.y (.inl rfl) rfl (Yv.move rfl) ?_
      refine RW.y (.inl rfl) rfl (Yv.nilCheck rfl) ?_
      refine RW.y (.inl rfl) rfl (Yv.fieldAddr Tryz.underlying93 rfl Tryz.sizeOf33 rfl rfl) ?_
      refine RW.y (.inl rfl) rfl (Yv.load1 Tryz.isAgg33 rfl (CF.old (cell_of hR.hb rfl) (not_none0 _))) ?_
      refine RW.y (.inl rfl) rfl (Yv.move rfl) ?_
      refine RW.y (.inl rfl) rfl (Yv.index0 Tryz.underlying33 Tryz.sizeOf2 rfl rfl (by omega) (by omega)) ?_
      refine RW.y (.inl rfl) rfl (Yv.load1 Tryz.isAgg2 rfl (CF.old (rd_at0 hR.ho _ _ (i64s_get _ _ _ hx)) (not_none0 _))) ?_
      refine RW.y (.inl rfl) rfl (Yv.assign rfl) ?_
      refine RW.nil ?_
      refine PW.go ?_
      refine CW.ret ?_
      refine PW.ret1 Tryz.results36 rfl (fun w1 hs => ?_)
      exact ⟨by rw [atI_of (by omega) hx], hs.mod.below⟩

set_option maxRecDepth 100000 in
theorem restExcess_nil (i : Int) (w : World) : Calls Tryz.prog 36 #[.pointer none, .int .i64 i] w fun e w1 => e = .returned (.int .i64 0) ∧ Gr w w1 := by
  refine CW.enter (P := Tryz.prog) (F0 := none0) (L := [(0, _), (1, _)]) 21 [] Tryz.func36 rfl Tryz.ntmps36 (Nat.le_of_ble_eq_true rfl) (St.start w none0) rfl ?_
  refine CW.seq ?_
  refine CW.region ?_
  refine RW.y (.inl rfl) rfl (Yv.assign rfl) ?_
  refine RW.nil ?_
  refine PW.go ?_
  refine CW.seq ?_
  refine CW.seq ?_
  refine CW.region ?_
  refine RW.y (.inl rfl) rfl (Yv.move rfl) ?_
  refine RW.y (.inl rfl) rfl (Yv.lt rfl rfl) ?_
  refine RW.y (.inl rfl) rfl (Yv.move rfl) ?_
  refine RW.splitD 7 rfl (fun hc7 => ?_) (fun hc7 => ?_)
  ·
    refine RW.no ⟨_, _, 7, _, rfl, rfl, rfl, fun h => by simp [undef] at h⟩ rfl ?_
    refine RW.no ⟨_, _, 7, _, rfl, rfl, rfl, fun h => by simp [undef] at h⟩ rfl ?_
    refine RW.no ⟨_, _, 7, _, rfl, rfl, rfl, fun h => by simp [undef] at h⟩ rfl ?_
    refine RW.no ⟨_, _, 7, _, rfl, rfl, rfl, fun h => by simp [undef] at h⟩ rfl ?_
    refine RW.no ⟨_, _, 7, _, rfl, rfl, rfl, fun h => by simp [undef] at h⟩ rfl ?_
    refine RW.y (.inl rfl) rfl (Yv.pickT rfl rfl) ?_
    refine RW.nil ?_
    refine PW.go ?_
    refine CW.condT rfl ?_
    refine CW.seq ?_
    refine CW.region ?_
    refine RW.y (.inl rfl) rfl (Yv.assign rfl) ?_
    refine RW.nil ?_
    refine PW.go ?_
    refine CW.ret ?_
    refine PW.then_ret ?_
    refine PW.ret1 Tryz.results36 rfl (fun w1 hs => ?_)
    exact ⟨rfl, hs.mod.below⟩
  ·
    refine RW.y (.inr ⟨_, _, 7, rfl, rfl, rfl⟩) rfl (Yv.move rfl) ?_
    refine RW.y (.inr ⟨_, _, 7, rfl, rfl, rfl⟩) rfl (Yv.move rfl) ?_
    refine RW.o _ (.inr ⟨_, _, 7, rfl, rfl, rfl⟩) rfl (Ow.call e15 rfl (C.val (fun w hs => restArcs_nil _))) ?_
    rintro _ _ ⟨rfl, rfl⟩
    refine RW.o _ (.inr ⟨_, _, 7, rfl, rfl, rfl⟩) rfl (Ow.call e42 rfl (C.val (fun w hs => arcsN_nil _))) ?_
    rintro _ _ ⟨rfl, rfl⟩
    refine RW.y (.inr ⟨_, _, 7, rfl, rfl, rfl⟩) rfl (Yv.ge rfl rfl) ?_
    refine RW.y (.inl rfl) rfl (Yv.pickF rfl rfl) ?_
    refine RW.nil ?_
    refine PW.go ?_
    refine CW.condD rfl (fun hc13 => ?_) (fun hc13 => ?_)
    ·
      refine CW.seq ?_
      refine CW.region ?_
      refine RW.y (.inl rfl) rfl (Yv.assign rfl) ?_
      refine RW.nil ?_
      refine PW.go ?_
      refine CW.ret ?_
      refine PW.then_ret ?_
      refine PW.ret1 Tryz.results36 rfl (fun w1 hs => ?_)
      exact ⟨rfl, hs.mod.below⟩
    ·
      omega

theorem restLeftT (R : RI) (D : ArcsD) (xs ys : List Int) (i : Int) (w : World) (hR : IsRest w R D xs ys) {a : Int} (ha : atI xs i = a) : Calls Tryz.prog 32 #[.pointer (some ⟨R.b, 0, none⟩), .int .i64 i] w fun e w1 => e = .returned (.int .i64 a) ∧ Gr w w1 := by
  subst ha; exact restLeft R D xs ys i w hR
theorem restExcessT (R : RI) (D : ArcsD) (xs ys : List Int) (i : Int) (w : World) (hR : IsRest w R D xs ys) {a : Int} (ha : atI ys i = a) : Calls Tryz.prog 36 #[.pointer (some ⟨R.b, 0, none⟩), .int .i64 i] w fun e w1 => e = .returned (.int .i64 a) ∧ Gr w w1 := by
  subst ha; exact restExcess R D xs ys i w hR

set_option maxRecDepth 100000 in
theorem restFlow (R : RI) (D : ArcsD) (f ys : List Int) (hok : ArcsOk D.n D.l) (hF : FlowOk D.l f) (e : Int) (w : World) (hR : IsRest w R D (leftL D.l f) ys) : Calls Tryz.prog 35 #[.pointer (some ⟨R.b, 0, none⟩), .int .i64 e] w fun en w1 => en = .returned (.int .i64 (atI f e)) ∧ Gr w w1 := by
  obtain ⟨hxl, hyl⟩ := hR.xlen
  have hml := hR.ha.hl
  have hnn := hR.ha.hn
  have hfl := hF.len
  refine CW.enter (P := Tryz.prog) (F0 := none0) (L := [(0, _), (1, _)]) 31 [] Tryz.func35 rfl Tryz.ntmps35 (Nat.le_of_ble_eq_true rfl) (St.start w none0) rfl ?_
  refine CW.seq ?_
  refine CW.region ?_
  refine RW.y (.inl rfl) rfl (Yv.assign rfl) ?_
  refine RW.nil ?_
  refine PW.go ?_
  refine CW.seq ?_
  refine CW.seq ?_
  refine CW.region ?_
  refine RW.y (.inl rfl) rfl (Yv.move rfl) ?_
  refine RW.y (.inl rfl) rfl (Yv.lt rfl rfl) ?_
  refine RW.y (.inl rfl) rfl (Yv.move rfl) ?_
  refine RW.splitD 7 rfl (fun hc7 => ?_) (fun hc7 => ?_)
  ·
    refine RW.no ⟨_, _, 7, _, rfl, rfl, rfl, fun h => by simp [undef] at h⟩ rfl ?_
    refine RW.no ⟨_, _, 7, _, rfl, rfl, rfl, fun h => by simp [undef] at h⟩ rfl ?_
    refine RW.no ⟨_, _, 7, _, rfl, rfl, rfl, fun h => by simp [undef] at h⟩ rfl ?_
    refine RW.no ⟨_, _, 7, _, rfl, rfl, rfl, fun h => by simp [undef] at h⟩ rfl ?_
    refine RW.no ⟨_, _, 7, _, rfl, rfl, rfl, fun h => by simp [undef] at h⟩ rfl ?_
    refine RW.no ⟨_, _, 7, _, rfl, rfl, rfl, fun h => by simp [undef] at h⟩ rfl ?_
    refine RW.y (.inl rfl) rfl (Yv.pickT rfl rfl) ?_
    refine RW.nil ?_
    refine PW.go ?_
    refine CW.condT rfl ?_
    refine CW.seq ?_
    refine CW.region ?_
    refine RW.y (.inl rfl) rfl (Yv.assign rfl) ?_
    refine RW.nil ?_
    refine PW.go ?_
    refine CW.ret ?_
    refine PW.then_ret ?_
    refine PW.ret1 Tryz.results35 rfl (fun w1 hs => ?_)
    exact ⟨by rw [atI_out (by omega)], hs.mod.below⟩
  ·
    refine RW.y (.inr ⟨_, _, 7, rfl, rfl, rfl⟩) rfl (Yv.move rfl) ?_
    refine RW.y (.inr ⟨_, _, 7, rfl, rfl, rfl⟩) rfl (Yv.move rfl) ?_
    refine RW.o _ (.inr ⟨_, _, 7, rfl, rfl, rfl⟩) rfl (Ow.call e15 rfl (C.val (fun w hs => restArcs R D.n _ _ (hR.below hs.mod.below).hb))) ?_
    rintro _ _ ⟨rfl, rfl⟩
    refine RW.o _ (.inr ⟨_, _, 7, rfl, rfl, rfl⟩) rfl (Ow.call e16 rfl (C.val (fun w hs => arcsLen R.ba D _ (hR.below hs.mod.below).ha))) ?_
    rintro _ _ ⟨rfl, rfl⟩
    refine RW.y (.inr ⟨_, _, 7, rfl, rfl, rfl⟩) rfl (Yv.quo rfl rfl (by omega) (by omega)) ?_
    refine RW.y (.inr ⟨_, _, 7, rfl, rfl, rfl⟩) rfl (Yv.ge rfl rfl) ?_
    refine RW.y (.inl rfl) rfl (Yv.pickF rfl rfl) ?_
    refine RW.nil ?_
    refine PW.go ?_
    refine CW.condD rfl (fun hc14 => ?_) (fun hc14 => ?_)
    ·
      refine CW.seq ?_
      refine CW.region ?_
      refine RW.y (.inl rfl) rfl (Yv.assign rfl) ?_
      refine RW.nil ?_
      refine PW.go ?_
      refine CW.ret ?_
      refine PW.then_ret ?_
      refine PW.ret1 Tryz.results35 rfl (fun w1 hs => ?_)
      exact ⟨by rw [atI_out (by omega)], hs.mod.below⟩
    ·
      refine CW.skip ?_
      refine PW.go ?_
      refine CW.seq ?_
      obtain ⟨k, rfl⟩ : ∃ k : Nat, e = k := ⟨e.toNat, by omega⟩
      obtain ⟨x, hx⟩ : ∃ x, D.l[k]? = some x := ⟨_, List.getElem?_eq_getElem (by omega)⟩
      have hle := left_even (f := f) hx
      have hxw := hok.wts x (List.mem_of_getElem? hx)
      obtain ⟨_, hx2, hb0, hb1⟩ := left_bd hF (by omega) hle
      rw [show 2 * k / 2 = k by omega, hx] at hx2
      cases hx2
      have hcap := capOf_half (i := 2 * (k : Int)) hx (.inl rfl)
      refine CW.draw0 mixed ?_
      refine HW.take 0 rfl (by kernel_rfl) (by kernel_rfl) (by kernel_rfl) (fun _ _ _ h => h) (.inl rfl) rfl (fun _ h => h) (Yv.move rfl) ?_
      refine HW.take 1 rfl (by kernel_rfl) (by kernel_rfl) (by kernel_rfl) (fun _ _ _ h => h) (.inl rfl) rfl (fun _ h => h) (Yv.nilCheck rfl) ?_
      refine HW.take 2 rfl (by kernel_rfl) (by kernel_rfl) (by kernel_rfl) (fun _ _ _ h => h) (.inl rfl) rfl (fun _ h => h) (Yv.fieldAddr Tryz.underlying93 rfl Tryz.sizeOf47 rfl rfl) ?_
      refine HW.take 3 rfl (by kernel_rfl) (by kernel_rfl) (by kernel_rfl) (fun _ _ _ h => h) (.inl rfl) rfl (fun _ h => h) (Yv.load1 Tryz.isAgg47 rfl (CF.old (cell_of hR.hb rfl) (not_none0 _))) ?_
      refine HW.take 4 rfl (by kernel_rfl) (by kernel_rfl) (by kernel_rfl) (fun _ _ _ h => h) (.inl rfl) rfl (fun _ h => h) (Yv.move rfl) ?_
      refine HW.take 5 rfl (by kernel_rfl) (by kernel_rfl) (by kernel_rfl) (fun _ _ _ h => h) (.inl rfl) rfl (fun _ h => h) (Yv.mul rfl rfl (by omega)) ?_
      refine HW.take 7 rfl (by kernel_rfl) (by kernel_rfl) (by kernel_rfl) (fun _ _ _ h => h) (.inl rfl) rfl (fun _ h => h) (Yv.move rfl) ?_
      refine HW.take 8 rfl (by kernel_rfl) (by kernel_rfl) (by kernel_rfl) (fun _ _ _ h => h) (.inl rfl) rfl (fun _ h => h) (Yv.nilCheck rfl) ?_
      refine HW.take 9 rfl (by kernel_rfl) (by kernel_rfl) (by kernel_rfl) (fun _ _ _ h => h) (.inl rfl) rfl (fun _ h => h) (Yv.fieldAddr Tryz.underlying93 rfl Tryz.sizeOf33 rfl rfl) ?_
      refine HW.take 10 rfl (by kernel_rfl) (by kernel_rfl) (by kernel_rfl) (fun _ _ _ h => h) (.inl rfl) rfl (fun _ h => h) (Yv.load1 Tryz.isAgg33 rfl (CF.old (cell_of hR.hb rfl) (not_none0 _))) ?_
      refine HW.take 11 rfl (by kernel_rfl) (by kernel_rfl) (by kernel_rfl) (fun _ _ _ h => h) (.inl rfl) rfl (fun _ h => h) (Yv.move rfl) ?_
      refine HW.take 12 rfl (by kernel_rfl) (by kernel_rfl) (by kernel_rfl) (fun _ _ _ h => h) (.inl rfl) rfl (fun _ h => h) (Yv.mul rfl rfl (by omega)) ?_
      refine HW.take 13 rfl (by kernel_rfl) (by kernel_rfl) (by kernel_rfl) (fun _ _ _ h => h) (.inl rfl) rfl (fun _ h => h) (Yv.index0 Tryz.underlying33 Tryz.sizeOf2 rfl rfl (by omega) (by omega)) ?_
      refine HW.take 14 rfl (by kernel_rfl) (by kernel_rfl) (by kernel_rfl) (fun _ _ _ h => h) (.inl rfl) rfl (fun _ h => h) (Yv.load1 Tryz.isAgg2 rfl (CF.old (rd_at0 hR.hl _ _ (i64s_at (k := 2 * k) (by omega) hle)) (not_none0 _))) ?_
      refine HW.run 6 rfl (by kernel_rfl) _ (.inl rfl) rfl (Ow.call e43 rfl (C.val (fun w hs => arcsCap R.ba D (2 * (k : Int)) _ (hR.below hs.mod.below).ha))) (by rintro _ _ ⟨rfl, rfl⟩ w h; exact h) ?_
      rintro _ _ ⟨rfl, rfl⟩
      refine HW.take 15 rfl (by kernel_rfl) (by kernel_rfl) (by kernel_rfl) (fun _ _ _ h => h) (.inl rfl) rfl (fun _ h => h) (Yv.sub rfl rfl (by rw [hcap]; omega)) ?_
      refine HW.take 16 rfl (by kernel_rfl) (by kernel_rfl) (by kernel_rfl) (fun _ _ _ h => h) (.inl rfl) rfl (fun _ h => h) (Yv.assign rfl) ?_
      refine HW.done (by kernel_rfl) ?_
      refine PW.go ?_
      refine CW.ret ?_
      refine PW.ret1 Tryz.results35 rfl (fun w1 hs => ?_)
      refine ⟨?_, hs.mod.below⟩
      rw [hcap, atI_nat]
      congr 2
      omega

set_option maxRecDepth 100000 in
theorem restFlow_nil (e : Int) (w : World) : Calls Tryz.prog 35 #[.pointer none, .int .i64 e] w fun en w1 => en = .returned (.int .i64 0) ∧ Gr w w1 := by
  refine CW.enter (P := Tryz.prog) (F0 := none0) (L := [(0, _), (1, _)]) 31 [] Tryz.func35 rfl Tryz.ntmps35 (Nat.le_of_ble_eq_true rfl) (St.start w none0) rfl ?_
  refine CW.seq ?_
  refine CW.region ?_
  refine RW.y (.inl rfl) rfl (Yv.assign rfl) ?_
  refine RW.nil ?_
  refine PW.go ?_
  refine CW.seq ?_
  refine CW.seq ?_
  refine CW.region ?_
  refine RW.y (.inl rfl) rfl (Yv.move rfl) ?_
  refine RW.y (.inl rfl) rfl (Yv.lt rfl rfl) ?_
  refine RW.y (.inl rfl) rfl (Yv.move rfl) ?_
  refine RW.splitD 7 rfl (fun hc7 => ?_) (fun hc7 => ?_)
  ·
    refine RW.no ⟨_, _, 7, _, rfl, rfl, rfl, fun h => by simp [undef] at h⟩ rfl ?_
    refine RW.no ⟨_, _, 7, _, rfl, rfl, rfl, fun h => by simp [undef] at h⟩ rfl ?_
    refine RW.no ⟨_, _, 7, _, rfl, rfl, rfl, fun h => by simp [undef] at h⟩ rfl ?_
    refine RW.no ⟨_, _, 7, _, rfl, rfl, rfl, fun h => by simp [undef] at h⟩ rfl ?_
    refine RW.no ⟨_, _, 7, _, rfl, rfl, rfl, fun h => by simp [undef] at h⟩ rfl ?_
    refine RW.no ⟨_, _, 7, _, rfl, rfl, rfl, fun h => by simp [undef] at h⟩ rfl ?_
    refine RW.y (.inl rfl) rfl (Yv.pickT rfl rfl) ?_
    refine RW.nil ?_
    refine PW.go ?_
    refine CW.condT rfl ?_
    refine CW.seq ?_
    refine CW.region ?_
    refine RW.y (.inl rfl) rfl (Yv.assign rfl) ?_
    refine RW.nil ?_
    refine PW.go ?_
    refine CW.ret ?_
    refine PW.then_ret ?_
    refine PW.ret1 Tryz.results35 rfl (fun w1 hs => ?_)
    exact ⟨rfl, hs.mod.below⟩
  ·
    refine RW.y (.inr ⟨_, _, 7, rfl, rfl, rfl⟩) rfl (Yv.move rfl) ?_
    refine RW.y (.inr ⟨_, _, 7, rfl, rfl, rfl⟩) rfl (Yv.move rfl) ?_
    refine RW.o _ (.inr ⟨_, _, 7, rfl, rfl, rfl⟩) rfl (Ow.call e15 rfl (C.val (fun w hs => restArcs_nil _))) ?_
    rintro _ _ ⟨rfl, rfl⟩
    refine RW.o _ (.inr ⟨_, _, 7, rfl, rfl, rfl⟩) rfl (Ow.call e16 rfl (C.val (fun w hs => arcsLen_nil _))) ?_
    rintro _ _ ⟨rfl, rfl⟩
    refine RW.y (.inr ⟨_, _, 7, rfl, rfl, rfl⟩) rfl (Yv.quo rfl rfl (by omega) (by omega)) ?_
    refine RW.y (.inr ⟨_, _, 7, rfl, rfl, rfl⟩) rfl (Yv.ge rfl rfl) ?_
    refine RW.y (.inl rfl) rfl (Yv.pickF rfl rfl) ?_
    refine RW.nil ?_
    refine PW.go ?_
    refine CW.condD rfl (fun hc14 => ?_) (fun hc14 => ?_)
    ·
      refine CW.seq ?_
      refine CW.region ?_
      refine RW.y (.inl rfl) rfl (Yv.assign rfl) ?_
      refine RW.nil ?_
      refine PW.go ?_
      refine CW.ret ?_
      refine PW.then_ret ?_
      refine PW.ret1 Tryz.results35 rfl (fun w1 hs => ?_)
      exact ⟨rfl, hs.mod.below⟩
    ·
      omega

set_option maxRecDepth 100000 in
theorem restFlows (R : RI) (D : ArcsD) (f ys : List Int) (hok : ArcsOk D.n D.l) (hF : FlowOk D.l f) (w : World) (hR : IsRest w R D (leftL D.l f) ys) : Calls Tryz.prog 48 #[.pointer (some ⟨R.b, 0, none⟩)] w fun e w1 => ∃ u_, e = .returned u_ ∧ Gr w w1 ∧ ∃ F, (row u_ 2 1 (D.l.length) (i64s f)).holds w1 F ∧ ∀ k, F k → w.heap.size ≤ k ∧ k < w1.heap.size := by
  obtain ⟨hxl, hyl⟩ := hR.xlen
  have hml := hR.ha.hl
  have hnn := hR.ha.hn
  have hfl := hF.len
  refine CW.enter (P := Tryz.prog) (F0 := none0) (L := [(0, _)]) 23 [] Tryz.func48 rfl Tryz.ntmps48 (Nat.le_of_ble_eq_true rfl) (St.start w none0) rfl ?_
  refine CW.seq ?_
  refine CW.region ?_
  refine RW.y (.inl rfl) rfl (Yv.assign rfl) ?_
  refine RW.nil ?_
  refine PW.go ?_
  refine CW.seq ?_
  refine CW.region ?_
  refine RW.y (.inl rfl) rfl (Yv.move rfl) ?_
  refine RW.o _ (.inl rfl) rfl (Ow.call e15 rfl (C.val (fun w hs => restArcs R D.n _ _ (hR.below hs.mod.below).hb))) ?_
  rintro _ _ ⟨rfl, rfl⟩
  refine RW.o _ (.inl rfl) rfl (Ow.call e16 rfl (C.val (fun w hs => arcsLen R.ba D _ (hR.below hs.mod.below).ha))) ?_
  rintro _ _ ⟨rfl, rfl⟩
  refine RW.y (.inl rfl) rfl (Yv.quo rfl rfl (by omega) (by omega)) ?_
  refine RW.o _ (.inl rfl) rfl (Ow.make (m := D.l.length) Tryz.underlying33 info2 rfl rfl rfl (by omega) (by omega) (by omega) (by omega)) ?_
  rintro _ _ ⟨b9, rfl, rfl⟩
  refine RW.y (.inl rfl) rfl (Yv.assign rfl) ?_
  refine RW.nil ?_
  refine PW.go ?_
  refine CW.seq ?_
  refine CW.seq ?_
  refine CW.mem _ (fun w h => h.row_eq (m' := D.l.length) (xs' := i64s (fillTo D.l.length (fun e => f.getD e 0) 0)) 0 rfl (rfl) (by rw [fillTo_zero]; simp [i64s])) ?_
  refine CW.region ?_
  refine RW.y (.inl rfl) rfl (Yv.move rfl) ?_
  refine RW.y (.inl rfl) rfl (Yv.len Tryz.underlying33 rfl) ?_
  refine RW.y (.inl rfl) rfl (Yv.move rfl) ?_
  refine RW.nil ?_
  refine PW.go ?_
  refine CW.block ?_
  refine CW.loop (σ := Nat) (fun k => k ≤ D.l.length) (fun k => [(0, .pointer (some ⟨R.b, 0, none⟩)), (3, .slice (some ⟨b9, 0, none⟩) D.l.length D.l.length), (11, .int .i64 D.l.length), (12, .int .i64 (k : Nat))]) (fun k => [row (.slice (some ⟨b9, 0, none⟩) D.l.length D.l.length) 2 1 D.l.length (i64s (fillTo D.l.length (fun e => f.getD e 0) k))]) (fun k => D.l.length - k) 0 (by simp) ⟨rfl, rfl, rfl, rfl, trivial⟩ (fun w h => h) ?_
  intro k hk
  refine CW.seq ?_
  refine CW.region ?_
  refine RW.y (.inl rfl) rfl (Yv.lt rfl rfl) ?_
  refine RW.nil ?_
  refine PW.go ?_
  refine CW.seq ?_
  refine CW.condD rfl (fun hc13 => ?_) (fun hc13 => ?_)
  ·
    refine CW.skip ?_
    refine PW.go ?_
    refine CW.seq ?_
    refine CW.block ?_
    refine CW.seq ?_
    refine CW.region ?_
    refine RW.y (.inl rfl) rfl (Yv.move rfl) ?_
    refine RW.y (.inl rfl) rfl (Yv.assign rfl) ?_
    refine RW.nil ?_
    refine PW.go ?_
    refine CW.region ?_
    refine RW.y (.inl rfl) rfl (Yv.move rfl) ?_
    refine RW.y (.inl rfl) rfl (Yv.move rfl) ?_
    refine RW.y (.inl rfl) rfl (Yv.move rfl) ?_
    refine RW.y (.inl rfl) rfl (Yv.move rfl) ?_
    refine RW.o _ (.inl rfl) rfl (Ow.call e35 rfl (C.val (fun w hs => restFlow R D f ys hok hF (k : Nat) _ (hR.below hs.mod.below)))) ?_
    rintro _ _ ⟨rfl, rfl⟩
    refine RW.y (.inl rfl) rfl (Yv.index0 Tryz.underlying33 Tryz.sizeOf2 rfl rfl (by omega) (by omega)) ?_
    refine RW.o _ (.inl rfl) rfl (Ow.storeRow 0 Tryz.sizeOf2 rfl rfl (rfl) rfl (by rw [i64s_length, fillTo_length]; omega)) ?_
    rintro _ _ ⟨rfl, rfl⟩
    refine RW.nil ?_
    refine PW.block ?_
    refine PW.go ?_
    refine CW.region ?_
    refine RW.y (.inl rfl) rfl (Yv.add rfl rfl (by omega)) ?_
    refine RW.y (.inl rfl) rfl (Yv.move rfl) ?_
    refine RW.nil ?_
    refine PW.mem _ (fun w h => h.row_eq (m' := D.l.length) (xs' := i64s (fillTo D.l.length (fun e => f.getD e 0) (k + 1))) 0 rfl (rfl) (by rw [← fillTo_succ, ← i64s_set, ← atI_nat]; rfl)) ?_
    exact PW.next (k + 1) (by omega) ⟨rfl, rfl, rfl, rfl, trivial⟩ (fun w h => h) (by omega)
  ·
    refine CW.exit ?_
    refine PW.then_exit ?_
    refine PW.then_exit ?_
    refine PW.block_exit ?_
    refine PW.go ?_
    refine CW.seq ?_
    refine CW.region ?_
    refine RW.y (.inl rfl) rfl (Yv.move rfl) ?_
    refine RW.y (.inl rfl) rfl (Yv.assign rfl) ?_
    refine RW.nil ?_
    refine PW.go ?_
    refine CW.ret ?_
    refine PW.ret1 Tryz.results48 rfl (fun w1 hs => ?_)
    have hs' := hs.row_eq (m' := D.l.length) (xs' := i64s f) 0 rfl (rfl) (by rw [show k = D.l.length by omega, fillTo_all, map_getD f hfl])
    obtain ⟨F, hF, hk⟩ := hs'.out 0 rfl
    exact ⟨_, rfl, hs.mod.below, F, hF, hk⟩

set_option maxRecDepth 100000 in
theorem restFlows_nil (w : World) : Calls Tryz.prog 48 #[.pointer none] w fun e w1 => ∃ b : Nat, True ∧ e = .returned (.slice (some ⟨b, 0, none⟩) 0 0) ∧ Gr w w1 := by
  refine CW.enter (P := Tryz.prog) (F0 := none0) (L := [(0, _)]) 23 [] Tryz.func48 rfl Tryz.ntmps48 (Nat.le_of_ble_eq_true rfl) (St.start w none0) rfl ?_
  refine CW.seq ?_
  refine CW.region ?_
  refine RW.y (.inl rfl) rfl (Yv.assign rfl) ?_
  refine RW.nil ?_
  refine PW.go ?_
  refine CW.seq ?_
  refine CW.region ?_
  refine RW.y (.inl rfl) rfl (Yv.move rfl) ?_
  refine RW.o _ (.inl rfl) rfl (Ow.call e15 rfl (C.val (fun w hs => restArcs_nil _))) ?_
  rintro _ _ ⟨rfl, rfl⟩
  refine RW.o _ (.inl rfl) rfl (Ow.call e16 rfl (C.val (fun w hs => arcsLen_nil _))) ?_
  rintro _ _ ⟨rfl, rfl⟩
  refine RW.y (.inl rfl) rfl (Yv.quo rfl rfl (by omega) (by omega)) ?_
  refine RW.o _ (.inl rfl) rfl (Ow.make (m := 0) Tryz.underlying33 info2 rfl rfl rfl (by omega) (by omega) (by omega) (by omega)) ?_
  rintro _ _ ⟨b9, rfl, rfl⟩
  refine RW.y (.inl rfl) rfl (Yv.assign rfl) ?_
  refine RW.nil ?_
  refine PW.go ?_
  refine CW.seq ?_
  refine CW.seq ?_
  refine CW.region ?_
  refine RW.y (.inl rfl) rfl (Yv.move rfl) ?_
  refine RW.y (.inl rfl) rfl (Yv.len Tryz.underlying33 rfl) ?_
  refine RW.y (.inl rfl) rfl (Yv.move rfl) ?_
  refine RW.nil ?_
  refine PW.go ?_
  refine CW.block ?_
  refine CW.loop (σ := Nat) (fun k => k = 0) (fun k => [(3, .slice (some ⟨b9, 0, none⟩) 0 0), (11, .int .i64 ((0 : Nat) : Int)), (12, .int .i64 ((0 : Nat) : Int))]) (fun k => []) (fun k => k) 0 (by simp) ⟨rfl, rfl, rfl, trivial⟩ (fun w h => (h).erase 0) ?_
  intro k hk
  refine CW.seq ?_
  refine CW.region ?_
  refine RW.y (.inl rfl) rfl (Yv.lt rfl rfl) ?_
  refine RW.nil ?_
  refine PW.go ?_
  refine CW.seq ?_
  refine CW.condD rfl (fun hc13 => ?_) (fun hc13 => ?_)
  ·
    omega
  ·
    refine CW.exit ?_
    refine PW.then_exit ?_
    refine PW.then_exit ?_
    refine PW.block_exit ?_
    refine PW.go ?_
    refine CW.seq ?_
    refine CW.region ?_
    refine RW.y (.inl rfl) rfl (Yv.move rfl) ?_
    refine RW.y (.inl rfl) rfl (Yv.assign rfl) ?_
    refine RW.nil ?_
    refine PW.go ?_
    refine CW.ret ?_
    refine PW.ret1 Tryz.results48 rfl (fun w1 hs => ?_)
    exact ⟨b9, trivial, rfl, hs.mod.below⟩

set_option maxRecDepth 100000 in
theorem restReach_nil (i : Int) (w : World) : Calls Tryz.prog 50 #[.pointer none, .int .i64 i] w fun e w1 => e = .returned (.slice none 0 0) ∧ Gr w w1 := by
  refine CW.enter (P := Tryz.prog) (F0 := none0) (L := [(0, _), (1, _)]) 83 [] Tryz.func50 rfl Tryz.ntmps50 (Nat.le_of_ble_eq_true rfl) (St.start w none0) rfl ?_
  refine CW.seq ?_
  refine CW.region ?_
  refine RW.y (.inl rfl) rfl (Yv.assign rfl) ?_
  refine RW.nil ?_
  refine PW.go ?_
  refine CW.seq ?_
  refine CW.seq ?_
  refine CW.region ?_
  refine RW.y (.inl rfl) rfl (Yv.move rfl) ?_
  refine RW.y (.inl rfl) rfl (Yv.lt rfl rfl) ?_
  refine RW.y (.inl rfl) rfl (Yv.move rfl) ?_
  refine RW.splitD 13 rfl (fun hc13 => ?_) (fun hc13 => ?_)
  ·
    refine RW.no ⟨_, _, 13, _, rfl, rfl, rfl, fun h => by simp [undef] at h⟩ rfl ?_
    refine RW.no ⟨_, _, 13, _, rfl, rfl, rfl, fun h => by simp [undef] at h⟩ rfl ?_
    refine RW.no ⟨_, _, 13, _, rfl, rfl, rfl, fun h => by simp [undef] at h⟩ rfl ?_
    refine RW.no ⟨_, _, 13, _, rfl, rfl, rfl, fun h => by simp [undef] at h⟩ rfl ?_
    refine RW.no ⟨_, _, 13, _, rfl, rfl, rfl, fun h => by simp [undef] at h⟩ rfl ?_
    refine RW.y (.inl rfl) rfl (Yv.pickT rfl rfl) ?_
    refine RW.nil ?_
    refine PW.go ?_
    refine CW.condT rfl ?_
    refine CW.seq ?_
    refine CW.region ?_
    refine RW.y (.inl rfl) rfl (Yv.assign rfl) ?_
    refine RW.nil ?_
    refine PW.go ?_
    refine CW.ret ?_
    refine PW.then_ret ?_
    refine PW.ret1 Tryz.results50 rfl (fun w1 hs => ?_)
    exact ⟨rfl, hs.mod.below⟩
  ·
    refine RW.y (.inr ⟨_, _, 13, rfl, rfl, rfl⟩) rfl (Yv.move rfl) ?_
    refine RW.y (.inr ⟨_, _, 13, rfl, rfl, rfl⟩) rfl (Yv.move rfl) ?_
    refine RW.o _ (.inr ⟨_, _, 13, rfl, rfl, rfl⟩) rfl (Ow.call e15 rfl (C.val (fun w hs => restArcs_nil _))) ?_
    rintro _ _ ⟨rfl, rfl⟩
    refine RW.o _ (.inr ⟨_, _, 13, rfl, rfl, rfl⟩) rfl (Ow.call e42 rfl (C.val (fun w hs => arcsN_nil _))) ?_
    rintro _ _ ⟨rfl, rfl⟩
    refine RW.y (.inr ⟨_, _, 13, rfl, rfl, rfl⟩) rfl (Yv.ge rfl rfl) ?_
    refine RW.y (.inl rfl) rfl (Yv.pickF rfl rfl) ?_
    refine RW.nil ?_
    refine PW.go ?_
    refine CW.condD rfl (fun hc19 => ?_) (fun hc19 => ?_)
    ·
      refine CW.seq ?_
      refine CW.region ?_
      refine RW.y (.inl rfl) rfl (Yv.assign rfl) ?_
      refine RW.nil ?_
      refine PW.go ?_
      refine CW.ret ?_
      refine PW.then_ret ?_
      refine PW.ret1 Tryz.results50 rfl (fun w1 hs => ?_)
      exact ⟨rfl, hs.mod.below⟩
    ·
      omega

set_option maxRecDepth 100000 in
theorem restReach_out (R : RI) (D : ArcsD) (xs ys : List Int) (i : Int) (w : World) (hR : IsRest w R D xs ys) (hi : i < 0 ∨ (D.n : Int) ≤ i) : Calls Tryz.prog 50 #[.pointer (some ⟨R.b, 0, none⟩), .int .i64 i] w fun e w1 => e = .returned (.slice none 0 0) ∧ Gr w w1 := by
  refine CW.enter (P := Tryz.prog) (F0 := none0) (L := [(0, _), (1, _)]) 83 [] Tryz.func50 rfl Tryz.ntmps50 (Nat.le_of_ble_eq_true rfl) (St.start w none0) rfl ?_
  refine CW.seq ?_
  refine CW.region ?_
  refine RW.y (.inl rfl) rfl (Yv.assign rfl) ?_
  refine RW.nil ?_
  refine PW.go ?_
  refine CW.seq ?_
  refine CW.seq ?_
  refine CW.region ?_
  refine RW.y (.inl rfl) rfl (Yv.move rfl) ?_
  refine RW.y (.inl rfl) rfl (Yv.lt rfl rfl) ?_
  refine RW.y (.inl rfl) rfl (Yv.move rfl) ?_
  refine RW.splitD 13 rfl (fun hc13 => ?_) (fun hc13 => ?_)
  ·
    refine RW.no ⟨_, _, 13, _, rfl, rfl, rfl, fun h => by simp [undef] at h⟩ rfl ?_
    refine RW.no ⟨_, _, 13, _, rfl, rfl, rfl, fun h => by simp [undef] at h⟩ rfl ?_
    refine RW.no ⟨_, _, 13, _, rfl, rfl, rfl, fun h => by simp [undef] at h⟩ rfl ?_
    refine RW.no ⟨_, _, 13, _, rfl, rfl, rfl, fun h => by simp [undef] at h⟩ rfl ?_
    refine RW.no ⟨_, _, 13, _, rfl, rfl, rfl, fun h => by simp [undef] at h⟩ rfl ?_
    refine RW.y (.inl rfl) rfl (Yv.pickT rfl rfl) ?_
    refine RW.nil ?_
    refine PW.go ?_
    refine CW.condT rfl ?_
    refine CW.seq ?_
    refine CW.region ?_
    refine RW.y (.inl rfl) rfl (Yv.assign rfl) ?_
    refine RW.nil ?_
    refine PW.go ?_
    refine CW.ret ?_
    refine PW.then_ret ?_
    refine PW.ret1 Tryz.results50 rfl (fun w1 hs => ?_)
    exact ⟨rfl, hs.mod.below⟩
  ·
    refine RW.y (.inr ⟨_, _, 13, rfl, rfl, rfl⟩) rfl (Yv.move rfl) ?_
    refine RW.y (.inr ⟨_, _, 13, rfl, rfl, rfl⟩) rfl (Yv.move rfl) ?_
    refine RW.o _ (.inr ⟨_, _, 13, rfl, rfl, rfl⟩) rfl (Ow.call e15 rfl (C.val (fun w hs => restArcs R D.n _ _ (hR.below hs.mod.below).hb))) ?_
    rintro _ _ ⟨rfl, rfl⟩
    refine RW.o _ (.inr ⟨_, _, 13, rfl, rfl, rfl⟩) rfl (Ow.call e42 rfl (C.val (fun w hs => arcsN R.ba D _ (hR.below hs.mod.below).ha))) ?_
    rintro _ _ ⟨rfl, rfl⟩
    refine RW.y (.inr ⟨_, _, 13, rfl, rfl, rfl⟩) rfl (Yv.ge rfl rfl) ?_
    refine RW.y (.inl rfl) rfl (Yv.pickF rfl rfl) ?_
    refine RW.nil ?_
    refine PW.go ?_
    refine CW.condD rfl (fun hc19 => ?_) (fun hc19 => ?_)
    ·
      refine CW.seq ?_
      refine CW.region ?_
      refine RW.y (.inl rfl) rfl (Yv.assign rfl) ?_
      refine RW.nil ?_
      refine PW.go ?_
      refine CW.ret ?_
      refine PW.then_ret ?_
      refine PW.ret1 Tryz.results50 rfl (fun w1 hs => ?_)
      exact ⟨rfl, hs.mod.below⟩
    ·
      omega

set_option maxRecDepth 100000 in
theorem restTwin_nil (w : World) : Calls Tryz.prog 12 #[.pointer none] w fun e w1 => e = .returned (.pointer none) ∧ Gr w w1 := by
  refine CW.enter (P := Tryz.prog) (F0 := none0) (L := [(0, _)]) 43 [] Tryz.func12 rfl Tryz.ntmps12 (Nat.le_of_ble_eq_true rfl) (St.start w none0) rfl ?_
  refine CW.seq ?_
  refine CW.region ?_
  refine RW.y (.inl rfl) rfl (Yv.assign rfl) ?_
  refine RW.nil ?_
  refine PW.go ?_
  refine CW.seq ?_
  refine CW.seq ?_
  refine CW.region ?_
  refine RW.y (.inl rfl) rfl (Yv.move rfl) ?_
  refine RW.y (.inl rfl) rfl (Yv.ptrNil Tryz.underlying29 rfl rfl) ?_
  refine RW.nil ?_
  refine PW.go ?_
  refine CW.cond rfl (fun hc5 => ?_) (fun hc5 => ?_)
  ·
    refine CW.seq ?_
    refine CW.region ?_
    refine RW.y (.inl rfl) rfl (Yv.assign rfl) ?_
    refine RW.nil ?_
    refine PW.go ?_
    refine CW.ret ?_
    refine PW.then_ret ?_
    refine PW.ret1 Tryz.results12 rfl (fun w1 hs => ?_)
    exact ⟨rfl, hs.mod.below⟩
  ·
    cases hc5

set_option maxRecDepth 100000 in
theorem restPush_nil (i x : Int) (w : World) : Calls Tryz.prog 14 #[.pointer none, .int .i64 i, .int .i64 x] w fun e w1 => e = .returned (.bool false) ∧ Gr w w1 := by
  refine CW.enter (P := Tryz.prog) (F0 := none0) (L := [(0, _), (1, _), (2, _)]) 84 [] Tryz.func14 rfl Tryz.ntmps14 (Nat.le_of_ble_eq_true rfl) (St.start w none0) rfl ?_
  refine CW.seq ?_
  refine CW.region ?_
  refine RW.y (.inl rfl) rfl (Yv.assign rfl) ?_
  refine RW.nil ?_
  refine PW.go ?_
  refine CW.seq ?_
  refine CW.seq ?_
  refine CW.region ?_
  refine RW.y (.inl rfl) rfl (Yv.move rfl) ?_
  refine RW.y (.inl rfl) rfl (Yv.lt rfl rfl) ?_
  refine RW.y (.inl rfl) rfl (Yv.move rfl) ?_
  refine RW.splitD 10 rfl (fun hc10 => ?_) (fun hc10 => ?_)
  ·
    refine RW.no ⟨_, _, 10, _, rfl, rfl, rfl, fun h => by simp [undef] at h⟩ rfl ?_
    refine RW.no ⟨_, _, 10, _, rfl, rfl, rfl, fun h => by simp [undef] at h⟩ rfl ?_
    refine RW.no ⟨_, _, 10, _, rfl, rfl, rfl, fun h => by simp [undef] at h⟩ rfl ?_
    refine RW.no ⟨_, _, 10, _, rfl, rfl, rfl, fun h => by simp [undef] at h⟩ rfl ?_
    refine RW.no ⟨_, _, 10, _, rfl, rfl, rfl, fun h => by simp [undef] at h⟩ rfl ?_
    refine RW.y (.inl rfl) rfl (Yv.pickT rfl rfl) ?_
    refine RW.y (.inl rfl) rfl (Yv.move rfl) ?_
    refine RW.no ⟨_, _, 17, _, rfl, rfl, rfl, fun h => by simp [undef] at h⟩ rfl ?_
    refine RW.no ⟨_, _, 17, _, rfl, rfl, rfl, fun h => by simp [undef] at h⟩ rfl ?_
    refine RW.y (.inl rfl) rfl (Yv.pickT rfl rfl) ?_
    refine RW.y (.inl rfl) rfl (Yv.move rfl) ?_
    refine RW.no ⟨_, _, 21, _, rfl, rfl, rfl, fun h => by simp [undef] at h⟩ rfl ?_
    refine RW.no ⟨_, _, 21, _, rfl, rfl, rfl, fun h => by simp [undef] at h⟩ rfl ?_
    refine RW.no ⟨_, _, 21, _, rfl, rfl, rfl, fun h => by simp [undef] at h⟩ rfl ?_
    refine RW.no ⟨_, _, 21, _, rfl, rfl, rfl, fun h => by simp [undef] at h⟩ rfl ?_
    refine RW.no ⟨_, _, 21, _, rfl, rfl, rfl, fun h => by simp [undef] at h⟩ rfl ?_
    refine RW.no ⟨_, _, 21, _, rfl, rfl, rfl, fun h => by simp [undef] at h⟩ rfl ?_
    refine RW.no ⟨_, _, 21, _, rfl, rfl, rfl, fun h => by simp [undef] at h⟩ rfl ?_
    refine RW.no ⟨_, _, 21, _, rfl, rfl, rfl, fun h => by simp [undef] at h⟩ rfl ?_
    refine RW.no ⟨_, _, 21, _, rfl, rfl, rfl, fun h => by simp [undef] at h⟩ rfl ?_
    refine RW.y (.inl rfl) rfl (Yv.pickT rfl rfl) ?_
    refine RW.nil ?_
    refine PW.go ?_
    refine CW.condT rfl ?_
    refine CW.seq ?_
    refine CW.region ?_
    refine RW.y (.inl rfl) rfl (Yv.assign rfl) ?_
    refine RW.nil ?_
    refine PW.go ?_
    refine CW.ret ?_
    refine PW.then_ret ?_
    refine PW.ret1 Tryz.results14 rfl (fun w1 hs => ?_)
    exact ⟨rfl, hs.mod.below⟩
  ·
    refine RW.y (.inr ⟨_, _, 10, rfl, rfl, rfl⟩) rfl (Yv.move rfl) ?_
    refine RW.y (.inr ⟨_, _, 10, rfl, rfl, rfl⟩) rfl (Yv.move rfl) ?_
    refine RW.o _ (.inr ⟨_, _, 10, rfl, rfl, rfl⟩) rfl (Ow.call e15 rfl (C.val (fun w hs => restArcs_nil _))) ?_
    rintro _ _ ⟨rfl, rfl⟩
    refine RW.o _ (.inr ⟨_, _, 10, rfl, rfl, rfl⟩) rfl (Ow.call e16 rfl (C.val (fun w hs => arcsLen_nil _))) ?_
    rintro _ _ ⟨rfl, rfl⟩
    refine RW.y (.inr ⟨_, _, 10, rfl, rfl, rfl⟩) rfl (Yv.ge rfl rfl) ?_
    refine RW.y (.inl rfl) rfl (Yv.pickF rfl rfl) ?_
    refine RW.y (.inl rfl) rfl (Yv.move rfl) ?_
    refine RW.isT 17 rfl (by omega) ?_
    refine RW.no ⟨_, _, 17, _, rfl, rfl, rfl, fun h => by simp [undef] at h⟩ rfl ?_
    refine RW.no ⟨_, _, 17, _, rfl, rfl, rfl, fun h => by simp [undef] at h⟩ rfl ?_
    refine RW.y (.inl rfl) rfl (Yv.pickT rfl rfl) ?_
    refine RW.y (.inl rfl) rfl (Yv.move rfl) ?_
    refine RW.no ⟨_, _, 21, _, rfl, rfl, rfl, fun h => by simp [undef] at h⟩ rfl ?_
    refine RW.no ⟨_, _, 21, _, rfl, rfl, rfl, fun h => by simp [undef] at h⟩ rfl ?_
    refine RW.no ⟨_, _, 21, _, rfl, rfl, rfl, fun h => by simp [undef] at h⟩ rfl ?_
    refine RW.no ⟨_, _, 21, _, rfl, rfl, rfl, fun h => by simp [undef] at h⟩ rfl ?_
    refine RW.no ⟨_, _, 21, _, rfl, rfl, rfl, fun h => by simp [undef] at h⟩ rfl ?_
    refine RW.no ⟨_, _, 21, _, rfl, rfl, rfl, fun h => by simp [undef] at h⟩ rfl ?_
    refine RW.no ⟨_, _, 21, _, rfl, rfl, rfl, fun h => by simp [undef] at h⟩ rfl ?_
    refine RW.no ⟨_, _, 21, _, rfl, rfl, rfl, fun h => by simp [undef] at h⟩ rfl ?_
    refine RW.no ⟨_, _, 21, _, rfl, rfl, rfl, fun h => by simp [undef] at h⟩ rfl ?_
    refine RW.y (.inl rfl) rfl (Yv.pickT rfl rfl) ?_
    refine RW.nil ?_
    refine PW.go ?_
    refine CW.condT rfl ?_
    refine CW.seq ?_
    refine CW.region ?_
    refine RW.y (.inl rfl) rfl (Yv.assign rfl) ?_
    refine RW.nil ?_
    refine PW.go ?_
    refine CW.ret ?_
    refine PW.then_ret ?_
    refine PW.ret1 Tryz.results14 rfl (fun w1 hs => ?_)
    exact ⟨rfl, hs.mod.below⟩

def okPush (l : List Edg) (f : List Int) (i x : Int) : Prop := 0 ≤ i ∧ i < 2 * (l.length : Int) ∧ 0 ≤ x ∧ x ≤ atI (leftL l f) i
instance (l : List Edg) (f : List Int) (i x : Int) : Decidable (okPush l f i x) := by unfold okPush; exact inferInstance
def pushR (l : List Edg) (f : List Int) (i x : Int) : List Int := if okPush l f i x then pushF f i.toNat x else f
theorem pushR_ok {l : List Edg} {f : List Int} {i x : Int} (hF : FlowOk l f) : FlowOk l (pushR l f i x) := by
  unfold pushR
  by_cases h : okPush l f i x
  · rw [if_pos h]
    obtain ⟨h0, h1, h2, h3⟩ := h
    obtain ⟨a, ha⟩ : ∃ a, (leftL l f)[i.toNat]? = some a := ⟨_, List.getElem?_eq_getElem (by rw [leftL_length]; omega)⟩
    rw [atI_of h0 ha] at h3
    exact hF.push (by omega) ha h2 h3
  · rw [if_neg h]; exact hF

set_option maxRecDepth 100000 in
theorem restPush (R : RI) (D : ArcsD) (f : List Int) (hok : ArcsOk D.n D.l) (hT : totalW D.l ≤ 2251799813685248) (hF : FlowOk D.l f) (i x : Int) (w : World) (F : Nat → Prop) (h : (restA R D.n (2 * D.l.length) (leftL D.l (f)) (overL D.n D.l (f))).holds w F) (hFb : ∀ k, F k → k < w.heap.size) (hA : ∀ W, Mod F w W → IsArcs W R.ba D) : Calls Tryz.prog 14 #[.pointer (some ⟨R.b, 0, none⟩), .int .i64 i, .int .i64 x] w fun e w1 => ∃ f' : List Int, f' = pushR D.l f i x ∧ e = .returned (.bool (decide (okPush D.l f i x))) ∧ Mod F w w1 ∧ ∃ F', (restA R D.n (2 * D.l.length) (leftL D.l (f')) (overL D.n D.l (f'))).holds w1 F' ∧ ∀ k, F' k → F k ∨ (w.heap.size ≤ k ∧ k < w1.heap.size) := by
  have hml := hok.hl
  have hnn := hok.hn
  have hll := leftL_length D.l f
  have hol := overL_length D.n D.l f
  refine CW.enter (P := Tryz.prog) (F0 := F) (L := [(0, _), (1, _), (2, _)]) 84 [restA R D.n (2 * D.l.length) (leftL D.l (f)) (overL D.n D.l (f))] Tryz.func14 rfl Tryz.ntmps14 (Nat.le_of_ble_eq_true rfl) (St.start1 w h hFb) rfl ?_
  refine CW.seq ?_
  refine CW.mem _ (fun w h => restOpen h) ?_
  refine CW.region ?_
  refine RW.y (.inl rfl) rfl (Yv.assign rfl) ?_
  refine RW.nil ?_
  refine PW.go ?_
  refine CW.seq ?_
  refine CW.seq ?_
  refine CW.region ?_
  refine RW.y (.inl rfl) rfl (Yv.move rfl) ?_
  refine RW.y (.inl rfl) rfl (Yv.lt rfl rfl) ?_
  refine RW.y (.inl rfl) rfl (Yv.move rfl) ?_
  refine RW.splitD 10 rfl (fun hc10 => ?_) (fun hc10 => ?_)
  ·
    refine RW.no ⟨_, _, 10, _, rfl, rfl, rfl, fun h => by simp [undef] at h⟩ rfl ?_
    refine RW.no ⟨_, _, 10, _, rfl, rfl, rfl, fun h => by simp [undef] at h⟩ rfl ?_
    refine RW.no ⟨_, _, 10, _, rfl, rfl, rfl, fun h => by simp [undef] at h⟩ rfl ?_
    refine RW.no ⟨_, _, 10, _, rfl, rfl, rfl, fun h => by simp [undef] at h⟩ rfl ?_
    refine RW.no ⟨_, _, 10, _, rfl, rfl, rfl, fun h => by simp [undef] at h⟩ rfl ?_
    refine RW.y (.inl rfl) rfl (Yv.pickT rfl rfl) ?_
    refine RW.y (.inl rfl) rfl (Yv.move rfl) ?_
    refine RW.no ⟨_, _, 17, _, rfl, rfl, rfl, fun h => by simp [undef] at h⟩ rfl ?_
    refine RW.no ⟨_, _, 17, _, rfl, rfl, rfl, fun h => by simp [undef] at h⟩ rfl ?_
    refine RW.y (.inl rfl) rfl (Yv.pickT rfl rfl) ?_
    refine RW.y (.inl rfl) rfl (Yv.move rfl) ?_
    refine RW.no ⟨_, _, 21, _, rfl, rfl, rfl, fun h => by simp [undef] at h⟩ rfl ?_
    refine RW.no ⟨_, _, 21, _, rfl, rfl, rfl, fun h => by simp [undef] at h⟩ rfl ?_
    refine RW.no ⟨_, _, 21, _, rfl, rfl, rfl, fun h => by simp [undef] at h⟩ rfl ?_
    refine RW.no ⟨_, _, 21, _, rfl, rfl, rfl, fun h => by simp [undef] at h⟩ rfl ?_
    refine RW.no ⟨_, _, 21, _, rfl, rfl, rfl, fun h => by simp [undef] at h⟩ rfl ?_
    refine RW.no ⟨_, _, 21, _, rfl, rfl, rfl, fun h => by simp [undef] at h⟩ rfl ?_
    refine RW.no ⟨_, _, 21, _, rfl, rfl, rfl, fun h => by simp [undef] at h⟩ rfl ?_
    refine RW.no ⟨_, _, 21, _, rfl, rfl, rfl, fun h => by simp [undef] at h⟩ rfl ?_
    refine RW.no ⟨_, _, 21, _, rfl, rfl, rfl, fun h => by simp [undef] at h⟩ rfl ?_
    refine RW.y (.inl rfl) rfl (Yv.pickT rfl rfl) ?_
    refine RW.nil ?_
    refine PW.go ?_
    refine CW.condT rfl ?_
    refine CW.seq ?_
    refine CW.region ?_
    refine RW.y (.inl rfl) rfl (Yv.assign rfl) ?_
    refine RW.nil ?_
    refine PW.go ?_
    refine CW.ret ?_
    refine PW.then_ret ?_
    refine PW.ret1 Tryz.results14 rfl (fun w1 hs => ?_)
    have hno : ¬ okPush D.l f i x := by
      rintro ⟨h0, h1, h2, h3⟩
      first
      | omega
      | (rw [haI] at h3; omega)
    obtain ⟨F', h', hk⟩ := (restShut hs).outMut 0 rfl
    exact ⟨f, by unfold pushR; rw [if_neg hno], by rw [decide_eq_false hno], hs.mod, F', h', hk⟩
  ·
    refine RW.y (.inr ⟨_, _, 10, rfl, rfl, rfl⟩) rfl (Yv.move rfl) ?_
    refine RW.y (.inr ⟨_, _, 10, rfl, rfl, rfl⟩) rfl (Yv.move rfl) ?_
    refine RW.o _ (.inr ⟨_, _, 10, rfl, rfl, rfl⟩) rfl (Ow.call e15 rfl (C.val (fun w hs => restArcs R D.n _ _ (blk_at (hs.hold 0 _ rfl))))) ?_
    rintro _ _ ⟨rfl, rfl⟩
    refine RW.o _ (.inr ⟨_, _, 10, rfl, rfl, rfl⟩) rfl (Ow.call e16 rfl (C.val (fun w hs => arcsLen R.ba D _ (hA _ hs.mod)))) ?_
    rintro _ _ ⟨rfl, rfl⟩
    refine RW.y (.inr ⟨_, _, 10, rfl, rfl, rfl⟩) rfl (Yv.ge rfl rfl) ?_
    refine RW.y (.inl rfl) rfl (Yv.pickF rfl rfl) ?_
    refine RW.y (.inl rfl) rfl (Yv.move rfl) ?_
    refine RW.splitD 17 rfl (fun hc17 => ?_) (fun hc17 => ?_)
    ·
      refine RW.no ⟨_, _, 17, _, rfl, rfl, rfl, fun h => by simp [undef] at h⟩ rfl ?_
      refine RW.no ⟨_, _, 17, _, rfl, rfl, rfl, fun h => by simp [undef] at h⟩ rfl ?_
      refine RW.y (.inl rfl) rfl (Yv.pickT rfl rfl) ?_
      refine RW.y (.inl rfl) rfl (Yv.move rfl) ?_
      refine RW.no ⟨_, _, 21, _, rfl, rfl, rfl, fun h => by simp [undef] at h⟩ rfl ?_
      refine RW.no ⟨_, _, 21, _, rfl, rfl, rfl, fun h => by simp [undef] at h⟩ rfl ?_
      refine RW.no ⟨_, _, 21, _, rfl, rfl, rfl, fun h => by simp [undef] at h⟩ rfl ?_
      refine RW.no ⟨_, _, 21, _, rfl, rfl, rfl, fun h => by simp [undef] at h⟩ rfl ?_
      refine RW.no ⟨_, _, 21, _, rfl, rfl, rfl, fun h => by simp [undef] at h⟩ rfl ?_
      refine RW.no ⟨_, _, 21, _, rfl, rfl, rfl, fun h => by simp [undef] at h⟩ rfl ?_
      refine RW.no ⟨_, _, 21, _, rfl, rfl, rfl, fun h => by simp [undef] at h⟩ rfl ?_
      refine RW.no ⟨_, _, 21, _, rfl, rfl, rfl, fun h => by simp [undef] at h⟩ rfl ?_
      refine RW.no ⟨_, _, 21, _, rfl, rfl, rfl, fun h => by simp [undef] at h⟩ rfl ?_
      refine RW.y (.inl rfl) rfl (Yv.pickT rfl rfl) ?_
      refine RW.nil ?_
      refine PW.go ?_
      refine CW.condT rfl ?_
      refine CW.seq ?_
      refine CW.region ?_
      refine RW.y (.inl rfl) rfl (Yv.assign rfl) ?_
      refine RW.nil ?_
      refine PW.go ?_
      refine CW.ret ?_
      refine PW.then_ret ?_
      refine PW.ret1 Tryz.results14 rfl (fun w1 hs => ?_)
      have hno : ¬ okPush D.l f i x := by
        rintro ⟨h0, h1, h2, h3⟩
        first
        | omega
        | (rw [haI] at h3; omega)
      obtain ⟨F', h', hk⟩ := (restShut hs).outMut 0 rfl
      exact ⟨f, by unfold pushR; rw [if_neg hno], by rw [decide_eq_false hno], hs.mod, F', h', hk⟩
    ·
      refine RW.y (.inr ⟨_, _, 17, rfl, rfl, rfl⟩) rfl (Yv.move rfl) ?_
      refine RW.y (.inr ⟨_, _, 17, rfl, rfl, rfl⟩) rfl (Yv.lt rfl rfl) ?_
      refine RW.y (.inl rfl) rfl (Yv.pickF rfl rfl) ?_
      refine RW.y (.inl rfl) rfl (Yv.move rfl) ?_
      refine RW.splitD 21 rfl (fun hc21 => ?_) (fun hc21 => ?_)
      ·
        refine RW.no ⟨_, _, 21, _, rfl, rfl, rfl, fun h => by simp [undef] at h⟩ rfl ?_
        refine RW.no ⟨_, _, 21, _, rfl, rfl, rfl, fun h => by simp [undef] at h⟩ rfl ?_
        refine RW.no ⟨_, _, 21, _, rfl, rfl, rfl, fun h => by simp [undef] at h⟩ rfl ?_
        refine RW.no ⟨_, _, 21, _, rfl, rfl, rfl, fun h => by simp [undef] at h⟩ rfl ?_
        refine RW.no ⟨_, _, 21, _, rfl, rfl, rfl, fun h => by simp [undef] at h⟩ rfl ?_
        refine RW.no ⟨_, _, 21, _, rfl, rfl, rfl, fun h => by simp [undef] at h⟩ rfl ?_
        refine RW.no ⟨_, _, 21, _, rfl, rfl, rfl, fun h => by simp [undef] at h⟩ rfl ?_
        refine RW.no ⟨_, _, 21, _, rfl, rfl, rfl, fun h => by simp [undef] at h⟩ rfl ?_
        refine RW.no ⟨_, _, 21, _, rfl, rfl, rfl, fun h => by simp [undef] at h⟩ rfl ?_
        refine RW.y (.inl rfl) rfl (Yv.pickT rfl rfl) ?_
        refine RW.nil ?_
        refine PW.go ?_
        refine CW.condT rfl ?_
        refine CW.seq ?_
        refine CW.region ?_
        refine RW.y (.inl rfl) rfl (Yv.assign rfl) ?_
        refine RW.nil ?_
        refine PW.go ?_
        refine CW.ret ?_
        refine PW.then_ret ?_
        refine PW.ret1 Tryz.results14 rfl (fun w1 hs => ?_)
        have hno : ¬ okPush D.l f i x := by
          rintro ⟨h0, h1, h2, h3⟩
          first
          | omega
          | (rw [haI] at h3; omega)
        obtain ⟨F', h', hk⟩ := (restShut hs).outMut 0 rfl
        exact ⟨f, by unfold pushR; rw [if_neg hno], by rw [decide_eq_false hno], hs.mod, F', h', hk⟩
      ·
        obtain ⟨a, ha⟩ : ∃ a, (leftL D.l f)[i.toNat]? = some a := ⟨_, List.getElem?_eq_getElem (by omega)⟩
        have haI := atI_of (by omega) ha
        refine RW.y (.inr ⟨_, _, 21, rfl, rfl, rfl⟩) rfl (Yv.move rfl) ?_
        refine RW.y (.inr ⟨_, _, 21, rfl, rfl, rfl⟩) rfl (Yv.move rfl) ?_
        refine RW.y (.inr ⟨_, _, 21, rfl, rfl, rfl⟩) rfl (Yv.nilCheck rfl) ?_
        refine RW.y (.inr ⟨_, _, 21, rfl, rfl, rfl⟩) rfl (Yv.fieldAddr Tryz.underlying93 rfl Tryz.sizeOf33 rfl rfl) ?_
        refine RW.y (.inr ⟨_, _, 21, rfl, rfl, rfl⟩) rfl (Yv.load1 Tryz.isAgg33 rfl (CF.blk 0 rfl rfl)) ?_
        refine RW.y (.inr ⟨_, _, 21, rfl, rfl, rfl⟩) rfl (Yv.move rfl) ?_
        refine RW.y (.inr ⟨_, _, 21, rfl, rfl, rfl⟩) rfl (Yv.index0 Tryz.underlying33 Tryz.sizeOf2 rfl rfl (by omega) (by omega)) ?_
        refine RW.y (.inr ⟨_, _, 21, rfl, rfl, rfl⟩) rfl (Yv.load1 Tryz.isAgg2 rfl (CF.row 1 rfl (i64s_get _ _ _ ha))) ?_
        refine RW.y (.inr ⟨_, _, 21, rfl, rfl, rfl⟩) rfl (Yv.gt rfl rfl) ?_
        refine RW.y (.inl rfl) rfl (Yv.pickF rfl rfl) ?_
        refine RW.nil ?_
        refine PW.go ?_
        refine CW.condD rfl (fun hc31 => ?_) (fun hc31 => ?_)
        ·
          refine CW.seq ?_
          refine CW.region ?_
          refine RW.y (.inl rfl) rfl (Yv.assign rfl) ?_
          refine RW.nil ?_
          refine PW.go ?_
          refine CW.ret ?_
          refine PW.then_ret ?_
          refine PW.ret1 Tryz.results14 rfl (fun w1 hs => ?_)
          have hno : ¬ okPush D.l f i x := by
            rintro ⟨h0, h1, h2, h3⟩
            first
            | omega
            | (rw [haI] at h3; omega)
          obtain ⟨F', h', hk⟩ := (restShut hs).outMut 0 rfl
          exact ⟨f, by unfold pushR; rw [if_neg hno], by rw [decide_eq_false hno], hs.mod, F', h', hk⟩
        ·
          refine CW.skip ?_
          refine PW.go ?_
          refine CW.seq ?_
          obtain ⟨k, rfl⟩ : ∃ k : Nat, i = k := ⟨i.toNat, by omega⟩
          rw [show ((k : Nat) : Int).toNat = k by omega] at ha
          have hkl : k < 2 * D.l.length := by omega
          have hbl := bk_lt hkl
          have hbn := bk_ne k
          obtain ⟨e, he, ha0, ha1⟩ := left_bd hF hkl ha
          have hew := hok.wts e (List.mem_of_getElem? he)
          obtain ⟨b, hb⟩ : ∃ b, (leftL D.l f)[bk k]? = some b := ⟨_, List.getElem?_eq_getElem (by omega)⟩
          obtain ⟨e2, he2, hb0, hb1⟩ := left_bd hF hbl hb
          rw [bk_half, he] at he2
          cases he2
          have hhr := head_rng hok (i := (k : Int)) (by omega) (by omega)
          obtain ⟨t, ht⟩ : ∃ t : Nat, tailOf D.l (k : Int) = t := ⟨(tailOf D.l (k : Int)).toNat, by omega⟩
          obtain ⟨q, hq⟩ : ∃ t : Nat, headOf D.l (k : Int) = t := ⟨(headOf D.l (k : Int)).toNat, by omega⟩
          have htq : t ≠ q := by
            intro hc
            obtain ⟨e3, h3, _, h4, h5⟩ := arc_edge hkl
            have hr3 := hok.rng e3 (List.mem_of_getElem? h3)
            rcases Nat.mod_two_eq_zero_or_one k with hm | hm
            · have := h4 hm; omega
            · have := h5 hm; omega
          have hnE : ∀ z ∈ D.l, z.u ≠ z.v := fun z hz => by have := hok.rng z hz; omega
          have hx1 := exc_bd D.l f (t : Nat) hnE hF
          have hx2 := exc_bd D.l f (q : Nat) hnE hF
          have hot := overL_get (l := D.l) (f := f) (show t < D.n by omega)
          have hoq := overL_get (l := D.l) (f := f) (show q < D.n by omega)
          refine CW.region ?_
          refine RW.y (.inl rfl) rfl (Yv.move rfl) ?_
          refine RW.o _ (.inl rfl) rfl (Ow.call e53 rfl (C.val (fun w hs => csrBackN k (by omega) _))) ?_
          rintro _ _ ⟨rfl, rfl⟩
          refine RW.y (.inl rfl) rfl (Yv.assign rfl) ?_
          refine RW.nil ?_
          refine PW.go ?_
          refine CW.seq ?_
          refine CW.region ?_
          refine RW.y (.inl rfl) rfl (Yv.move rfl) ?_
          refine RW.y (.inl rfl) rfl (Yv.nilCheck rfl) ?_
          refine RW.y (.inl rfl) rfl (Yv.fieldAddr Tryz.underlying93 rfl Tryz.sizeOf33 rfl rfl) ?_
          refine RW.y (.inl rfl) rfl (Yv.load1 Tryz.isAgg33 rfl (CF.blk 0 rfl rfl)) ?_
          refine RW.y (.inl rfl) rfl (Yv.move rfl) ?_
          refine RW.y (.inl rfl) rfl (Yv.index0 Tryz.underlying33 Tryz.sizeOf2 rfl rfl (by omega) (by omega)) ?_
          refine RW.y (.inl rfl) rfl (Yv.load1 Tryz.isAgg2 rfl (CF.row 1 rfl (i64s_get _ _ _ ha))) ?_
          refine RW.y (.inl rfl) rfl (Yv.move rfl) ?_
          refine RW.y (.inl rfl) rfl (Yv.sub rfl rfl (by omega)) ?_
          refine RW.y (.inl rfl) rfl (Yv.index0 Tryz.underlying33 Tryz.sizeOf2 rfl rfl (by omega) (by omega)) ?_
          refine RW.o _ (.inl rfl) rfl (Ow.storeRow 1 Tryz.sizeOf2 rfl rfl (rfl) rfl (by rw [i64s_length]; omega)) ?_
          rintro _ _ ⟨rfl, rfl⟩
          refine RW.nil ?_
          refine PW.go ?_
          refine CW.seq ?_
          refine CW.mem _ (fun w h => h.row_eq (m' := 2 * D.l.length) (xs' := i64s ((leftL D.l f).set k (a - x))) 1 rfl (rfl) (i64s_set _ _ _)) ?_
          refine CW.region ?_
          refine RW.y (.inl rfl) rfl (Yv.move rfl) ?_
          refine RW.y (.inl rfl) rfl (Yv.nilCheck rfl) ?_
          refine RW.y (.inl rfl) rfl (Yv.fieldAddr Tryz.underlying93 rfl Tryz.sizeOf33 rfl rfl) ?_
          refine RW.y (.inl rfl) rfl (Yv.load1 Tryz.isAgg33 rfl (CF.blk 0 rfl rfl)) ?_
          refine RW.y (.inl rfl) rfl (Yv.move rfl) ?_
          refine RW.y (.inl rfl) rfl (Yv.index0 Tryz.underlying33 Tryz.sizeOf2 rfl rfl (by omega) (by omega)) ?_
          refine RW.y (.inl rfl) rfl (Yv.load1 Tryz.isAgg2 rfl (CF.row 1 rfl (i64s_get _ _ _ (show ((leftL D.l f).set k (a - x))[bk k]? = some b by rw [List.getElem?_set_ne (Ne.symm hbn)]; exact hb)))) ?_
          refine RW.y (.inl rfl) rfl (Yv.move rfl) ?_
          refine RW.y (.inl rfl) rfl (Yv.add rfl rfl (by omega)) ?_
          refine RW.y (.inl rfl) rfl (Yv.index0 Tryz.underlying33 Tryz.sizeOf2 rfl rfl (by omega) (by omega)) ?_
          refine RW.o _ (.inl rfl) rfl (Ow.storeRow 1 Tryz.sizeOf2 rfl rfl (rfl) rfl (by rw [i64s_length, List.length_set]; omega)) ?_
          rintro _ _ ⟨rfl, rfl⟩
          refine RW.nil ?_
          refine PW.go ?_
          refine CW.seq ?_
          refine CW.mem _ (fun w h => h.row_eq (m' := 2 * D.l.length) (xs' := i64s (leftL D.l (pushF f k x))) 1 rfl (rfl) (by rw [← leftL_push hF.len hkl ha hb]; exact i64s_set _ _ _)) ?_
          refine CW.drawE mixed (fun _ h => (h).erase 2) ?_
          refine HW.take 0 rfl (by kernel_rfl) (by kernel_rfl) (by kernel_rfl) (fun _ _ _ h => h) (.inl rfl) rfl (fun _ h => (h).erase 2) (Yv.move rfl) ?_
          refine HW.take 1 rfl (by kernel_rfl) (by kernel_rfl) (by kernel_rfl) (fun _ _ _ h => h) (.inl rfl) rfl (fun _ h => (h).erase 2) (Yv.nilCheck rfl) ?_
          refine HW.take 2 rfl (by kernel_rfl) (by kernel_rfl) (by kernel_rfl) (fun _ _ _ h => h) (.inl rfl) rfl (fun _ h => (h).erase 2) (Yv.fieldAddr Tryz.underlying93 rfl Tryz.sizeOf33 rfl rfl) ?_
          refine HW.take 3 rfl (by kernel_rfl) (by kernel_rfl) (by kernel_rfl) (fun _ _ _ h => h) (.inl rfl) rfl (fun _ h => (h).erase 2) (Yv.load1 Tryz.isAgg33 rfl (CF.blk 0 rfl rfl)) ?_
          refine HW.take 4 rfl (by kernel_rfl) (by kernel_rfl) (by kernel_rfl) (fun _ _ _ h => h) (.inl rfl) rfl (fun _ h => (h).erase 2) (Yv.move rfl) ?_
          refine HW.take 5 rfl (by kernel_rfl) (by kernel_rfl) (by kernel_rfl) (fun _ _ _ h => h) (.inl rfl) rfl (fun _ h => (h).erase 2) (Yv.nilCheck rfl) ?_
          refine HW.take 6 rfl (by kernel_rfl) (by kernel_rfl) (by kernel_rfl) (fun _ _ _ h => h) (.inl rfl) rfl (fun _ h => (h).erase 2) (Yv.fieldAddr Tryz.underlying93 rfl Tryz.sizeOf47 rfl rfl) ?_
          refine HW.take 7 rfl (by kernel_rfl) (by kernel_rfl) (by kernel_rfl) (fun _ _ _ h => h) (.inl rfl) rfl (fun _ h => (h).erase 2) (Yv.load1 Tryz.isAgg47 rfl (CF.blk 0 rfl rfl)) ?_
          refine HW.take 8 rfl (by kernel_rfl) (by kernel_rfl) (by kernel_rfl) (fun _ _ _ h => h) (.inl rfl) rfl (fun _ h => (h).erase 2) (Yv.move rfl) ?_
          refine HW.take 12 rfl (by kernel_rfl) (by kernel_rfl) (by kernel_rfl) (fun _ _ _ h => h) (.inl rfl) rfl (fun _ h => (h).erase 2) (Yv.move rfl) ?_
          refine HW.run 9 rfl (by kernel_rfl) _ (.inl rfl) rfl (Ow.call e30 rfl (C.val (fun w hs => arcsTailT R.ba D (k : Nat) (by omega) t ht _ (hA _ hs.mod)))) (by rintro _ _ ⟨rfl, rfl⟩ w h; exact (h).erase 2) ?_
          rintro _ _ ⟨rfl, rfl⟩
          refine HW.take 10 rfl (by kernel_rfl) (by kernel_rfl) (by kernel_rfl) (fun _ _ _ h => h) (.inl rfl) rfl (fun _ h => (h).erase 2) (Yv.index0 Tryz.underlying33 Tryz.sizeOf2 rfl rfl (by omega) (by omega)) ?_
          refine HW.run 11 rfl (by kernel_rfl) _ (.inl rfl) rfl (Yv.ow (Yv.load1 Tryz.isAgg2 rfl (CF.row 2 rfl (i64s_get _ _ _ hot)))) (by rintro _ _ ⟨rfl, rfl⟩ w h; exact (h).erase 2) ?_
          rintro _ _ ⟨rfl, rfl⟩
          refine HW.take 13 rfl (by kernel_rfl) (by kernel_rfl) (by kernel_rfl) (fun _ _ _ h => h) (.inl rfl) rfl (fun _ h => (h).erase 2) (Yv.sub rfl rfl (by omega)) ?_
          refine HW.take 14 rfl (by kernel_rfl) (by kernel_rfl) (by kernel_rfl) (fun _ _ _ h => h) (.inl rfl) rfl (fun _ h => (h).erase 2) (Yv.index0 Tryz.underlying33 Tryz.sizeOf2 rfl rfl (by omega) (by omega)) ?_
          refine HW.run 15 rfl (by kernel_rfl) _ (.inl rfl) rfl (Ow.storeRow 2 Tryz.sizeOf2 rfl rfl (rfl) rfl (by rw [i64s_length]; omega)) (by rintro _ _ ⟨rfl, rfl⟩ w h; exact (h).erase 2) ?_
          rintro _ _ ⟨rfl, rfl⟩
          refine HW.done (by kernel_rfl) ?_
          refine PW.go ?_
          refine CW.seq ?_
          refine CW.mem _ (fun w h => h.row_eq (m' := D.n) (xs' := i64s ((overL D.n D.l f).set t (exc D.l f (t : Nat) - x))) 2 rfl (rfl) (i64s_set _ _ _)) ?_
          refine CW.drawE mixed (fun _ h => (h).erase 2) ?_
          refine HW.take 0 rfl (by kernel_rfl) (by kernel_rfl) (by kernel_rfl) (fun _ _ _ h => h) (.inl rfl) rfl (fun _ h => (h).erase 2) (Yv.move rfl) ?_
          refine HW.take 1 rfl (by kernel_rfl) (by kernel_rfl) (by kernel_rfl) (fun _ _ _ h => h) (.inl rfl) rfl (fun _ h => (h).erase 2) (Yv.nilCheck rfl) ?_
          refine HW.take 2 rfl (by kernel_rfl) (by kernel_rfl) (by kernel_rfl) (fun _ _ _ h => h) (.inl rfl) rfl (fun _ h => (h).erase 2) (Yv.fieldAddr Tryz.underlying93 rfl Tryz.sizeOf33 rfl rfl) ?_
          refine HW.take 3 rfl (by kernel_rfl) (by kernel_rfl) (by kernel_rfl) (fun _ _ _ h => h) (.inl rfl) rfl (fun _ h => (h).erase 2) (Yv.load1 Tryz.isAgg33 rfl (CF.blk 0 rfl rfl)) ?_
          refine HW.take 4 rfl (by kernel_rfl) (by kernel_rfl) (by kernel_rfl) (fun _ _ _ h => h) (.inl rfl) rfl (fun _ h => (h).erase 2) (Yv.move rfl) ?_
          refine HW.take 5 rfl (by kernel_rfl) (by kernel_rfl) (by kernel_rfl) (fun _ _ _ h => h) (.inl rfl) rfl (fun _ h => (h).erase 2) (Yv.nilCheck rfl) ?_
          refine HW.take 6 rfl (by kernel_rfl) (by kernel_rfl) (by kernel_rfl) (fun _ _ _ h => h) (.inl rfl) rfl (fun _ h => (h).erase 2) (Yv.fieldAddr Tryz.underlying93 rfl Tryz.sizeOf47 rfl rfl) ?_
          refine HW.take 7 rfl (by kernel_rfl) (by kernel_rfl) (by kernel_rfl) (fun _ _ _ h => h) (.inl rfl) rfl (fun _ h => (h).erase 2) (Yv.load1 Tryz.isAgg47 rfl (CF.blk 0 rfl rfl)) ?_
          refine HW.take 8 rfl (by kernel_rfl) (by kernel_rfl) (by kernel_rfl) (fun _ _ _ h => h) (.inl rfl) rfl (fun _ h => (h).erase 2) (Yv.move rfl) ?_
          refine HW.take 12 rfl (by kernel_rfl) (by kernel_rfl) (by kernel_rfl) (fun _ _ _ h => h) (.inl rfl) rfl (fun _ h => (h).erase 2) (Yv.move rfl) ?_
          refine HW.run 9 rfl (by kernel_rfl) _ (.inl rfl) rfl (Ow.call e31 rfl (C.val (fun w hs => arcsHeadT R.ba D (k : Nat) q hq _ (hA _ hs.mod)))) (by rintro _ _ ⟨rfl, rfl⟩ w h; exact (h).erase 2) ?_
          rintro _ _ ⟨rfl, rfl⟩
          refine HW.take 10 rfl (by kernel_rfl) (by kernel_rfl) (by kernel_rfl) (fun _ _ _ h => h) (.inl rfl) rfl (fun _ h => (h).erase 2) (Yv.index0 Tryz.underlying33 Tryz.sizeOf2 rfl rfl (by omega) (by omega)) ?_
          refine HW.run 11 rfl (by kernel_rfl) _ (.inl rfl) rfl (Yv.ow (Yv.load1 Tryz.isAgg2 rfl (CF.row 2 rfl (i64s_get _ _ _ (show ((overL D.n D.l f).set t (exc D.l f (t : Nat) - x))[q]? = _ by rw [List.getElem?_set_ne htq]; exact hoq))))) (by rintro _ _ ⟨rfl, rfl⟩ w h; exact (h).erase 2) ?_
          rintro _ _ ⟨rfl, rfl⟩
          refine HW.take 13 rfl (by kernel_rfl) (by kernel_rfl) (by kernel_rfl) (fun _ _ _ h => h) (.inl rfl) rfl (fun _ h => (h).erase 2) (Yv.add rfl rfl (by omega)) ?_
          refine HW.take 14 rfl (by kernel_rfl) (by kernel_rfl) (by kernel_rfl) (fun _ _ _ h => h) (.inl rfl) rfl (fun _ h => (h).erase 2) (Yv.index0 Tryz.underlying33 Tryz.sizeOf2 rfl rfl (by omega) (by omega)) ?_
          refine HW.run 15 rfl (by kernel_rfl) _ (.inl rfl) rfl (Ow.storeRow 2 Tryz.sizeOf2 rfl rfl (rfl) rfl (by rw [i64s_length, List.length_set]; omega)) (by rintro _ _ ⟨rfl, rfl⟩ w h; exact (h).erase 2) ?_
          rintro _ _ ⟨rfl, rfl⟩
          refine HW.done (by kernel_rfl) ?_
          refine PW.go ?_
          refine CW.seq ?_
          refine CW.mem _ (fun w h => h.row_eq (m' := D.n) (xs' := i64s (overL D.n D.l (pushF f k x))) 2 rfl (rfl) (by rw [← overL_push hok hF.len hkl ht hq hot hoq]; exact i64s_set _ _ _)) ?_
          refine CW.region ?_
          refine RW.y (.inl rfl) rfl (Yv.assign rfl) ?_
          refine RW.nil ?_
          refine PW.go ?_
          refine CW.ret ?_
          refine PW.ret1 Tryz.results14 rfl (fun w1 hs => ?_)
          have hyes : okPush D.l f (k : Nat) x := ⟨by omega, by omega, by omega, by rw [atI_nat, getD_of ha]; omega⟩
          obtain ⟨F', h', hk⟩ := (restShut hs).outMut 0 rfl
          exact ⟨pushF f k x, by unfold pushR; rw [if_pos hyes]; rfl, by rw [decide_eq_true hyes], hs.mod, F', h', hk⟩

set_option maxRecDepth 100000 in
theorem residNew (p : Value) (n : Nat) (l : List Edg) (hok : ArcsOk n l) (w : World) (hN : ∀ w', Gr w w' → Calls Tryz.prog 61 #[p] w' fun e w1 => e = .returned (.int .i64 n) ∧ Gr w' w1) (hE : ∀ w', Gr w w' → Calls Tryz.prog 65 #[p] w' fun e w1 => ∃ v, e = .returned v ∧ Gr w' w1 ∧ ∃ F, (row v 79 3 l.length (cellsE l)).holds w1 F ∧ ∀ k, F k → w'.heap.size ≤ k ∧ k < w1.heap.size) : Calls Tryz.prog 8 #[p] w fun en w1 => ∃ x : RI × List Int, (∀ v, v < n → (csrD n l x.2).of v = outOf n l v) ∧ en = .returned (.pointer (some ⟨x.1.b, 0, none⟩)) ∧ Gr w w1 ∧ ∃ F, (Ass.star (nowA (fun w' => IsArcs w' x.1.ba (csrD n l x.2))) (restA x.1 n (2 * l.length) (leftL l (List.replicate l.length 0)) (overL n l (List.replicate l.length 0)))).holds w1 F ∧ ∀ k, F k → w.heap.size ≤ k ∧ k < w1.heap.size := by
  have hn := hok.hn
  have hl := hok.hl
  refine CW.enter (P := Tryz.prog) (F0 := none0) (L := [(0, _)]) 36 [] Tryz.func8 rfl Tryz.ntmps8 (Nat.le_of_ble_eq_true rfl) (St.start w none0) rfl ?_
  refine CW.seq ?_
  refine CW.region ?_
  refine RW.y (.inl rfl) rfl (Yv.assign rfl) ?_
  refine RW.nil ?_
  refine PW.go ?_
  refine CW.seq ?_
  refine CW.region ?_
  refine RW.y (.inl rfl) rfl (Yv.move rfl) ?_
  refine RW.o _ (.inl rfl) rfl (Ow.call e41 rfl (C.new (val := fun (x : Nat × List Int) => .pointer (some ⟨x.1, 0, none⟩)) (φ := fun x => ∀ v, v < n → (csrD (n) l x.2).of v = outOf (n) l v) (Ψ := fun x => nowA (fun w' => IsArcs w' x.1 (csrD (n) l x.2))) (fun w2 hs => csrNew p n l hok w2 (fun w' hg => hN w' (hs.mod.below.trans hg)) (fun w' hg => hE w' (hs.mod.below.trans hg))))) ?_
  rintro _ _ ⟨⟨ba, out⟩, hof, rfl, rfl⟩
  refine RW.y (.inl rfl) rfl (Yv.assign rfl) ?_
  refine RW.nil ?_
  refine PW.go ?_
  refine CW.cut (σ := Nat × Nat × Nat) (fun s => True) (fun s => [(3, .pointer (some ⟨ba, 0, none⟩)), (4, .pointer (some ⟨s.1, 0, none⟩))]) (fun s => [blk s.1 [.pointer (some ⟨ba, 0, none⟩), .slice (some ⟨s.2.1, 0, none⟩) (2 * l.length) (2 * l.length), .slice (some ⟨s.2.2, 0, none⟩) n n] 93, row (.slice (some ⟨s.2.1, 0, none⟩) (2 * l.length) (2 * l.length)) 2 1 (2 * l.length) (i64s (fillTo (2 * l.length) (fun (i : Nat) => capOf l (i : Int)) 0)), row (.slice (some ⟨s.2.2, 0, none⟩) n n) 2 1 n (i64s (overL n l (List.replicate l.length 0))), nowA (fun w' => IsArcs w' ba (csrD n l out))]) ?_ ?_
  ·
    refine CW.draw0 mixed ?_
    refine HW.take 0 rfl (by kernel_rfl) (by kernel_rfl) (by kernel_rfl) (fun _ _ _ h => h) (.inl rfl) rfl (fun _ h => h) (Yv.move rfl) ?_
    refine HW.take 1 rfl (by kernel_rfl) (by kernel_rfl) (by kernel_rfl) (fun _ _ _ h => h) (.inl rfl) rfl (fun _ h => h) (Yv.move rfl) ?_
    refine HW.take 4 rfl (by kernel_rfl) (by kernel_rfl) (by kernel_rfl) (fun _ _ _ h => h) (.inl rfl) rfl (fun _ h => h) (Yv.move rfl) ?_
    refine HW.run 2 rfl (by kernel_rfl) _ (.inl rfl) rfl (Ow.call e16 rfl (C.val (fun w hs => arcsLen ba (csrD n l out) _ (hs.now 0 rfl)))) (by rintro _ _ ⟨rfl, rfl⟩ w h; exact h) ?_
    rintro _ _ ⟨rfl, rfl⟩
    refine HW.run2 3 5 (by kernel_rfl) (fun a w hf hs => HW.opp 3 rfl _ (.inl rfl) rfl (Ow.make (m := 2 * l.length) Tryz.underlying33 info2 rfl rfl rfl (rfl) (rfl) (by omega) (by omega)) (by rintro _ _ ⟨b11, rfl, rfl⟩ w h; exact (h).erase 0) ?_ hf hs) (fun a w hf hs => HW.opp 5 rfl _ (.inl rfl) rfl (Ow.call e42 rfl (C.val (fun w hs => arcsN ba (csrD n l out) _ (hs.now 0 rfl)))) (by rintro _ _ ⟨rfl, rfl⟩ w h; exact h) ?_ hf hs)
    ·
      clear hf hs
      rintro _ _ ⟨b11, rfl, rfl⟩
      refine HW.run 5 rfl (by kernel_rfl) _ (.inl rfl) rfl (Ow.call e42 rfl (C.val (fun w hs => arcsN ba (csrD n l out) _ (hs.now 1 rfl)))) (by rintro _ _ ⟨rfl, rfl⟩ w h; exact (h).erase 0) ?_
      rintro _ _ ⟨rfl, rfl⟩
      refine HW.run 6 rfl (by kernel_rfl) _ (.inl rfl) rfl (Ow.make (m := n) Tryz.underlying33 info2 rfl rfl rfl (rfl) (rfl) (by omega) (by omega)) (by rintro _ _ ⟨b14, rfl, rfl⟩ w h; exact ((h).erase 0).erase 0) ?_
      rintro _ _ ⟨b14, rfl, rfl⟩
      refine HW.take 7 rfl (by kernel_rfl) (by kernel_rfl) (by kernel_rfl) (fun _ _ _ h => h) (.inl rfl) rfl (fun _ h => ((h).erase 0).erase 0) (Yv.build rfl (fun w => by exact bld93_0_1_2 _ _ _ _ _ _ _ w)) ?_
      refine HW.run 8 rfl (by kernel_rfl) _ (.inl rfl) rfl (Ow.box (cs := [_, _, _]) rfl rfl) (by rintro _ _ ⟨b16, rfl, rfl⟩ w h; exact (((h).erase 0).erase 0).erase 0) ?_
      rintro _ _ ⟨b16, rfl, rfl⟩
      refine HW.take 9 rfl (by kernel_rfl) (by kernel_rfl) (by kernel_rfl) (fun _ _ _ h => h) (.inl rfl) rfl (fun _ h => (((h).erase 0).erase 0).erase 0) (Yv.assign rfl) ?_
      refine HW.done (by kernel_rfl) ?_
      refine PW.mem _ (fun w h => h.row_eq (m' := 2 * l.length) (xs' := i64s (fillTo (2 * l.length) (fun (i : Nat) => capOf l (i : Int)) 0)) 2 rfl (rfl) (by rw [fillTo_zero]; simp [i64s])) ?_
      refine PW.mem _ (fun w h => h.row_eq (m' := n) (xs' := i64s (overL n l (List.replicate l.length 0))) 1 rfl (rfl) (by rw [overL_zero]; simp [i64s])) ?_
      refine PW.mem _ (fun w h => h.front 3 rfl) ?_
      refine PW.mem _ (fun w h => h.front 2 rfl) ?_
      refine PW.mem _ (fun w h => h.front 3 rfl) ?_
      refine PW.mem _ (fun w h => h.front 3 rfl) ?_
      exact PW.mid (b16, b11, b14) (trivial) ⟨rfl, rfl, trivial⟩ (fun w h => h)
    ·
      clear hf hs
      rintro _ _ ⟨rfl, rfl⟩
      refine HW.run2 3 6 (by kernel_rfl) (fun a w hf hs => HW.opp 3 rfl _ (.inl rfl) rfl (Ow.make (m := 2 * l.length) Tryz.underlying33 info2 rfl rfl rfl (rfl) (rfl) (by omega) (by omega)) (by rintro _ _ ⟨b11, rfl, rfl⟩ w h; exact (h).erase 0) ?_ hf hs) (fun a w hf hs => HW.opp 6 rfl _ (.inl rfl) rfl (Ow.make (m := n) Tryz.underlying33 info2 rfl rfl rfl (rfl) (rfl) (by omega) (by omega)) (by rintro _ _ ⟨b14, rfl, rfl⟩ w h; exact (h).erase 0) ?_ hf hs)
      ·
        clear hf hs
        rintro _ _ ⟨b11, rfl, rfl⟩
        refine HW.run 6 rfl (by kernel_rfl) _ (.inl rfl) rfl (Ow.make (m := n) Tryz.underlying33 info2 rfl rfl rfl (rfl) (rfl) (by omega) (by omega)) (by rintro _ _ ⟨b14, rfl, rfl⟩ w h; exact ((h).erase 0).erase 0) ?_
        rintro _ _ ⟨b14, rfl, rfl⟩
        refine HW.take 7 rfl (by kernel_rfl) (by kernel_rfl) (by kernel_rfl) (fun _ _ _ h => h) (.inl rfl) rfl (fun _ h => ((h).erase 0).erase 0) (Yv.build rfl (fun w => by exact bld93_0_1_2 _ _ _ _ _ _ _ w)) ?_
        refine HW.run 8 rfl (by kernel_rfl) _ (.inl rfl) rfl (Ow.box (cs := [_, _, _]) rfl rfl) (by rintro _ _ ⟨b16, rfl, rfl⟩ w h; exact (((h).erase 0).erase 0).erase 0) ?_
        rintro _ _ ⟨b16, rfl, rfl⟩
        refine HW.take 9 rfl (by kernel_rfl) (by kernel_rfl) (by kernel_rfl) (fun _ _ _ h => h) (.inl rfl) rfl (fun _ h => (((h).erase 0).erase 0).erase 0) (Yv.assign rfl) ?_
        refine HW.done (by kernel_rfl) ?_
        refine PW.mem _ (fun w h => h.row_eq (m' := 2 * l.length) (xs' := i64s (fillTo (2 * l.length) (fun (i : Nat) => capOf l (i : Int)) 0)) 2 rfl (rfl) (by rw [fillTo_zero]; simp [i64s])) ?_
        refine PW.mem _ (fun w h => h.row_eq (m' := n) (xs' := i64s (overL n l (List.replicate l.length 0))) 1 rfl (rfl) (by rw [overL_zero]; simp [i64s])) ?_
        refine PW.mem _ (fun w h => h.front 3 rfl) ?_
        refine PW.mem _ (fun w h => h.front 2 rfl) ?_
        refine PW.mem _ (fun w h => h.front 3 rfl) ?_
        refine PW.mem _ (fun w h => h.front 3 rfl) ?_
        exact PW.mid (b16, b11, b14) (trivial) ⟨rfl, rfl, trivial⟩ (fun w h => h)
      ·
        clear hf hs
        rintro _ _ ⟨b14, rfl, rfl⟩
        refine HW.run 3 rfl (by kernel_rfl) _ (.inl rfl) rfl (Ow.make (m := 2 * l.length) Tryz.underlying33 info2 rfl rfl rfl (rfl) (rfl) (by omega) (by omega)) (by rintro _ _ ⟨b11, rfl, rfl⟩ w h; exact ((h).erase 0).erase 0) ?_
        rintro _ _ ⟨b11, rfl, rfl⟩
        refine HW.take 7 rfl (by kernel_rfl) (by kernel_rfl) (by kernel_rfl) (fun _ _ _ h => h) (.inl rfl) rfl (fun _ h => ((h).erase 0).erase 0) (Yv.build rfl (fun w => by exact bld93_0_1_2 _ _ _ _ _ _ _ w)) ?_
        refine HW.run 8 rfl (by kernel_rfl) _ (.inl rfl) rfl (Ow.box (cs := [_, _, _]) rfl rfl) (by rintro _ _ ⟨b16, rfl, rfl⟩ w h; exact (((h).erase 0).erase 0).erase 0) ?_
        rintro _ _ ⟨b16, rfl, rfl⟩
        refine HW.take 9 rfl (by kernel_rfl) (by kernel_rfl) (by kernel_rfl) (fun _ _ _ h => h) (.inl rfl) rfl (fun _ h => (((h).erase 0).erase 0).erase 0) (Yv.assign rfl) ?_
        refine HW.done (by kernel_rfl) ?_
        refine PW.mem _ (fun w h => h.row_eq (m' := 2 * l.length) (xs' := i64s (fillTo (2 * l.length) (fun (i : Nat) => capOf l (i : Int)) 0)) 1 rfl (rfl) (by rw [fillTo_zero]; simp [i64s])) ?_
        refine PW.mem _ (fun w h => h.row_eq (m' := n) (xs' := i64s (overL n l (List.replicate l.length 0))) 2 rfl (rfl) (by rw [overL_zero]; simp [i64s])) ?_
        refine PW.mem _ (fun w h => h.front 3 rfl) ?_
        refine PW.mem _ (fun w h => h.front 3 rfl) ?_
        refine PW.mem _ (fun w h => h.front 3 rfl) ?_
        refine PW.mem _ (fun w h => h.front 3 rfl) ?_
        exact PW.mid (b16, b11, b14) (trivial) ⟨rfl, rfl, trivial⟩ (fun w h => h)
  · intro ⟨b16, b11, b14⟩ _
    (try dsimp only)
    refine CW.seq ?_
    refine CW.seq ?_
    refine CW.region ?_
    refine RW.y (.inl rfl) rfl (Yv.move rfl) ?_
    refine RW.y (.inl rfl) rfl (Yv.nilCheck rfl) ?_
    refine RW.y (.inl rfl) rfl (Yv.fieldAddr Tryz.underlying93 rfl Tryz.sizeOf33 rfl rfl) ?_
    refine RW.y (.inl rfl) rfl (Yv.load1 Tryz.isAgg33 rfl (CF.blk 0 rfl rfl)) ?_
    refine RW.y (.inl rfl) rfl (Yv.len Tryz.underlying33 rfl) ?_
    refine RW.y (.inl rfl) rfl (Yv.move rfl) ?_
    refine RW.nil ?_
    refine PW.go ?_
    refine CW.block ?_
    refine CW.loop (σ := Nat) (fun i => i ≤ 2 * l.length) (fun i => [(3, .pointer (some ⟨ba, 0, none⟩)), (4, .pointer (some ⟨b16, 0, none⟩)), (21, .int .i64 ((2 * l.length : Nat) : Int)), (22, .int .i64 (i : Nat))]) (fun i => [blk b16 [.pointer (some ⟨ba, 0, none⟩), .slice (some ⟨b11, 0, none⟩) (2 * l.length) (2 * l.length), .slice (some ⟨b14, 0, none⟩) n n] 93, row (.slice (some ⟨b11, 0, none⟩) (2 * l.length) (2 * l.length)) 2 1 (2 * l.length) (i64s (fillTo (2 * l.length) (fun (i : Nat) => capOf l (i : Int)) i)), row (.slice (some ⟨b14, 0, none⟩) n n) 2 1 n (i64s (overL n l (List.replicate l.length 0))), nowA (fun w' => IsArcs w' ba (csrD n l out))]) (fun i => 2 * l.length - i) 0 (by simp) ⟨rfl, rfl, rfl, rfl, trivial⟩ (fun w h => h) ?_
    intro i hi
    refine CW.seq ?_
    refine CW.region ?_
    refine RW.y (.inl rfl) rfl (Yv.lt rfl rfl) ?_
    refine RW.nil ?_
    refine PW.go ?_
    refine CW.seq ?_
    refine CW.condD rfl (fun hc23 => ?_) (fun hc23 => ?_)
    ·
      refine CW.skip ?_
      refine PW.go ?_
      refine CW.seq ?_
      refine CW.block ?_
      refine CW.seq ?_
      refine CW.region ?_
      refine RW.y (.inl rfl) rfl (Yv.move rfl) ?_
      refine RW.y (.inl rfl) rfl (Yv.assign rfl) ?_
      refine RW.nil ?_
      refine PW.go ?_
      refine CW.drawE mixed (fun _ h => (h).erase 1) ?_
      refine HW.take 0 rfl (by kernel_rfl) (by kernel_rfl) (by kernel_rfl) (fun _ _ _ h => h) (.inl rfl) rfl (fun _ h => (h).erase 1) (Yv.move rfl) ?_
      refine HW.take 1 rfl (by kernel_rfl) (by kernel_rfl) (by kernel_rfl) (fun _ _ _ h => h) (.inl rfl) rfl (fun _ h => (h).erase 1) (Yv.nilCheck rfl) ?_
      refine HW.take 2 rfl (by kernel_rfl) (by kernel_rfl) (by kernel_rfl) (fun _ _ _ h => h) (.inl rfl) rfl (fun _ h => (h).erase 1) (Yv.fieldAddr Tryz.underlying93 rfl Tryz.sizeOf33 rfl rfl) ?_
      refine HW.take 3 rfl (by kernel_rfl) (by kernel_rfl) (by kernel_rfl) (fun _ _ _ h => h) (.inl rfl) rfl (fun _ h => (h).erase 1) (Yv.load1 Tryz.isAgg33 rfl (CF.blk 0 rfl rfl)) ?_
      refine HW.take 4 rfl (by kernel_rfl) (by kernel_rfl) (by kernel_rfl) (fun _ _ _ h => h) (.inl rfl) rfl (fun _ h => (h).erase 1) (Yv.move rfl) ?_
      refine HW.take 5 rfl (by kernel_rfl) (by kernel_rfl) (by kernel_rfl) (fun _ _ _ h => h) (.inl rfl) rfl (fun _ h => (h).erase 1) (Yv.move rfl) ?_
      refine HW.take 6 rfl (by kernel_rfl) (by kernel_rfl) (by kernel_rfl) (fun _ _ _ h => h) (.inl rfl) rfl (fun _ h => (h).erase 1) (Yv.move rfl) ?_
      refine HW.run 7 rfl (by kernel_rfl) _ (.inl rfl) rfl (Ow.call e43 rfl (C.val (fun w hs => arcsCap ba (csrD n l out) (i : Nat) _ (hs.now 3 rfl)))) (by rintro _ _ ⟨rfl, rfl⟩ w h; exact (h).erase 1) ?_
      rintro _ _ ⟨rfl, rfl⟩
      refine HW.take 8 rfl (by kernel_rfl) (by kernel_rfl) (by kernel_rfl) (fun _ _ _ h => h) (.inl rfl) rfl (fun _ h => (h).erase 1) (Yv.index0 Tryz.underlying33 Tryz.sizeOf2 rfl rfl (by omega) (by omega)) ?_
      refine HW.run 9 rfl (by kernel_rfl) _ (.inl rfl) rfl (Ow.storeRow 1 Tryz.sizeOf2 rfl rfl (rfl) rfl (by rw [i64s_length, fillTo_length]; omega)) (by rintro _ _ ⟨rfl, rfl⟩ w h; exact (h).erase 1) ?_
      rintro _ _ ⟨rfl, rfl⟩
      refine HW.done (by kernel_rfl) ?_
      refine PW.block ?_
      refine PW.go ?_
      refine CW.region ?_
      refine RW.y (.inl rfl) rfl (Yv.add rfl rfl (by omega)) ?_
      refine RW.y (.inl rfl) rfl (Yv.move rfl) ?_
      refine RW.nil ?_
      refine PW.mem _ (fun w h => h.row_eq (m' := 2 * l.length) (xs' := i64s (fillTo (2 * l.length) (fun (i : Nat) => capOf l (i : Int)) (i + 1))) 1 rfl (rfl) (by rw [← fillTo_succ]; exact i64s_set _ _ _)) ?_
      exact PW.next (i + 1) (by omega) ⟨rfl, rfl, rfl, rfl, trivial⟩ (fun w h => h) (by omega)
    ·
      refine CW.exit ?_
      refine PW.then_exit ?_
      refine PW.then_exit ?_
      refine PW.block_exit ?_
      refine PW.go ?_
      refine CW.seq ?_
      refine CW.region ?_
      refine RW.y (.inl rfl) rfl (Yv.move rfl) ?_
      refine RW.y (.inl rfl) rfl (Yv.assign rfl) ?_
      refine RW.nil ?_
      refine PW.go ?_
      refine CW.ret ?_
      refine PW.mem _ (fun w h => h.row_eq (m' := 2 * l.length) (xs' := i64s (leftL l (List.replicate l.length 0))) 1 rfl (rfl) (by rw [show i = 2 * l.length by omega, fillTo_all, leftL_zero])) ?_
      refine PW.ret1 Tryz.results8 rfl (fun w1 hs => ?_)
      obtain ⟨F, hF, hk⟩ := (((restShut (R := ⟨b16, ba, b11, b14⟩) hs).front 1 rfl).join).out 0 rfl
      exact ⟨(⟨b16, ba, b11, b14⟩, out), hof, rfl, hs.mod.below, F, hF, hk⟩

end Go.Proofs.YtipoblpnkkcpgaaGreat
