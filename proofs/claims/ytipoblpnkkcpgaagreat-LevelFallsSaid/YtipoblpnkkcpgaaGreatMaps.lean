/-
  Maps whose key is an array of two integers and whose element is an integer: a piece of memory, and the operations on it.
-/
import Derived.Test.YtipoblpnkkcpgaaGreatOps
import Derived.Maps.Own
import Derived.WideKeyPair
set_option linter.unusedVariables false
set_option linter.unusedSimpArgs false
namespace Go.Proofs.YtipoblpnkkcpgaaGreat.B
open Go Go.RowKit
open Go.WideElems (Fit rd rg rd_mk rd_key rg_of)
open Go.ChangeMaps (setBlock heap_setBlock_same heap_setBlock_other)
open Go.Maps (Keyed)
open Go.WideMaps (ArrKey)

def pairV (u v : Int) : Value := .agg #[.int .i64 u, .int .i64 v]
def anyV : Value → Option (DataW Nat × List MemPlace) := fun _ => some (.nil, [])
/-- Block b is a map of at most n entries: f tells them. -/
def mapA (P : Program) (k : TypeId) (b n : Nat) (f : Int → Int → Option Int) : Ass where
  holds w F := (∃ es clock, w.heap[b]? = some (.map es clock) ∧ Fit P k anyV es clock ∧ es.size ≤ n ∧ (∀ x ∈ es.toList, ∃ u v i, x.key = pairV u v ∧ x.val = .int .i64 i ∧ f u v = some i) ∧
    (∀ u v i, f u v = some i → ∃ x ∈ es.toList, x.key = pairV u v)) ∧ ∀ k, F k ↔ k = b
  loc := fun ⟨⟨es, clock, h1, hr⟩, h2⟩ hb => ⟨⟨es, clock, (hb b ((h2 b).2 rfl)).trans h1, hr⟩, h2⟩
def updM (f : Int → Int → Option Int) (u v i : Int) : Int → Int → Option Int := fun a b => if a = u ∧ b = v then some i else f a b

variable {P : Program} {n : Nat} {w0 : World} {F0 : Nat → Prop} {L : Env} {H : List Ass}
variable {dst : Option Tmp} {ty : TypeId} {pos : String} {aft : Array Edge} {g : Option (Nat × Bool)}
theorem wf64 {a : Int} (h : -9223372036854775808 ≤ a ∧ a ≤ 9223372036854775807) : (Lit.int .i64 a).wf = true := by rw [Lit.wf, Bool.and_eq_true, decide_eq_true_eq, decide_eq_true_eq, IntKind.min, IntKind.max]; simp [IntKind.bits, IntKind.signed]; omega
theorem pairV_inj {a b c d : Int} (h : pairV a b = pairV c d) : a = c ∧ b = d := by
  simp [pairV] at h; exact h
theorem Ow.makeMap {t k : TypeId} :
    Ow P n w0 F0 ⟨dst, .makeMap t none, ty, pos, aft, g⟩ L H (fun v H' => ∃ b, v = .map (some b) ∧ H' = mapA P k b 0 (fun _ _ => none) :: H) := by
  intro a w hf hs K Q hK
  unfold Oper.wp
  simp only [execOp]
  simp [run_makeMap]
  refine hK _ _ _ ⟨w.heap.size, rfl, rfl⟩ (hs.new (F' := fun k => k = w.heap.size) (below_alloc' w _) ⟨⟨#[], 0, by show (w.heap.push _)[w.heap.size]? = _; simp, ⟨by simp, MapKept.stamped_empty 0, by simp⟩, by simp, by simp, by simp⟩, fun k => Iff.rfl⟩ (fun k hk => by subst hk; simp))
theorem Yv.lookup {t k e : TypeId} {x y : Operand} {b m : Nat} {f : Int → Int → Option Int} {u v : Int} (i : Nat) (K : Keyed P k) (A : ArrKey P k e 2) (he : P.underlying e = some (.int .i64)) (hsz : ∃ m, P.types.size = m + 1) {el : TypeId}
    (ht : P.underlying t = some (.map k el)) (hz : ∀ w, (zeroValue el).run P w = .ok (.int .i64 0) w) (hx : L.ev x = some (.map (some b))) (hy : L.ev y = some (.agg #[.int .i64 u, .int .i64 v]))
    (hu : -9223372036854775808 ≤ u ∧ u ≤ 9223372036854775807) (hv : -9223372036854775808 ≤ v ∧ v ≤ 9223372036854775807) (hi : H[i]? = some (mapA P k b m f)) :
    Yv P n w0 F0 ⟨dst, .lookup t x y true, ty, pos, aft, g⟩ L H (.tuple #[.int .i64 ((f u v).getD 0), .bool (f u v).isSome]) := by
  intro a w hf hs
  obtain ⟨F, ⟨⟨es, clock, hb, hF, hn, h1, h2⟩, _⟩, _⟩ := hs.get i hi
  have hkey := WideMaps.keyOf_pair A he hsz (wf64 hu) (wf64 hv)
  simp only [execOp, hf.ev hx, hf.ev hy]
  rcases Maps.fit_look true K ht (hz w) hb hF hkey with ⟨hrun, hno, _⟩ | ⟨e0, y, hm, hk0, hrun, _⟩
  · have hfn : f u v = none := by
      cases hq : f u v with
      | none => rfl
      | some i => obtain ⟨x, hx, hxk⟩ := h2 u v i hq; exact absurd hxk (hno x hx)
    simp [hrun, hfn]
  · obtain ⟨u', v', j, hk', hv', hf'⟩ := h1 e0 hm
    obtain ⟨rfl, rfl⟩ := pairV_inj (hk0.symm.trans hk')
    simp [hrun, hf', hv']
theorem mod_setBlock {w : World} {b : Nat} {es : Array MapEntry} {clock : Nat} (hb : w.heap[b]? = some (.map es clock)) (o : Obj) : Mod (fun k => k = b) w (setBlock w b o) :=
  ⟨rfl, rfl, rfl, by simp [setBlock], fun k _ hn => heap_setBlock_other hb _ hn, Nat.le_refl _⟩
theorem St.map_mono {w : World} {k : TypeId} {b m m' : Nat} {f : Int → Int → Option Int} (hs : St w0 F0 w H) (i : Nat) (hi : H[i]? = some (mapA P k b m f)) (hm : m ≤ m') : St w0 F0 w (H.set i (mapA P k b m' f)) :=
  hs.conv i hi (fun F ⟨⟨es, clock, h1, h2, h3, h4⟩, h5⟩ => ⟨⟨es, clock, h1, h2, Nat.le_trans h3 hm, h4⟩, h5⟩)
theorem Ow.mapUpdate {t k e : TypeId} {x y z : Operand} {b m : Nat} {f : Int → Int → Option Int} {u v q : Int} (i : Nat) (K : Keyed P k) (A : ArrKey P k e 2) (he : P.underlying e = some (.int .i64)) (hsz : ∃ m, P.types.size = m + 1) {el : TypeId}
    (ht : P.underlying t = some (.map k el)) (hx : L.ev x = some (.map (some b))) (hy : L.ev y = some (.agg #[.int .i64 u, .int .i64 v])) (hz : L.ev z = some (.int .i64 q))
    (hu : -9223372036854775808 ≤ u ∧ u ≤ 9223372036854775807) (hv : -9223372036854775808 ≤ v ∧ v ≤ 9223372036854775807) (hm : m < 4611686018427387904) (hi : H[i]? = some (mapA P k b m f)) :
    Ow P n w0 F0 ⟨dst, .mapUpdate t x y z, ty, pos, aft, g⟩ L H (fun r H' => r = undef ∧ H' = H.set i (mapA P k b (m + 1) (updM f u v q))) := by
  intro a w hf hs Kq Q hK
  obtain ⟨F, ⟨⟨es, clock, hb, hF, hn, h1, h2⟩, _⟩, _⟩ := hs.get i hi
  have hkey := WideMaps.keyOf_pair A he hsz (wf64 hu) (wf64 hv)
  have hes : es.size < maxLen := Nat.lt_of_le_of_lt hn (Nat.lt_of_lt_of_le hm (by decide))
  obtain ⟨es', clock', hrun, F', hput, _, _, hlast⟩ := Maps.fit_store (R' := anyV) K ht hb hF hes (fun _ _ _ _ hz => hz) (key := .agg #[.int .i64 u, .int .i64 v]) (val := .int .i64 q) hkey rfl
  have hsize : es'.size ≤ m + 1 := by
    have e1 : es'.size = ((es'.toList.map (rg P k anyV)).foldr DataW.insert []).length := by rw [length_sorted]; simp
    rw [e1, hput]
    unfold ChangeMaps.putKey
    rw [length_insert]
    have e2 := List.length_filter_le (ChangeMaps.notKey (Lit.string (keyBytes [.int .i64 u, .int .i64 v]))) ((es.toList.map (rg P k anyV)).foldr DataW.insert [])
    rw [length_sorted] at e2
    simp at e2
    omega
  have hmem : ∀ key kl, keyOf P k key = some kl → (key = .agg #[.int .i64 u, .int .i64 v] ∨ ∃ x ∈ es.toList, x.key = key) → ∃ x ∈ es'.toList, x.key = key := by
    intro key kl hk hor
    have : (kl, (DataW.nil : DataW Nat)) ∈ (es'.toList.map (rg P k anyV)).foldr DataW.insert [] := by
      rw [hput]
      unfold ChangeMaps.putKey
      rw [ChangeMaps.mem_insert_iff]
      by_cases hq : key = .agg #[.int .i64 u, .int .i64 v]
      · subst hq; rw [hkey] at hk; cases hk; exact .inl rfl
      · obtain ⟨x, hx, rfl⟩ := hor.resolve_left hq
        refine .inr (List.mem_filter.2 ⟨?_, ?_⟩)
        · refine (WideShapes.sorted_perm _).mem_iff.2 (List.mem_map.2 ⟨x, hx, ?_⟩)
          rw [rg_of (rd_mk (R := anyV) (yv := (.nil, [])) (val := x.val) (born := x.born) hk rfl)]
        · refine (Maps.notKey_iff (K.key hkey)).2 (fun e1 => hq (K.inj (e1 ▸ hk) hkey))
    obtain ⟨x, hx, hxe⟩ := List.mem_map.1 ((WideShapes.sorted_perm _).mem_iff.1 this)
    obtain ⟨y, hy⟩ := F'.reads x hx
    rw [rg_of hy] at hxe
    have := rd_key hy
    rw [hxe] at this
    exact ⟨x, hx, K.inj this hk⟩
  unfold Oper.wp
  simp only [execOp, hf.ev hx, hf.ev hy, hf.ev hz]
  simp [hrun]
  refine hK _ _ _ ⟨rfl, rfl⟩ (hs.set i hi (fun F ⟨_, hFb⟩ => ⟨(mod_setBlock hb _).mono (fun k hk => (hFb k).2 hk), F, ⟨⟨es', clock', heap_setBlock_same hb _, F', hsize, ?_, ?_⟩, hFb⟩, fun k hk => .inl hk⟩))
  · intro x hx
    rcases hlast x hx with ⟨hx', hne⟩ | ⟨hxk, hxv⟩
    · obtain ⟨u', v', j, hk', hv', hf'⟩ := h1 x hx'
      refine ⟨u', v', j, hk', hv', ?_⟩
      unfold updM
      rw [if_neg (fun hc => hne (by rw [hk', hc.1, hc.2]; rfl)), hf']
    · exact ⟨u, v, q, hxk, hxv, by unfold updM; rw [if_pos ⟨rfl, rfl⟩]⟩
  · intro u' v' j hj
    unfold updM at hj
    by_cases hc : u' = u ∧ v' = v
    · obtain ⟨rfl, rfl⟩ := hc
      exact hmem _ _ hkey (.inl rfl)
    · rw [if_neg hc] at hj
      obtain ⟨x, hx, hxk⟩ := h2 u' v' j hj
      obtain ⟨y, hy⟩ := hF.reads x hx
      have := rd_key hy
      rw [hxk] at this
      exact hmem _ _ this (.inr ⟨x, hx, hxk⟩)
end Go.Proofs.YtipoblpnkkcpgaaGreat.B
