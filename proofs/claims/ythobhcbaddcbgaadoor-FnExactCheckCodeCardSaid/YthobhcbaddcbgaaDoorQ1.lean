/- The argument and the listed variables as they lie in memory, and the row. -/
import Derived.Test.YthobhcbaddcbgaaDoorP3
import Derived.ProofKit
import Derived.Deep.Slices
import Derived.Test.YthobhcbaddcbgaaDoorTie
import Derived.LaidMore
import Derived.OpenShut
import Derived.Test.YthobhcbaddcbgaaDoorCards
import Derived.Stop.Joined
import Derived.SevenTiedAt
/- What the argument reads as: a code in memory. -/
namespace Go.KE
open Go.Proofs Go.ChangeShapes Go.WideShapes Go.RowKit
set_option maxRecDepth 100000

def RW (w : World) : Hp := fun b => w.heap[b]?
variable {H : Type} {enc : TypeId × Value → H} {W : World} {base : Nat} {spare : Nat → Bool} {held : Bool}
theorem cells_R {a : Addr} {n : Nat} {cs : List Value} (h : W.cells? base a n = some cs) (hn : 0 < n) : a.spot = none ∧ RCells (RW W) a.block a.off cs := by
  obtain ⟨_, hl, hc⟩ := World.cells?_some h
  have add0 : a.add 0 = a := by unfold Addr.add; rw [if_pos rfl]
  have h0 := hc 0 hn
  rw [add0, List.getElem?_eq_getElem (by omega)] at h0
  unfold World.cell? at h0
  cases hb : W.heap[a.block]? with
  | none => rw [hb] at h0; cases h0
  | some o =>
    rw [hb] at h0
    cases o with
    | cells arr t fr =>
      simp only at h0
      split at h0
      · cases h0
      · rename_i hs
        have hs : a.spot = none := by
          cases e : a.spot with
          | none => rfl
          | some z => rw [e] at hs; exact absurd rfl hs
        refine ⟨hs, arr, t, fr, hb, fun j v e => ?_⟩
        have hj : j < n := by rw [← hl]; exact (List.getElem?_eq_some_iff.1 e).1
        have := hc j hj
        rw [e] at this
        unfold World.cell? at this
        have eb : (a.add j).block = a.block ∧ (a.add j).off = a.off + j ∧ (a.add j).spot = none := by
          unfold Addr.add
          split
          · rename_i z; subst z; exact ⟨rfl, rfl, hs⟩
          · exact ⟨rfl, rfl, rfl⟩
        rw [eb.1, hb] at this
        simp only [eb.2.1, eb.2.2] at this
        exact this
    | _ => cases h0
theorem add_block (a : Addr) (n : Nat) : (a.add n).block = a.block ∧ (a.add n).off = a.off + n := by
  unfold Addr.add
  split
  · rename_i z; subst z; exact ⟨rfl, rfl⟩
  · exact ⟨rfl, rfl⟩
theorem gather {α : Type} {p : Nat → α → Prop} : ∀ (n : Nat), (∀ i, i < n → ∃ u, p i u) → ∃ us : List α, us.length = n ∧ ∀ (i : Nat) u, us[i]? = some u → p i u
  | 0, _ => ⟨[], rfl, fun i u h => by simp at h⟩
  | n + 1, h => by
    obtain ⟨us, h1, h2⟩ := gather n fun i hi => h i (by omega)
    obtain ⟨u, hu⟩ := h n (by omega)
    refine ⟨us ++ [u], by simp [h1], fun i x hx => ?_⟩
    rcases Nat.lt_or_ge i n with z | z
    · rw [List.getElem?_append_left (by omega)] at hx
      exact h2 i x hx
    · rw [List.getElem?_append_right (by omega)] at hx
      have : i = n := by
        have := (List.getElem?_eq_some_iff.1 hx).1
        simp at this; omega
      subst this
      rw [h1, Nat.sub_self] at hx
      cases hx; exact hu
/-- A slice whose elements can be read. -/
theorem slice_R {e t : TypeId} {ks : List Kd} {fuel : Nat} {v : Value} {x : DataW H × List MemPlace} (ht : P0.underlying t = some (.slice e)) (hk : P0.cellsOf e = ks.length) (hp : 0 < ks.length)
    (h : DataW.trod enc P0 W base (fun _ => true) held fuel t [v] = some x) {Ok : Tup ks → Prop}
    (hel : ∀ n cs y, DataW.trod enc P0 W base (fun _ => true) held n e cs = some y → ∃ u : Tup ks, cs = Tup.enc ks u ∧ Ok u) :
    ∃ (s : Sl) (us : List (Tup ks)), v = s.val ∧ RSlice (RW W) s ks us ∧ us.length ≤ maxLen ∧ ∀ u ∈ us, Ok u := by
  rcases Deep.open_slice ht h with ⟨e1, _⟩ | ⟨a, len, cap, m, n, D, Pl, e1, _, hlc, hcm, hm, _, hx⟩
  · obtain rfl : v = .slice none 0 0 := by simpa using e1
    exact ⟨⟨none, 0, 0⟩, [], rfl, ⟨rfl, Nat.le_refl 0, fun i x h => by simp at h⟩, Nat.zero_le _, fun u hu => by simp at hu⟩
  · obtain rfl : v = .slice (some a) len cap := by simpa using e1
    have hm : m = cap := by simpa using hm
    subst hm
    have key : ∀ i, i < len → ∃ u : Tup ks, (∃ cs', W.cells? base (a.add (i * ks.length)) ks.length = some cs' ∧ cs' = Tup.enc ks u) ∧ Ok u := fun i hi => by
      obtain ⟨cs', h1, h2⟩ := hx i (by omega)
      obtain ⟨u, hu, ok⟩ := hel _ _ _ h2
      rw [hk] at h1
      exact ⟨u, ⟨cs', h1, hu⟩, ok⟩
    obtain ⟨us, hul, hus⟩ := gather len key
    have hsp : 0 < len → a.spot = none := fun hl => by
      obtain ⟨u, ⟨cs', h1, _⟩, _⟩ := key 0 hl
      have := (cells_R h1 hp).1
      simpa [Addr.add] using this
    refine ⟨⟨some a, len, m⟩, us, rfl, ⟨hul, hlc, fun i u hu => ?_⟩, by omega, fun u hu => ?_⟩
    · obtain ⟨⟨cs', h1, h2⟩, _⟩ := hus i u hu
      have hi : i < len := by rw [← hul]; exact (List.getElem?_eq_some_iff.1 hu).1
      have hr := (cells_R h1 hp).2
      have ab := add_block a (i * ks.length)
      rw [ab.1, ab.2, h2] at hr
      exact ⟨a, rfl, hsp (by omega), by omega, by show (i : Int) < (len : Int); omega, hr⟩
    · obtain ⟨i, hi, rfl⟩ := List.mem_iff_getElem.1 hu
      exact (hus i _ (List.getElem?_eq_getElem hi)).2
theorem ints_R {fuel : Nat} {v : Value} {x : DataW H × List MemPlace} (h : DataW.trod enc P0 W base (fun _ => true) held fuel 42 [v] = some x) : ∃ (s : Sl) (us : List Int), v = s.val ∧ RSlice (RW W) s kI us ∧ us.length ≤ maxLen := by
  obtain ⟨s, us, h1, h2, h3, _⟩ := slice_R (ks := kI) (Ok := fun _ => True) Tryd.underlying42 (by kernel_rfl) (by decide) h fun n cs y hy => by
    obtain ⟨k, e1, _⟩ := DataW.trod_int Tryd.underlying3 hy
    exact ⟨k, e1, trivial⟩
  exact ⟨s, us, h1, h2, h3⟩
theorem ins_R {fuel : Nat} {cs : List Value} {x : DataW H × List MemPlace} (h : DataW.trod enc P0 W base (fun _ => true) held fuel 121 cs = some x) : ∃ u : TIns, cs = Tup.enc kIns u ∧ u.2.2.2.size ≤ maxLen := by
  obtain ⟨xs, n, _, _, hl, hlen, hf⟩ := DataW.trod_struct Tryd.underlying121 h
  have c121 : P0.cellsOf 121 = 4 := by kernel_rfl
  have c3 : P0.cellsOf 3 = 1 := by kernel_rfl
  have c2 : P0.cellsOf 2 = 1 := by kernel_rfl
  have c9 : P0.cellsOf 9 = 1 := by kernel_rfl
  have hl : cs.length = 4 := hl.trans c121
  match cs, hl, xs, hlen with
  | [v0, v1, v2, v3], _, [x0, x1, x2, x3], _ =>
    have f0 : DataW.trod enc P0 W base (fun _ => true) held n 3 (([v0, v1, v2, v3].drop 0).take (P0.cellsOf 3)) = some x0 := hf 0 _ rfl
    rw [c3] at f0
    have f1 : DataW.trod enc P0 W base (fun _ => true) held n 3 (([v0, v1, v2, v3].drop 1).take (P0.cellsOf 3)) = some x1 := hf 1 _ rfl
    rw [c3] at f1
    have f2 : DataW.trod enc P0 W base (fun _ => true) held n 2 (([v0, v1, v2, v3].drop 2).take (P0.cellsOf 2)) = some x2 := hf 2 _ rfl
    rw [c2] at f2
    have f3 : DataW.trod enc P0 W base (fun _ => true) held n 9 (([v0, v1, v2, v3].drop 3).take (P0.cellsOf 9)) = some x3 := hf 3 _ rfl
    rw [c9] at f3
    obtain ⟨k0, e0, _⟩ := DataW.trod_int Tryd.underlying3 f0
    obtain ⟨k1, e1, _⟩ := DataW.trod_int Tryd.underlying3 f1
    obtain ⟨k2, e2, _⟩ := DataW.trod_int Tryd.underlying2 f2
    obtain ⟨s3, e3, _, hs⟩ := DataW.trod_string Tryd.underlying9 f3
    simp at e0 e1 e2 e3
    subst e0; subst e1; subst e2; subst e3
    exact ⟨(k0, k1, k2, s3), rfl, hs⟩
theorem insS_R {fuel : Nat} {v : Value} {x : DataW H × List MemPlace} (h : DataW.trod enc P0 W base (fun _ => true) held fuel 61 [v] = some x) : ∃ (s : Sl) (us : List TIns), v = s.val ∧ RSlice (RW W) s kIns us ∧ us.length ≤ maxLen ∧ ∀ u ∈ us, u.2.2.2.size ≤ maxLen :=
  slice_R (ks := kIns) (Ok := fun u => u.2.2.2.size ≤ maxLen) Tryd.underlying61 (by kernel_rfl) (by decide) h fun n cs y hy => ins_R hy
theorem fn_R {fuel : Nat} {cs : List Value} {x : DataW H × List MemPlace} (h : DataW.trod enc P0 W base (fun _ => true) held fuel 63 cs = some x) : ∃ t : TFn, cs = Tup.enc kFn t ∧ ∃ f, RFn (RW W) t f ∧ SizedF f := by
  obtain ⟨xs, n, _, _, hl, hlen, hf⟩ := DataW.trod_struct Tryd.underlying63 h
  have c63 : P0.cellsOf 63 = 5 := by kernel_rfl
  have c3 : P0.cellsOf 3 = 1 := by kernel_rfl
  have c42 : P0.cellsOf 42 = 1 := by kernel_rfl
  have c61 : P0.cellsOf 61 = 1 := by kernel_rfl
  have c9 : P0.cellsOf 9 = 1 := by kernel_rfl
  have hl : cs.length = 5 := hl.trans c63
  match cs, hl, xs, hlen with
  | [v0, v1, v2, v3, v4], _, [x0, x1, x2, x3, x4], _ =>
    have f0 : DataW.trod enc P0 W base (fun _ => true) held n 9 (([v0, v1, v2, v3, v4].drop 0).take (P0.cellsOf 9)) = some x0 := hf 0 _ rfl
    rw [c9] at f0
    have f1 : DataW.trod enc P0 W base (fun _ => true) held n 42 (([v0, v1, v2, v3, v4].drop 1).take (P0.cellsOf 42)) = some x1 := hf 1 _ rfl
    rw [c42] at f1
    have f2 : DataW.trod enc P0 W base (fun _ => true) held n 3 (([v0, v1, v2, v3, v4].drop 2).take (P0.cellsOf 3)) = some x2 := hf 2 _ rfl
    rw [c3] at f2
    have f3 : DataW.trod enc P0 W base (fun _ => true) held n 3 (([v0, v1, v2, v3, v4].drop 3).take (P0.cellsOf 3)) = some x3 := hf 3 _ rfl
    rw [c3] at f3
    have f4 : DataW.trod enc P0 W base (fun _ => true) held n 61 (([v0, v1, v2, v3, v4].drop 4).take (P0.cellsOf 61)) = some x4 := hf 4 _ rfl
    rw [c61] at f4
    obtain ⟨s0, e0, _, hs0⟩ := DataW.trod_string Tryd.underlying9 f0
    obtain ⟨s1, us1, e1, h1, hb1⟩ := ints_R (show DataW.trod enc P0 W base (fun _ => true) held n 42 [v1] = some x1 from f1)
    obtain ⟨k2, e2, _⟩ := DataW.trod_int Tryd.underlying3 f2
    obtain ⟨k3, e3, _⟩ := DataW.trod_int Tryd.underlying3 f3
    obtain ⟨s4, us4, e4, h4, hb4, ht4⟩ := insS_R (show DataW.trod enc P0 W base (fun _ => true) held n 61 [v4] = some x4 from f4)
    simp at e0 e2 e3
    subst e0; subst e1; subst e2; subst e3; subst e4
    exact ⟨(s0, s1, k2, k3, s4), rfl, ⟨s0, us1, k2, k3, us4⟩, ⟨rfl, h1, rfl, rfl, h4⟩, ⟨hs0, hb1, hb4, ht4⟩⟩
theorem code_R {fuel : Nat} {v : Value} {x : DataW H × List MemPlace} (h : DataW.trod enc P0 W base (fun _ => true) held fuel 22 [v] = some x) : ∃ (s : Sl) (c : List MFn), v = s.val ∧ RCode (RW W) s c ∧ c.length ≤ big ∧ ∀ f ∈ c, SizedF f := by
  obtain ⟨s, us, h1, h2, h3, h4⟩ := slice_R (ks := kFn) (Ok := fun t => ∃ f, RFn (RW W) t f ∧ SizedF f) Tryd.underlying22 (by kernel_rfl) (by decide) h fun n cs y hy => fn_R hy
  have ⟨c, hc1, hc2⟩ : ∃ c : List MFn, c.length = us.length ∧ ∀ (i : Nat) f, c[i]? = some f → ∃ t, us[i]? = some t ∧ RFn (RW W) t f ∧ SizedF f := by
    clear h1 h2 h3 h
    induction us with
    | nil => exact ⟨[], rfl, fun i f h => by simp at h⟩
    | cons u us ih =>
      obtain ⟨c, e1, e2⟩ := ih fun u hu => h4 u (by simp [hu])
      obtain ⟨f, hf1, hf2⟩ := h4 u (by simp)
      refine ⟨f :: c, by simp [e1], fun i g hg => ?_⟩
      cases i with
      | zero => cases hg; exact ⟨u, rfl, hf1, hf2⟩
      | succ i => exact e2 i g hg
  refine ⟨s, c, h1, ⟨by rw [← h2.1, hc1], fun k f hf => ?_⟩, by rw [hc1]; exact h3, fun f hf => ?_⟩
  · obtain ⟨t, e1, e2, _⟩ := hc2 k f hf
    exact ⟨t, h2.2.2 k t e1, e2⟩
  · obtain ⟨i, hi, rfl⟩ := List.mem_iff_getElem.1 hf
    obtain ⟨t, _, _, e⟩ := hc2 i _ (List.getElem?_eq_getElem hi)
    exact e
end Go.KE

/- What the listed variables read as. -/
namespace Go.KE
open Go.Proofs Go.ChangeShapes Go.WideShapes Go.RowKit
open Go.Proofs.YthobhcbaddcbgaaDoor (Rows.laid_unicode_White_Space Rows.laid_strings_asciiSpace Rows.laid_loop_example_kilnmill_impl_typeWords Rows.laid_loop_example_kilnmill_impl_builtGives)
set_option maxRecDepth 100000

theorem cell_R {W : World} {a : Addr} {v : Value} (h : W.cell? a = some v) : a.spot = none ∧ RCells (RW W) a.block a.off [v] := by
  unfold World.cell? at h
  cases hb : W.heap[a.block]? with
  | none => rw [hb] at h; cases h
  | some o =>
    rw [hb] at h
    cases o with
    | cells arr t fr =>
      simp only at h
      split at h
      · cases h
      · rename_i hs
        have hs : a.spot = none := by
          cases e : a.spot with
          | none => rfl
          | some z => rw [e] at hs; exact absurd rfl hs
        refine ⟨hs, arr, t, fr, hb, fun j w e => ?_⟩
        cases j with
        | zero => cases e; exact h
        | succ j => cases e
    | _ => cases h
theorem row_R {W : World} {a : Addr} {len cap : Nat} {k : Kd} {us : List k.Den} (hl : us.length = len) (hc : len ≤ cap) (h : ∀ i u, us[i]? = some u → W.cell? (a.add i) = some (k.enc u)) : RSlice (RW W) ⟨some a, len, cap⟩ [k] us := by
  have hsp : 0 < len → a.spot = none := fun h0 => by
    have := (cell_R (h 0 _ (List.getElem?_eq_getElem (by omega)))).1
    simpa [Addr.add] using this
  refine ⟨hl, hc, fun i u hu => ?_⟩
  have hi : i < len := by rw [← hl]; exact (List.getElem?_eq_some_iff.1 hu).1
  have hr := (cell_R (h i u hu)).2
  have ab := add_block a i
  rw [ab.1, ab.2] at hr
  exact ⟨a, rfl, hsp (by omega), by omega, by show (i : Int) < (len : Int); omega, by simpa [Tup.enc] using hr⟩
theorem strs_inj {H : Type} : ∀ {a b : List ByteArray}, (strs a : List (DataW H)) = strs b → a = b
  | [], [], _ => rfl
  | x :: a, y :: b, h => by
    simp only [strs, List.map_cons, List.cons.injEq, DataW.lit.injEq, Lit.string.injEq] at h
    rw [ba_ext h.1, strs_inj (H := H) (show strs a = strs b from h.2)]
  | [], _ :: _, h => by cases h
  | _ :: _, [], h => by cases h
theorem lits_inj {H : Type} {k : IntKind} : ∀ {a b : List Int}, (lits k a : List (DataW H)) = lits k b → a = b
  | [], [], _ => rfl
  | x :: a, y :: b, h => by
    simp only [lits, List.map_cons, List.cons.injEq, DataW.lit.injEq, Lit.int.injEq, true_and] at h
    rw [h.1, lits_inj (H := H) (k := k) (show lits k a = lits k b from h.2)]
  | [], _ :: _, h => by cases h
  | _ :: _, [], h => by cases h
abbrev laidL : List (String × DataW Unit) := [("unicode.White_Space", Rows.laid_unicode_White_Space), ("strings.asciiSpace", Rows.laid_strings_asciiSpace), ("loop.example/kilnmill/impl.typeWords", Rows.laid_loop_example_kilnmill_impl_typeWords), ("loop.example/kilnmill/impl.builtGives", Rows.laid_loop_example_kilnmill_impl_builtGives)]
theorem gSp : Tryd.prog.globalNamed "strings.asciiSpace" = some 1 := by kernel_rfl
theorem gTw : Tryd.prog.globalNamed "loop.example/kilnmill/impl.typeWords" = some 2 := by kernel_rfl
theorem gBg : Tryd.prog.globalNamed "loop.example/kilnmill/impl.builtGives" = some 0 := by kernel_rfl
theorem tSp : (Tryd.prog.globals[1]?).map (·.type) = some 138 := by kernel_rfl
theorem tTw : (Tryd.prog.globals[2]?).map (·.type) = some 133 := by kernel_rfl
theorem tBg : (Tryd.prog.globals[0]?).map (·.type) = some 42 := by kernel_rfl
theorem dTw : (Rows.laid_loop_example_kilnmill_impl_typeWords : DataW Unit) = .slice (strs twL) [] := by kernel_rfl
theorem dBg : (Rows.laid_loop_example_kilnmill_impl_builtGives : DataW Unit) = .slice (lits .i64 bgL) [] := by kernel_rfl
theorem dSp : (Rows.laid_strings_asciiSpace : DataW Unit) = .agg ((List.range 256).map fun k => .lit (.int .u8 (spT k))) := by kernel_rfl
theorem glob_of_laid {W : World} (h : laidMetH Tryd.prog laidL W) : Glob (RW W) := by
  rw [MakeChecks.laidMetH_plain _ _ _ (by kernel_rfl)] at h
  obtain ⟨ps, ⟨_, _, _, _, _, _, _, _, _, _, ⟨g1, t1, cs1, f1, p1, q1, hg1, ht1, hv1, hd1, ⟨g2, t2, cs2, f2, p2, q2, hg2, ht2, hv2, hd2, ⟨g0, t0, cs0, f0, p0, q0, hg0, ht0, hv0, hd0, _, _⟩, _⟩, _⟩, _⟩, _, _⟩ := h
  obtain rfl := Option.some.inj (gSp.symm.trans hg1)
  obtain rfl := Option.some.inj (gTw.symm.trans hg2)
  obtain rfl := Option.some.inj (gBg.symm.trans hg0)
  obtain rfl := Option.some.inj (tSp.symm.trans ht1)
  obtain rfl := Option.some.inj (tTw.symm.trans ht2)
  obtain rfl := Option.some.inj (tBg.symm.trans ht0)
  refine ⟨?_, ?_, ?_⟩
  · rw [dTw] at hd2
    rcases open_strings Tryd.underlying133 Tryd.underlying9 (by kernel_rfl) hd2 with ⟨_, hx⟩ | ⟨a, len, cap, ss, hcs, _, hlc, _, hz, hx, hcell, _⟩
    · simp at hx
    · simp only [Prod.mk.injEq, DataW.slice.injEq] at hx
      have e := strs_inj hx.1.1
      have e2 : ss.length = cap := by simpa using hz
      refine ⟨⟨some a, len, cap⟩, ⟨⟨2, 0, none⟩, rfl, rfl, ?_⟩, ?_⟩
      · have := World.var?_cell hg2 hv2 0
        rw [Array.eq_one_of_toList hcs] at this
        exact (cell_R this).2
      · refine row_R (k := .str) (by rw [e]; simp; omega) hlc fun i u hu => ?_
        rw [e, List.getElem?_take] at hu
        split at hu
        · rename_i hi
          have hi2 : i < ss.length := by omega
          have := hcell i hi2
          rw [List.getElem?_eq_getElem hi2] at hu
          cases hu
          rw [this]
          simp [List.getD, List.getElem?_eq_getElem hi2, Kd.enc]
        · cases hu
  · rw [dBg] at hd0
    rcases open_ints Tryd.underlying42 Tryd.underlying3 (by kernel_rfl) hd0 with ⟨_, hx⟩ | ⟨a, len, cap, zs, hcs, _, hlc, _, hz, hx, hcell, _⟩
    · simp at hx
    · simp only [Prod.mk.injEq, DataW.slice.injEq] at hx
      have e := lits_inj hx.1.1
      have e2 : zs.length = cap := by simpa using hz
      refine ⟨⟨some a, len, cap⟩, ⟨⟨0, 0, none⟩, rfl, rfl, ?_⟩, ?_⟩
      · have := World.var?_cell hg0 hv0 0
        rw [Array.eq_one_of_toList hcs] at this
        exact (cell_R this).2
      · refine row_R (k := .int .i64) (by rw [e]; simp; omega) hlc fun i u hu => ?_
        rw [e, List.getElem?_take] at hu
        split at hu
        · rename_i hi
          have hi2 : i < zs.length := by omega
          have := hcell i hi2
          rw [List.getElem?_eq_getElem hi2] at hu
          cases hu
          rw [this]
          simp [List.getD, List.getElem?_eq_getElem hi2, Kd.enc]
        · cases hu
  · intro k hk
    rw [dSp] at hd1
    obtain ⟨xs, m, _, hx, hlen, hn, hel⟩ := DataW.trod_array Tryd.underlying138 hd1
    simp only [Prod.mk.injEq, DataW.agg.injEq] at hx
    have c5 : Tryd.prog.cellsOf 5 = 1 := by kernel_rfl
    have c138 : Tryd.prog.cellsOf 138 = 256 := by kernel_rfl
    have he := hel k hk
    rw [c5, Nat.mul_one, List.getElem?_eq_getElem (by omega)] at he
    obtain ⟨n, e1, e2, _⟩ := DataW.trod_int Tryd.underlying5 he
    have hxk : (xs.map (·.1))[k]? = some (.lit (.int .u8 (spT k))) := by
      rw [← hx.1, List.getElem?_map, List.getElem?_range hk]; rfl
    rw [List.getElem?_map, List.getElem?_eq_getElem (by omega), e2] at hxk
    have en : n = spT k := by simpa using hxk
    subst en
    have hc : cs1[k]? = some (.int .u8 (spT k)) := by
      rw [← Array.getElem?_toList]
      have h2 : k < cs1.toList.length := by rw [hlen, c138]; exact hk
      rw [List.drop_eq_getElem_cons h2, List.take_succ_cons] at e1
      rw [List.getElem?_eq_getElem h2]
      have := (List.cons.inj e1).1
      rw [this]
    have := World.var?_cell hg1 hv1 k
    rw [hc] at this
    exact ⟨⟨1, k, none⟩, rfl, rfl, (cell_R this).2⟩
end Go.KE

/- The row and its card. -/
namespace Go.KE
open Go.Proofs Go.ChangeShapes Go.WideShapes Go.ChangeAt Go.RowKit Go.Proofs.YthobhcbaddcbgaaDoor
set_option maxRecDepth 100000

theorem own : ownKnob Tryd.prog.godebug = none := by kernel_rfl
theorem laidOut : laidOutB Tryd.prog = true := by kernel_rfl
theorem door_met (os : Os) (args : Array Value) : laidMetH Tryd.prog laidL ((World.doorLaid Tryd.prog 400 os).forCall (fun _ _ => 0) ⟨#[], args, []⟩).memory :=
  laidMetH_of_parts3 (fuel := 8) (laidMet_of_run' 8 (by kernel_rfl) (by kernel_rfl)) (by kernel_rfl) (by kernel_rfl)
/-- The named variables read behind the call as before. -/
theorem vars_stay {H : Type} {enc : TypeId × Value → H} {W W' : World} (hb : Below W.heap.size W W') {gs : List (DataW H)} {q : List MemPlace}
    (h : DataW.TrodVars enc Tryd.prog W (fun _ => true) ["loop.example/kilnmill/impl.typeWords", "loop.example/kilnmill/impl.builtGives"] gs q) :
    (∃ d0 d1, gs = [d0, d1]) ∧ DataW.TrodVars enc Tryd.prog W' (fun b => decide (b < W.heap.size)) ["loop.example/kilnmill/impl.typeWords", "loop.example/kilnmill/impl.builtGives"] gs q := by
  obtain ⟨g0, t0, cs0, f0, d0, p0, g1, t1, cs1, f1, d1, p1, rfl, hg0, ht0, hv0, hd0, hg1, ht1, hv1, hd1, rfl⟩ := trodVars_two h
  obtain rfl := Option.some.inj (gTw.symm.trans hg0)
  obtain rfl := Option.some.inj (gBg.symm.trans hg1)
  obtain rfl := Option.some.inj (tTw.symm.trans ht0)
  obtain rfl := Option.some.inj (tBg.symm.trans ht1)
  have keep : ∀ {n : String} {g : Nat} {cs : Array Value}, Tryd.prog.globalNamed n = some g → W.var? Tryd.prog n = some cs → W'.var? Tryd.prog n = some cs := fun {n g cs} hg hv => by
    unfold World.var? at hv ⊢
    rw [hg] at hv ⊢
    simp only [Option.bind_some] at hv ⊢
    have hlt : g < W.heap.size := by
      cases hh : W.heap[g]? with
      | none => rw [hh] at hv; cases hv
      | some o => exact (Array.getElem?_eq_some_iff.1 hh).1
    rw [hb.block g hlt]; exact hv
  have again : ∀ {t fuel : Nat} {cs : List Value} {d : DataW H} {p : List MemPlace}, Tryd.prog.readableRec t = true → t < Tryd.prog.types.size → DataW.trod enc Tryd.prog W 0 (fun _ => true) true fuel t cs = some (d, p) → DataW.trod enc Tryd.prog W' 0 (fun b => decide (b < W.heap.size)) true fuel t cs = some (d, p) := fun {t fuel cs d p} hr hs hd =>
    DataW.trod_stays (kids_book laidOut hr) (book_sized hr) (fun h => by cases h) ⟨hs, book_self t⟩ hd (fun x hx => hb.same (DataW.trod_lt _ _ _ _ hd x hx)) (fun x hx => by simpa using DataW.trod_lt _ _ _ _ hd x hx)
  refine ⟨⟨d0, d1, rfl⟩, 2, 133, cs0, f0, p0, MemPlace.row ⟨0, 0, none⟩ cs1.size ++ p1, hg0, ht0, keep hg0 hv0, again (by kernel_rfl) (of_decide_eq_true (by kernel_rfl)) hd0, ⟨0, 42, cs1, f1, p1, [], hg1, ht1, keep hg1 hv1, again (by kernel_rfl) (of_decide_eq_true (by kernel_rfl)) hd1, rfl, by simp⟩, by simp⟩
/-- A code as an argument. -/
theorem arg_R {H : Type} {enc : TypeId × Value → H} {W : World} {cs : Array Value} {d : DataW H} {p : List MemPlace} (hsz : cs.size = 1) (h0 : DataW.Trod enc Tryd.prog W 0 (fun _ => true) true 24 (.agg cs) d p) :
    ∃ (s : Sl) (c : List MFn), cs = #[s.val] ∧ RCode (RW W) s c ∧ c.length ≤ big ∧ ∀ f ∈ c, SizedF f := by
  obtain ⟨fuel, hf⟩ := h0
  obtain ⟨y0, n, _, _, hy⟩ := trod_struct1 Tryd.underlying24 hf
  have c22 : Tryd.prog.cellsOf 22 = 1 := by kernel_rfl
  obtain ⟨v, hv⟩ : ∃ v, cs = #[v] := Array.size_eq_one_iff.1 hsz
  subst hv
  have hy : DataW.trod enc P0 W 0 (fun _ => true) true n 22 ((List.drop 0 [v]).take (Tryd.prog.cellsOf 22)) = some y0 := hy
  rw [c22] at hy
  obtain ⟨s, c, e1, e2, e3, e4⟩ := code_R (show DataW.trod enc P0 W 0 (fun _ => true) true n 22 [v] = some y0 from hy)
  subst e1
  exact ⟨s, c, rfl, e2, e3, e4⟩
theorem callP_in {P : Program} {f : FuncId} {fn : Func} {c : Code} (hf : P.funcs[f]? = some fn) (hname : (fn.name == "runtime.NumGoroutine") = false) (hb : fn.body = some c) {args : Array Value} {w : World} {Q : Ending → World → Prop} (h : CallP P f args w Q) : Calls P f args w Q := by
  have e := run_enter hf hname hb args w
  rcases h with ⟨f', args', h1, h2⟩ | ⟨v, w', h1, _⟩
  · rw [e] at h1; cases h1; exact h2
  · rw [e] at h1; cases h1
theorem c24 : Tryd.prog.cellsOf 24 = 1 := by kernel_rfl
theorem okAgg {W : World} {base : Nat} {v : Value} (h : Value.okWide Tryd.prog W .any base 24 v) : ∃ cs, v = .agg cs ∧ cs.size = 1 := by
  unfold Value.okWide at h
  rw [Tryd.underlying24] at h
  obtain ⟨cs, rfl, hsz, _⟩ := h
  exact ⟨cs, rfl, hsz.trans c24⟩
theorem code_lifted (os : Os) (started : os.Started) (H : Type) (enc : TypeId × Value → H) :
    ReturnsInHanded {} Tryd.checked os 3 .any (fun w args => (Rows.fnExactCheckCodeSpec.pre enc Tryd.prog Tryd.f3 [] false w args ∧ laidMetH Tryd.prog laidL w) ∧ sizedMet enc Tryd.prog Tryd.f3 (OpenSpec.ofChange Rows.fnExactCheckCodeSpec) false w args)
      (Rows.fnExactCheckCodeSpec.post enc Tryd.prog Tryd.f3 false true false false) := by
  refine returnsInHanded_of_change_and (C := Tryd.checked) (X := fun w _ => laidMetH Tryd.prog laidL w) (fun _ _ _ hh h => h.of_heap hh) own started (by kernel_rfl) Tryd.func3
    (ChangeSpec.witness_shaped (enc := enc) (C := Tryd.checked) (os := os) (X := fun w _ => laidMetH Tryd.prog laidL w) false (World.doorLaid Tryd.prog 400 os) #[.agg #[.slice none 0 0]] 8 rfl (World.shaped_of_RefB (by kernel_rfl) (by kernel_rfl)) (by kernel_rfl) (by kernel_rfl) (by kernel_rfl) (door_met os _)) ?_
  intro W base args ds gs before hval0 hW _ _ hL _
  have hW' := hW
  obtain ⟨p, q, hA0, hV0, rfl, hfz, hnd⟩ := hW
  have hA : DataW.TrodAll enc Tryd.prog W 0 (fun _ => true) true Tryd.f3.params.toList args.toList ds p := hA0
  have hV : DataW.TrodVars enc Tryd.prog W (fun _ => true) ["loop.example/kilnmill/impl.typeWords", "loop.example/kilnmill/impl.builtGives"] gs q := hV0
  have hval : ∀ (j : Nat) t v, Tryd.f3.params[j]? = some t → args[j]? = some v → Value.okWide Tryd.prog W .any base t v := hval0
  rw [Tryd.params3] at hA hval
  obtain ⟨v0, d0, rfl, rfl, h0⟩ := trodAll_one hA
  obtain ⟨cs, rfl, hsz⟩ := okAgg (hval 0 24 v0 rfl rfl)
  obtain ⟨s, c, rfl, hc, hb, hz⟩ := arg_R hsz h0
  have hwalk := (c_FnExactCheckCode (K := fun e _ => e = .returned (.bool true)) (glob_of_laid hL) hc hb hz fun _ _ => rfl).run W fun b o e => e
  have hlt : ∀ x ∈ p, x.block < W.heap.size := by
    obtain ⟨m, hm⟩ := h0
    exact DataW.trod_lt m _ _ _ hm
  refine (callP_in at_laws_FnExactCheckCode.at_ at_laws_FnExactCheckCode.name at_laws_FnExactCheckCode.body hwalk).mono fun e W' ⟨R', he, _, _, bel, _⟩ => ?_
  subst he
  obtain ⟨⟨g0, g1, rfl⟩, hvs⟩ := vars_stay bel hV
  exact ⟨_, rfl, _, _, _, [], p, q, hW', trodAll_mk1 (shut_bool Tryd.underlying4 true), trodAll_mk1 (Below.trod laidOut (by kernel_rfl) (of_decide_eq_true (by kernel_rfl)) h0 bel hlt), hvs, bel.frame _, fun h => by cases h⟩
theorem code_holds : Rows.FnExactCheckCodeSaid :=
  OpenClaim.holds_of_wide 3 Tryd.f3 rfl rfl rfl rfl rfl rfl rfl ⟨rfl, rfl, rfl, rfl, rfl⟩ rfl rfl rfl rfl rfl (by kernel_rfl) Tryd.func3 (by kernel_rfl)
    (of_decide_eq_true (by kernel_rfl)) (by unfold Func.isWrapper; rw [if_neg (of_decide_eq_false (by kernel_rfl))]; exact ⟨rfl, rfl⟩)
    (fun os started H enc _ => code_lifted os started H enc)
#print axioms code_holds
end Go.KE

/- The card. -/
namespace Go.KE
open Go.Proofs Go.ChangeShapes Go.WideShapes Go.ChangeAt Go.RowKit Go.Proofs.YthobhcbaddcbgaaDoor
set_option maxRecDepth 100000
theorem code_card : Rows.FnExactCheckCodeCardSaid :=
  Claim7.holds_tied_plain_at .later [] [.listed, .data, .data, .data] true (true, "9505b24de7057b5b59a6414903ad003dd5fa19a6519ddf8343b58425db361c7d") false
    code_holds (fun _ h => by cases h) (by kernel_rfl) (fun _ h => by cases h) fnExactCheckCode_row_tie rfl ⟨rfl, rfl⟩ (by kernel_rfl) rfl
    (fun f fn hf hfn => by
      obtain rfl : f = 3 := Option.some.inj ((show Tryd.prog.funcNamed "loop.example/kilnmill/laws.FnExactCheckCode" = some 3 by kernel_rfl).symm.trans hf) |>.symm
      obtain rfl : fn = Tryd.f3 := (Option.some.inj (Tryd.func3.symm.trans hfn)).symm
      exact ⟨by kernel_rfl, fun j t ht => by
        rw [Tryd.params3] at ht
        have h3 : t = 24 := by
          rcases j with _ | j
          · simpa using ht.symm
          · simp at ht
        subst h3
        exact (show Tryd.prog.wantsStandIn 24 = false by kernel_rfl)⟩)
    (by kernel_rfl)
#print axioms code_card
end Go.KE
