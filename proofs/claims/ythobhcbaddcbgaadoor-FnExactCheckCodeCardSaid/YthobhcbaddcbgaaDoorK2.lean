/- A checker for the code of a function that writes nothing that was there, and its soundness: part 2. -/
import Derived.Test.YthobhcbaddcbgaaDoorK1
/- The engine, part I: what a source of elements holds; lengths; conversions. -/
namespace Go.KE
open Go.RowKit (Below)

theorem flat_inv (ks : List Kd) (xs : List (Tup ks)) (j : Nat) (c : Value) (h : (flat ks xs)[j]? = some c) : ∃ i r x, xs[i]? = some x ∧ (Tup.enc ks x)[r]? = some c ∧ j = i * ks.length + r := by
  induction xs generalizing j with
  | nil => simp [flat] at h
  | cons x xs ih =>
    simp only [flat, List.flatMap_cons] at h
    rcases Nat.lt_or_ge j (Tup.enc ks x).length with hj | hj
    · rw [List.getElem?_append_left hj] at h
      exact ⟨0, j, x, rfl, h, by simp⟩
    · rw [List.getElem?_append_right hj, Tup.enc_length] at h
      rw [Tup.enc_length] at hj
      obtain ⟨i, r, y, h1, h2, h3⟩ := ih _ h
      exact ⟨i + 1, r, y, by simpa using h1, h2, by rw [Nat.add_mul, Nat.one_mul]; omega⟩
theorem run_first {P : Program} {w : World} {size m : Nat} (a : Addr) (l c : Nat) (cs : List Value) (hl : cs.length = m * size) (h : ∀ (j : Nat) v, cs[j]? = some v → w.cell? (a.add j) = some v) :
    (Builtin.firstCells size m (.slice (some a) l c)).run P w = .ok cs.toArray w := run_firstCells_some w size m a l c cs hl h
/-- A source: its length and its first cells. -/
def Src (w : World) (size : Nat) (ks : List Kd) (v : Value) (ys : List (Tup ks)) : Prop :=
  ∀ P w', w'.heap = w.heap → (Builtin.lenOf v).run P w' = .ok ys.length w' ∧ ∀ m, m ≤ ys.length → (Builtin.firstCells size m v).run P w' = .ok (flat ks (ys.take m)).toArray w'
theorem cell_heap {w w' : World} (h : w'.heap = w.heap) (a : Addr) : w'.cell? a = w.cell? a := by simp [World.cell?, h]

theorem src_nil (w : World) (size : Nat) (ks : List Kd) (c : Nat) : Src w size ks (.slice none 0 c) [] := fun P w' _ =>
  ⟨rfl, fun m hm => by simp [Builtin.firstCells, flat]⟩
theorem src_block {w : World} {size : Nat} {ks : List Kd} (hs : ks.length = size) {ys : List (Tup ks)} {a : Addr} (c : Nat) (h : ∀ (j : Nat) v, (flat ks ys)[j]? = some v → w.cell? (a.add j) = some v) : Src w size ks (.slice (some a) ys.length c) ys := fun P w' hw =>
  ⟨rfl, fun m hm => by
    refine run_first a _ c _ (by rw [flat_length, List.length_take, Nat.min_eq_left hm, hs]) fun j v hj => (cell_heap hw _).trans (h j v ?_)
    rw [flat_take] at hj
    rw [List.getElem?_take] at hj
    split at hj
    · exact hj
    · cases hj⟩
theorem src_string {w : World} (s : ByteArray) : Src w 1 [.int .u8] (.string s) (s.data.toList.map fun c => (c.toNat : Int)) := fun P w' _ => by
  refine ⟨by rw [List.length_map, Array.length_toList]; rfl, fun m hm => ?_⟩
  simp only [List.length_map, Array.length_toList] at hm
  simp only [Builtin.firstCells, Sem.run_pure]
  congr 1
  apply Array.toList_inj.1
  have : ∀ l : List UInt8, flat [Kd.int .u8] (l.map fun c => (c.toNat : Int)) = l.map fun c => Value.int .u8 c.toNat := fun l => by
    induction l with
    | nil => rfl
    | cons c l ih =>
      simp only [List.map_cons]
      simp only [flat, List.flatMap_cons] at ih ⊢
      rw [ih]
      rfl
  rw [← List.map_take, this]
  rw [ByteArray.data_extract]
  simp [List.map_take]

section
variable {w0 : World} {M0 : Mod} {R0 : Hp} {n : Nat} {dfs : List Deferred} {bs : Bs} {S : St} {R : Hp} {a : Act} {w : World}
theorem Inv.row (I : Inv w0 M0 R0 n dfs bs S R a w) {id : Nat} {T : TypeId} {ks : List Kd} {xs : List (Tup ks)} (e : S.hid id = some (.row (.sl T ks) xs)) :
    ((bs id).sl = ⟨none, 0, 0⟩ ∧ xs = []) ∨ ∃ b, (bs id).sl.a = some ⟨b, 0, none⟩ ∧ (bs id).sl.len = xs.length ∧ xs.length ≤ (bs id).sl.cap ∧ ∀ (j : Nat) v, (flat ks xs)[j]? = some v → w.cell? ⟨b, j, none⟩ = some v := by
  rcases I.hb id _ e with h | ⟨b, rest, h1, h2, h3, h4, h5⟩
  · exact .inl h
  · refine .inr ⟨b, h1, h2, h5, fun j v hj => ?_⟩
    rw [cell_of h3]
    have hlt : j < (flat ks xs).length := by
      rcases Nat.lt_or_ge j (flat ks xs).length with h | h
      · exact h
      · rw [List.getElem?_eq_none h] at hj; cases hj
    simp only [List.getElem?_toArray]
    rw [List.getElem?_append_left hlt]
    exact hj
theorem Inv.srcOf (I : Inv w0 M0 R0 n dfs bs S R a w) {x : SV} {v : Value} {te : TI} {K : List (Tup te.ks) → Prop} (hk : te.ks.length = te.size) (hf : x.fits bs v) (h : srcOf S.hid R x te K) :
    ∃ ys, K ys ∧ Src w te.size te.ks v ys := by
  unfold KE.srcOf at h
  split at h
  · obtain rfl := LV.fits_val hf (by simp)
    exact ⟨[], h, src_nil w _ _ 0⟩
  · rename_i id
    obtain rfl := LV.fits_val hf (by simp)
    split at h
    · rename_i T ks xs e
      split at h
      · rename_i hks
        subst hks
        refine ⟨xs, h, ?_⟩
        rcases I.row e with ⟨h1, rfl⟩ | ⟨b, h1, h2, h3, h4⟩
        · simp only [LV.conc, h1, Sl.val]
          exact src_nil w _ _ 0
        · simp only [LV.conc, Sl.val, h1, h2]
          exact src_block hk _ fun j v hj => by rw [add_none, Nat.zero_add]; exact h4 j v hj
      · exact h.elim
    · exact h.elim
  · rename_i id lo hi esz
    obtain rfl := LV.fits_val hf (by simp)
    rcases beq_cases esz te.size with ⟨e1, e2⟩ | ⟨e1, _⟩
    · rw [e1] at h
      subst e2
      simp only at h
      split at h
      · rename_i T ks xs e
        split at h
        · rename_i hks
          subst hks
          obtain ⟨hhi, hK⟩ := h
          refine ⟨_, hK, ?_⟩
          have hlen : ((xs.drop lo).take (hi - lo)).length = hi - lo := by simp; omega
          rcases I.row e with ⟨h1, rfl⟩ | ⟨b, h1, h2, h3, h4⟩
          · simp only [List.length_nil, Nat.le_zero] at hhi
            subst hhi
            simp only [LV.conc, h1]
            have : (0 - lo) = 0 := Nat.zero_sub lo
            simp only [this]
            have e0 : (if (0 : Nat) = lo then (none : Option Addr) else Option.map (fun x : Addr => x.add (lo * te.size)) none) = none := by split <;> rfl
            rw [e0]
            simp only [castX, List.drop_nil, List.take_nil]
            exact src_nil w _ _ 0
          · simp only [LV.conc, h1]
            by_cases hc : (bs id).sl.cap = lo
            · have h0 : hi - lo = 0 := by omega
              rw [if_pos hc, h0]
              simp only [List.take_zero]
              intro P w' _
              refine ⟨rfl, fun m hm => ?_⟩
              simp only [List.length_nil, Nat.le_zero] at hm
              subst hm
              exact run_first _ _ _ _ (by simp [flat]) (by simp [flat])
            · rw [if_neg hc]
              have hb := src_block (w := w) hk (ys := (xs.drop lo).take (hi - lo)) (a := (⟨b, 0, none⟩ : Addr).add (lo * te.size)) ((bs id).sl.cap - lo) fun j v hj => by
                rw [add_none, add_none, Nat.zero_add]
                apply h4
                rw [flat_take, flat_drop, hk] at hj
                exact take_drop_get _ _ _ hj
              rw [hlen] at hb
              exact hb
        · exact h.elim
      · exact h.elim
    · rw [e1] at h; exact h.elim
  · rename_i s
    obtain rfl := LV.fits_val hf (by simp)
    obtain ⟨xs, hr, hK⟩ := h
    refine ⟨xs, hK, ?_⟩
    obtain ⟨h1, h2, h3⟩ := hr
    simp only [LV.conc, Sl.val]
    rw [← h1]
    cases ha : s.a with
    | none =>
      have : xs = [] := by
        cases xs with
        | nil => rfl
        | cons y ys =>
          obtain ⟨ad, h4, _⟩ := h3 0 y rfl
          rw [ha] at h4; cases h4
      subst this
      exact src_nil w _ _ _
    | some ad =>
      refine src_block hk _ fun j v hj => ?_
      obtain ⟨i, r, y, h4, h5, rfl⟩ := flat_inv _ _ _ _ hj
      obtain ⟨ad', h6, h7, _, _, h8⟩ := h3 i y h4
      rw [ha] at h6
      obtain rfl := Option.some.inj h6
      have := rcells_lies I.sees h8 r [v] (fun j c hc => by
        cases j with
        | zero => simp at hc; subst hc; simpa using h5
        | succ j => simp at hc) 0 v rfl
      rw [addr_eta h7, add_none]
      rw [add_none, Nat.add_zero] at this
      simpa [Nat.add_assoc] using this
  · rename_i s
    obtain rfl := LV.fits_val hf (by simp)
    split at h
    · rename_i hks
      have : ∀ (ks : List Kd) (h : [Kd.int .u8] = ks) (sz : Nat) (hz : ks.length = sz), Src w sz ks (.string s) (castX h (s.data.toList.map fun c => (c.toNat : Int))) := by
        intro ks h sz hz
        subst h
        subst hz
        exact src_string s
      exact ⟨_, h, this _ hks _ hk⟩
    · exact h.elim
  · exact h.elim
theorem Inv.len (I : Inv w0 M0 R0 n dfs bs S R a w) {cx : Cx} (hT : TblOk cx.P cx.tbl) {t ty : TypeId} {x : SV} {v : Value} {K : Int → Prop} (hf : x.fits bs v) (h : evLen cx t S.hid x K) :
    ∃ m : Int, (Builtin.len_ #[t] ty #[v]).run cx.P w = .ok (.int .i64 m) w ∧ K m := by
  unfold evLen at h
  split at h
  · obtain rfl := LV.fits_val hf (by simp)
    split at h
    · rename_i hs
      exact ⟨_, by simp [Builtin.len_, run_und (isStr_und hT hs), LV.conc, goInt], h⟩
    · exact h.elim
  · obtain rfl := LV.fits_val hf (by simp)
    split at h
    · rename_i hs
      obtain ⟨e, hu⟩ := isSl_und hT hs
      exact ⟨_, by simp [Builtin.len_, run_und hu, LV.conc, Sl.val, goInt], h⟩
    · exact h.elim
  · obtain rfl := LV.fits_val hf (by simp)
    split at h
    · rename_i hs
      obtain ⟨e, hu⟩ := isSl_und hT hs
      exact ⟨_, by simp [Builtin.len_, run_und hu, LV.conc, goInt], h⟩
    · exact h.elim
  · rename_i id
    obtain rfl := LV.fits_val hf (by simp)
    split at h
    · rename_i hs
      obtain ⟨e, hu⟩ := isSl_und hT hs
      split at h
      · rename_i T ks xs e'
        refine ⟨_, ?_, h⟩
        have hl : (bs id).sl.len = xs.length := by
          rcases I.row e' with ⟨h1, rfl⟩ | ⟨b, h1, h2, _⟩
          · rw [h1]; rfl
          · exact h2
        simp [Builtin.len_, run_und hu, LV.conc, Sl.val, goInt, hl]
      · exact h.elim
    · exact h.elim
  · obtain rfl := LV.fits_val hf (by simp)
    split at h
    · rename_i hs
      obtain ⟨e, hu⟩ := isSl_und hT hs
      exact ⟨_, by simp [Builtin.len_, run_und hu, LV.conc, goInt], h⟩
    · exact h.elim
  · exact h.elim
end
end Go.KE

/- The engine, part J: conversions, parts of texts and slices, literals. -/
namespace Go.KE
open Go.RowKit (Below)

theorem TOk.u_int {P : Program} {t : TypeId} {ti : TI} {k : IntKind} (h : TOk P t ti) (hu : ti.u = .int k) : P.underlying t = some (.int k) := by
  have := h.und; rw [hu] at this; exact this
theorem TOk.u_str {P : Program} {t : TypeId} {ti : TI} (h : TOk P t ti) (hu : ti.u = .str) : P.underlying t = some .string := by
  have := h.und; rw [hu] at this; exact this
theorem flat_ints (ys : List Int) : flat [Kd.int .u8] (ys : List (Tup [Kd.int .u8])) = ys.map (Value.int .u8) := by
  induction ys with
  | nil => rfl
  | cons y ys ih => simp only [flat, List.flatMap_cons] at ih ⊢; rw [ih]; rfl
theorem foldl_strOf (ys : List Int) : ∀ s : ByteArray, ys.foldl (fun r n => r.push (UInt8.ofNat n.toNat)) s = ⟨s.data ++ (ys.map fun n => UInt8.ofNat n.toNat).toArray⟩ := by
  induction ys with
  | nil => intro s; simp
  | cons y ys ih =>
    intro s
    rw [List.foldl_cons, ih]
    cases s
    simp [ByteArray.push]
theorem src_bytes {P : Program} {w : World} {v : Value} {ys : List Int} (h : Src w 1 [Kd.int .u8] v ys) (hv : ∃ a l c, v = .slice a l c) : (Conv.bytesToString v).run P w = .ok (.string (strOf ys)) w := by
  obtain ⟨a, l, c, rfl⟩ := hv
  have hl : l = ys.length := by
    have := (h P w rfl).1
    simp only [Builtin.lenOf, Sem.run_pure] at this
    injection this
  subst hl
  have h2 := (h P w rfl).2 ys.length (Nat.le_refl _)
  cases a with
  | none =>
    simp only [Builtin.firstCells, Sem.run_pure] at h2
    have : ys = [] := by
      have e : (#[] : Array Value) = (flat [Kd.int .u8] (ys.take ys.length)).toArray := by injection h2
      rw [List.take_length, flat_ints] at e
      have := congrArg Array.size e
      simp at this
      exact List.eq_nil_of_length_eq_zero this.symm
    subst this
    rfl
  | some a =>
    simp only [Builtin.firstCells, Nat.mul_one, List.take_length, flat_ints] at h2
    rw [run_bytesToString w a _ _ ys h2, foldl_strOf]
    have : ByteArray.empty.data = #[] := rfl
    rw [this, Array.empty_append]
    rfl
theorem src_sl {bs : Bs} {hid : Nat → Option HB} {R : Hp} {x : SV} {v : Value} {te : TI} {K : List (Tup te.ks) → Prop} (hf : x.fits bs v) (h : srcOf hid R x te K) (hs : ∀ s, x ≠ .l (.str s)) : ∃ a l c, v = .slice a l c := by
  unfold srcOf at h
  split at h
  all_goals first
    | exact h.elim
    | (obtain rfl := LV.fits_val hf (by simp); exact ⟨_, _, _, rfl⟩)
    | exact absurd rfl (hs _)

section
variable {w0 : World} {M0 : Mod} {R0 : Hp} {n : Nat} {dfs : List Deferred} {bs : Bs} {S : St} {R : Hp} {a : Act} {w : World}
theorem plain_good {x : LV} {A : Nat → Prop} (h1 : ∀ id, x.says id = false) (h2 : x.adrOk R) : (SV.l x).good A R := good_l (good_of_not h1 h2)
theorem Inv.conv (I : Inv w0 M0 R0 n dfs bs S R a w) {cx : Cx} (hT : TblOk cx.P cx.tbl) {s d : TypeId} {x : SV} {v : Value} {K : SV → Prop} (hf : x.fits bs v) (h : evConv cx S.hid R s d x K) :
    ∃ sv u, (convert s d v).run cx.P w = .ok u w ∧ K (.l sv) ∧ (∀ bs, sv.fits bs u) ∧ ∀ A R, sv.good A R := by
  unfold evConv at h
  obtain ⟨ts, e1, h⟩ := typeT_iff h
  obtain ⟨td, e2, h⟩ := typeT_iff h
  split at h
  · rename_i k hu
    split at h
    · have hs := ‹ts.u = TU.int _›
      obtain rfl := LV.fits_val hf (by simp)
      have hs1 := (hT s ts e1).u_int hs
      have hd1 := (hT d td e2).u_int hu
      refine ⟨_, _, ?_, h, fun _ => .inr rfl, fun _ _ => good_of_not (fun _ => rfl) trivial⟩
      simp [LV.conc, convert, run_und hs1, run_und hd1, Conv.intToInt]
    · exact h.elim
  · rename_i hu
    split at h
    · rename_i e hs
      obtain ⟨te, e3, h⟩ := typeT_iff h
      split at h
      · rename_i hte
        split at h
        · rename_i hks
          have hsz : te.size = 1 := by rw [← (hT e te e3).ksl, hks]; rfl
          split at h
          · exact h.elim
          rename_i x' hns
          obtain ⟨ys, hK, hsrc⟩ := I.srcOf (hT e te e3).ksl hf h
          have hus := (hT s ts e1).slice hs
          have hue := (hT e te e3).u_int hte
          have hud := (hT d td e2).u_str hu
          have key : ∀ (ks : List Kd) (hh : ks = [Kd.int .u8]) (ys : List (Tup ks)), Src w te.size ks v ys → Src w 1 [Kd.int .u8] v (castX hh ys) := by
            intro ks hh ys hy
            subst hh
            rw [hsz] at hy
            exact hy
          have hsrc' := key _ hks ys hsrc
          obtain ⟨a', l, c, rfl⟩ := src_sl hf h hns
          exact ⟨_, _, by rw [run_convert_bytes_string w s d e a' l c hus hue hud]; exact src_bytes hsrc' ⟨a', l, c, rfl⟩, hK, fun _ => .inr rfl, fun _ _ => good_of_not (fun _ => rfl) trivial⟩
        · exact h.elim
      · exact h.elim
    · exact h.elim
  · exact h.elim
end
end Go.KE

/- The engine, part K: literals and zeros. -/
namespace Go.KE
open Go.RowKit (Below)

def spliceV (cs : List Value) (off : Nat) (xs : List Value) : List Value := cs.take off ++ xs ++ cs.drop (off + xs.length)
theorem spliceV_length (cs : List Value) (off : Nat) (xs : List Value) (h : off + xs.length ≤ cs.length) : (spliceV cs off xs).length = cs.length := by
  simp [spliceV]; omega
theorem FitsL.splice {bs : Bs} {cs ys : List LV} {vs us : List Value} (h : FitsL bs cs vs) (h' : FitsL bs ys us) (off : Nat) : FitsL bs (splice cs off ys) (spliceV vs off us) := by
  unfold KE.splice spliceV
  rw [h'.length]
  exact ((h.take off).append h').append (h.drop _)
theorem foldl_set (xs : List Value) : ∀ (k : Nat) (arr : Array Value) (off : Nat), off + k + xs.length ≤ arr.size →
    ((xs.zipIdx k).foldl (fun cs p => cs.setIfInBounds (off + p.2) p.1) arr) = (spliceV arr.toList (off + k) xs).toArray := by
  induction xs with
  | nil => intro k arr off h; simp [spliceV]
  | cons x xs ih =>
    intro k arr off h
    simp only [List.zipIdx_cons, List.foldl_cons]
    simp only [List.length_cons] at h
    rw [ih (k + 1) _ off (by simp; omega)]
    congr 1
    have hlt : off + k < arr.toList.length := by simp; omega
    simp only [spliceV, Array.toList_setIfInBounds, List.length_cons]
    rw [show off + (k + 1) = off + k + 1 by omega, show off + k + (xs.length + 1) = off + k + 1 + xs.length by omega]
    rw [List.take_succ_eq_append_getElem (by simpa using hlt), List.drop_set_of_lt (by omega)]
    rw [List.take_set_of_le (by omega)]
    simp
theorem zip_foldl (v : Array Value) (arr : Array Value) (off : Nat) (h : off + v.size ≤ arr.size) :
    (v.zipIdx.foldl (fun cs x => match x with | (c, j) => cs.setIfInBounds (off + j) c) arr) = (spliceV arr.toList off v.toList).toArray := by
  have := foldl_set v.toList 0 arr off (by simpa using h)
  rw [← Array.foldl_toList]
  simpa using this

theorem cells_fits {bs : Bs} {x : SV} {cs : List LV} {v : Value} (h : x.cells = some cs) (hf : x.fits bs v) : ∃ vs, FitsL bs cs vs ∧ v.cells = vs.toArray := by
  cases x with
  | l y =>
    have hy : y ≠ .no := by rintro rfl; simp [SV.cells] at h
    have hcs : cs = [y] := by cases y <;> simp_all [SV.cells]
    subst hcs
    refine ⟨[v], ⟨hf, trivial⟩, ?_⟩
    have hv := LV.fits_val hf hy
    subst hv
    cases y <;> first | exact absurd rfl hy | rfl | (rename_i z; cases z <;> rfl)
  | g ds =>
    simp only [SV.cells, Option.some.injEq] at h
    subst h
    obtain ⟨vs, h2, rfl⟩ := hf
    exact ⟨vs, h2, rfl⟩
  | t ds => simp [SV.cells] at h
end Go.KE

/- The engine, part L: literals are built, parts of texts and slices are taken. -/
namespace Go.KE
open Go.RowKit (Below)

theorem cyc (z : List Value) (n : Nat) : (List.range (n * z.length)).map (fun i => z.toArray[i % z.length]!) = (List.replicate n z).flatten := by
  induction n with
  | zero => simp
  | succ n ih =>
    rw [Nat.add_mul, Nat.one_mul, List.range_add, List.map_append, ih, List.replicate_succ', List.flatten_append]
    congr 1
    simp only [List.flatten_cons, List.flatten_nil, List.append_nil, List.map_map]
    apply List.ext_getElem?
    intro j
    by_cases hj : j < z.length
    · rw [List.getElem?_map, List.getElem?_range hj]
      simp only [Option.map_some, Function.comp]
      rw [Nat.add_comm, Nat.add_mul_mod_self_right, Nat.mod_eq_of_lt hj, List.getElem?_eq_getElem hj]
      simp [hj]
    · rw [List.getElem?_eq_none (by simp; omega), List.getElem?_eq_none (by omega)]
theorem flat_replicate (ks : List Kd) (x : Tup ks) (n : Nat) : flat ks (List.replicate n x) = (List.replicate n (Tup.enc ks x)).flatten := by
  induction n with
  | zero => rfl
  | succ n ih =>
    simp only [List.replicate_succ, flat, List.flatMap_cons, List.flatten_cons] at ih ⊢
    rw [ih]
theorem zeros_eq (ks : List Kd) (n : Nat) (z : Array Value) (hz : z = (Tup.enc ks (Tup.zero ks)).toArray) : (Array.range (n * ks.length)).map (fun i => z[i % z.size]!) = (flat ks (List.replicate n (Tup.zero ks))).toArray := by
  subst hz
  apply Array.toList_inj.1
  rw [flat_replicate, ← cyc]
  simp only [Array.toList_map, Array.toList_range, List.size_toArray, Tup.enc_length]

theorem flat_set (ks : List Kd) (xs : List (Tup ks)) (i : Nat) (y : Tup ks) (h : i < xs.length) : flat ks (xs.set i y) = spliceV (flat ks xs) (i * ks.length) (Tup.enc ks y) := by
  rw [List.set_eq_take_append_cons_drop, if_pos h]
  rw [flat_append]
  simp only [spliceV, Tup.enc_length]
  rw [← flat_take, show i * ks.length + ks.length = (i + 1) * ks.length by rw [Nat.add_mul, Nat.one_mul], ← flat_drop]
  simp [flat]

section
variable {w0 : World} {M0 : Mod} {R0 : Hp} {n : Nat} {dfs : List Deferred} {bs : Bs} {S : St} {R : Hp} {a : Act} {w : World}
theorem cells_good {x : SV} {cs : List LV} {A : Nat → Prop} (h : x.cells = some cs) (hg : x.good A R) : ∀ c ∈ cs, c.good A R := by
  intro c hc
  apply hg
  cases x with
  | l y => cases y <;> simp_all [SV.cells, SV.leaves]
  | g ds => simp_all [SV.cells, SV.leaves]
  | t ds => simp [SV.cells] at h
theorem Inv.part (I : Inv w0 M0 R0 n dfs bs S R a w) {x : Operand} {cs : List LV} (h : (KE.opd S.env x).cells = some cs) : ∃ vs, FitsL bs cs vs ∧ (a.eval x).cells = vs.toArray ∧ ∀ c ∈ cs, c.good (Alive S) R := by
  obtain ⟨vs, h1, h2⟩ := cells_fits h (I.opd x)
  exact ⟨vs, h1, h2, cells_good h (I.opd_good x)⟩
theorem Inv.fillL (I : Inv w0 M0 R0 n dfs bs S R a w) (places : List (Nat × Nat)) (place : Nat → Option (Nat × Nat)) (hp : ∀ i, place i = places[i]?) : ∀ (parts : List (Nat × Operand)) (cs : List LV) (vs : List Value) (ds : List LV),
    FitsL bs cs vs → (∀ c ∈ cs, c.good (Alive S) R) → fillL S.env places cs parts = some ds →
    ∃ us, Instr.fill place vs.toArray (parts.map fun p => (p.1, a.eval p.2)) = some us.toArray ∧ FitsL bs ds us ∧ ∀ c ∈ ds, c.good (Alive S) R
  | [], cs, vs, ds, hf, hg, h => by
    simp only [KE.fillL, Option.some.injEq] at h
    subst h
    exact ⟨vs, rfl, hf, hg⟩
  | (i, x) :: ps, cs, vs, ds, hf, hg, h => by
    simp only [KE.fillL] at h
    split at h
    · simp at h
    · rename_i off size hpl
      split at h
      · simp at h
      · rename_i ys hys
        split at h
        · rename_i hb
          rw [Bool.and_eq_true] at hb
          have hb1 : ys.length = size := Nat.eq_of_beq_eq_true hb.1
          have hb2 : off + ys.length ≤ cs.length := Nat.le_of_ble_eq_true hb.2
          obtain ⟨us, f1, f2, f3⟩ := I.part hys
          have hul : us.length = size := by rw [f1.length]; exact hb1
          have hvl : off + us.length ≤ vs.length := by rw [hul, hf.length, ← hb1]; exact hb2
          obtain ⟨us', g1, g2, g3⟩ := Inv.fillL I places place hp ps (splice cs off ys) (spliceV vs off us) ds (hf.splice f1 off) (fun c hc => by
            simp only [splice, List.mem_append] at hc
            rcases hc with (hc | hc) | hc
            · exact hg c (List.mem_of_mem_take hc)
            · exact f3 c hc
            · exact hg c (List.mem_of_mem_drop hc)) h
          refine ⟨us', ?_, g2, g3⟩
          simp only [List.map_cons, Instr.fill, hp, hpl, f2, List.size_toArray, hul]
          rw [if_neg (by simp; omega)]
          rw [zip_foldl _ _ _ (by simpa [hul] using hvl)]
          exact g1
        · simp at h
theorem Inv.fillE (I : Inv w0 M0 R0 n dfs bs S R a w) (ks : List Kd) : ∀ (parts : List (Nat × Operand)) (xs ys : List (Tup ks)), fillE S.env ks xs parts = some ys →
    Instr.fill (fun i => some (i * ks.length, ks.length)) (flat ks xs).toArray (parts.map fun p => (p.1, a.eval p.2)) = some (flat ks ys).toArray
  | [], xs, ys, h => by
    simp only [KE.fillE, Option.some.injEq] at h
    subst h
    rfl
  | (i, x) :: ps, xs, ys, h => by
    simp only [KE.fillE] at h
    split at h
    · simp at h
    · rename_i cs hcs
      split at h
      · simp at h
      · rename_i y hy
        split at h
        · rename_i hb
          have hlt : i < xs.length := by simpa [Nat.blt_eq] using hb
          obtain ⟨us, f1, f2, _⟩ := I.part hcs
          have hu := of_fits hy f1
          subst hu
          have hle : i * ks.length + ks.length ≤ (flat ks xs).length := by
            rw [flat_length, show i * ks.length + ks.length = (i + 1) * ks.length by rw [Nat.add_mul, Nat.one_mul]]
            exact Nat.mul_le_mul_right _ hlt
          simp only [List.map_cons, Instr.fill, f2, List.size_toArray, Tup.enc_length]
          rw [if_neg (by simp; omega)]
          rw [zip_foldl _ _ _ (by simpa [Tup.enc_length] using hle)]
          simp only
          rw [← flat_set ks xs i y hlt]
          exact Inv.fillE I ks ps (xs.set i y) ys h
        · simp at h
theorem run_mapM {P : Program} {w : World} {α β : Type} (f : α → Sem β) (g : α → β) : ∀ (l : List α), (∀ x ∈ l, (f x).run P w = .ok (g x) w) → (l.mapM f).run P w = .ok (l.map g) w
  | [], _ => rfl
  | x :: l, h => by
    rw [List.mapM_cons]
    simp only [Sem.run_bind, h x (by simp), Result.andThen_ok, run_mapM f g l (fun y hy => h y (by simp [hy])), Sem.run_pure, List.map_cons]
theorem run_mapA {P : Program} {w : World} {α β : Type} (f : α → Sem β) (g : α → β) (l : Array α) (h : ∀ x ∈ l.toList, (f x).run P w = .ok (g x) w) : (l.mapM f).run P w = .ok (l.map g) w := by
  rw [Array.mapM_eq_mapM_toList]
  simp only [Sem.run_map, run_mapM f g l.toList h, Result.andThen_ok]
  congr 1
  apply Array.toList_inj.1
  simp
theorem placesL_ok {cx : Cx} (hT : TblOk cx.P cx.tbl) : ∀ (fields : List Field) (ps : List (Nat × Nat)), placesL cx.tbl (fields.map fun f => (f.type, f.offset)) = some ps →
    ∃ g : Field → Nat × Nat, (∀ f ∈ fields, ∀ w, (do pure (f.offset, ← sizeOf f.type) : Sem (Nat × Nat)).run cx.P w = .ok (g f) w) ∧ fields.map g = ps := by
  intro fields ps h
  refine ⟨fun f => (f.offset, ((cx.tbl f.type).map (·.size)).getD 0), ?_, ?_⟩
  · induction fields generalizing ps with
    | nil => intro f hf; simp at hf
    | cons f fs ih =>
      simp only [List.map_cons, placesL] at h
      split at h
      · rename_i ti ps' h1 h2
        intro f' hf w
        rcases List.mem_cons.1 hf with rfl | hf
        · simp only [Sem.run_bind, (hT _ _ h1).run_size, Result.andThen_ok, Sem.run_pure, h1, Option.map_some, Option.getD_some]
        · exact ih ps' h2 f' hf w
      · simp at h
  · induction fields generalizing ps with
    | nil => simp only [List.map_nil, placesL, Option.some.injEq] at h; exact h
    | cons f fs ih =>
      simp only [List.map_cons, placesL] at h
      split at h
      · rename_i ti ps' h1 h2
        obtain rfl := Option.some.inj h
        simp only [List.map_cons, ih ps' h2, h1, Option.map_some, Option.getD_some]
      · simp at h
theorem Inv.build (I : Inv w0 M0 R0 n dfs bs S R a w) {cx : Cx} (hT : TblOk cx.P cx.tbl) {t : TypeId} {ti : TI} (ht : cx.tbl t = some ti) {fs : List (TypeId × Nat)} (hu : ti.u = .struct fs) {ps : List (Nat × Nat)} (hp : placesL cx.tbl fs = some ps)
    {parts : Array (Nat × Operand)} {cs : List LV} (h : KE.fillL S.env ps (ti.ks.map Kd.zlv) parts.toList = some cs) :
    ∃ vs, (Instr.build t (parts.map fun x => (x.1, a.eval x.2))).run cx.P w = .ok (.agg vs.toArray) w ∧ FitsL bs cs vs ∧ ∀ c ∈ cs, c.good (Alive S) R := by
  have T := hT t ti ht
  have hund := T.und
  rw [hu] at hund
  obtain ⟨fields, hf, rfl⟩ := hund
  obtain ⟨g, hg1, hg2⟩ := placesL_ok hT _ _ hp
  obtain ⟨z, hz1, hz2⟩ := T.run_zero w
  have hg3 : (fields.map g).toList = ps := by rw [Array.toList_map]; exact hg2
  obtain ⟨us, f1, f2, f3⟩ := I.fillL ps (fun i => (fields.map g)[i]?) (fun i => by rw [← hg3]; simp) parts.toList _ _ _ (zlvs_fits bs ti.ks) (fun c hc => by
    obtain ⟨k, _, rfl⟩ := List.mem_map.1 hc
    exact zlv_good _ _ k) h
  refine ⟨us, ?_, f2, f3⟩
  have f1' : Instr.fill (fun i => (fields.map g)[i]?) z.cells (parts.map fun x => (x.1, a.eval x.2)).toList = some us.toArray := by
    rw [hz2, Array.toList_map]; exact f1
  simp only [Instr.build, Sem.run_bind, hz1, Result.andThen_ok, run_und hf]
  rw [run_mapA _ g fields fun f hf => hg1 f hf w]
  simp only [Result.andThen_ok, f1', Sem.run_pure]
end
end Go.KE

/- The engine, part M: each operation that turns nothing. -/
namespace Go.KE
open Go.RowKit (Below)

/-- A bound of a slice expression. -/
def OptFits (bs : Bs) : Option SV → Option Value → Prop
  | none, none => True
  | some x, some v => x.fits bs v
  | _, _ => False
theorem optInt_iff {bs : Bs} {x : Option SV} {v : Option Value} {d : Int} {K : Int → Prop} (hf : OptFits bs x v) (h : optInt x d K) : (v = none ∧ x = none ∧ K d) ∨ ∃ k m, v = some (.int k m) ∧ K m := by
  unfold optInt at h
  split at h
  · cases v with
    | none => exact .inl ⟨rfl, rfl, h⟩
    | some v => exact hf.elim
  · cases v with
    | none => exact hf.elim
    | some v =>
      obtain rfl := LV.fits_val hf (by simp)
      exact .inr ⟨_, _, rfl, h⟩
  · exact h.elim
theorem run_bounds {P : Program} {w : World} (isSl : Bool) (len cap : Nat) {lo hi : Option Value} {l h : Int} (hl : (lo = none ∧ l = 0) ∨ ∃ k, lo = some (.int k l)) (hh : (hi = none ∧ h = len) ∨ ∃ k, hi = some (.int k h))
    (h0 : 0 ≤ l) (h1 : l ≤ h) (h2 : h ≤ cap) : (Instr.sliceBounds isSl len cap lo hi none).run P w = .ok (l.toNat, h.toNat, cap) w := by
  have e1 : (if isSl = true then BoundsCode.sliceAcap else BoundsCode.sliceAlen) = (if isSl = true then BoundsCode.sliceAcap else BoundsCode.sliceAlen) := rfl
  have hc : ((h.toNat : Nat) : Int) = h := by omega
  rcases hl with ⟨rfl, rfl⟩ | ⟨k, rfl⟩ <;> rcases hh with ⟨rfl, rfl⟩ | ⟨k', rfl⟩
  · simp [Instr.sliceBounds]
  · simp [Instr.sliceBounds, run_sliceBound, h2, (by omega : (0 : Int) ≤ h)]
  · simp [Instr.sliceBounds, run_sliceBound, h0, h1]
  · simp [Instr.sliceBounds, run_sliceBound, h0, h1, h2, hc, (by omega : (0 : Int) ≤ h)]

section
variable {w0 : World} {M0 : Mod} {R0 : Hp} {n : Nat} {dfs : List Deferred} {bs : Bs} {S : St} {R : Hp} {a : Act} {w : World}
theorem Inv.slice (I : Inv w0 M0 R0 n dfs bs S R a w) {cx : Cx} (hT : TblOk cx.P cx.tbl) {t : TypeId} {x : SV} {v : Value} {lo hi : Option SV} {lo' hi' : Option Value} {K : SV → Prop} (hf : x.fits bs v) (hlo : OptFits bs lo lo') (hhi : OptFits bs hi hi')
    (h : evSlice cx S.hid t x lo hi K) : ∃ sv u, (Instr.sliceAt t v lo' hi' none).run cx.P w = .ok u w ∧ K (.l sv) ∧ sv.fits bs u ∧ sv.good (Alive S) R := by
  unfold evSlice at h
  split at h
  · rename_i s
    obtain rfl := LV.fits_val hf (by simp)
    split at h
    · rename_i hs
      have hu := isStr_und hT hs
      have key : ∀ l hh : Int, ((lo' = none ∧ l = 0) ∨ ∃ k, lo' = some (.int k l)) → ((hi' = none ∧ hh = s.size) ∨ ∃ k, hi' = some (.int k hh)) → (0 ≤ l ∧ l ≤ hh ∧ hh ≤ s.size ∧ K (.l (.str (s.extract l.toNat hh.toNat)))) →
          ∃ sv u, (Instr.sliceAt t (.string s) lo' hi' none).run cx.P w = .ok u w ∧ K (.l sv) ∧ sv.fits bs u ∧ sv.good (Alive S) R := by
        intro l hh e1 e2 ⟨h0, h1, h2, hK⟩
        refine ⟨_, .string (s.extract l.toNat hh.toNat), ?_, hK, .inr rfl, good_of_not (fun _ => rfl) trivial⟩
        simp only [Instr.sliceAt, Instr.slice, Sem.run_bind, run_und hu, Result.andThen_ok, Option.isSome_none, Bool.false_eq_true, if_false, run_bounds false s.size s.size e1 e2 h0 h1 h2, Sem.run_pure]
      rcases optInt_iff hlo h with ⟨e1, _, h⟩ | ⟨k, l, e1, h⟩ <;> rcases optInt_iff hhi h with ⟨e2, _, h⟩ | ⟨k', hh, e2, h⟩
      · exact key _ _ (.inl ⟨e1, rfl⟩) (.inl ⟨e2, rfl⟩) h
      · exact key _ _ (.inl ⟨e1, rfl⟩) (.inr ⟨_, e2⟩) h
      · exact key _ _ (.inr ⟨_, e1⟩) (.inl ⟨e2, rfl⟩) h
      · exact key _ _ (.inr ⟨_, e1⟩) (.inr ⟨_, e2⟩) h
    · exact h.elim
  · rename_i s
    obtain rfl := LV.fits_val hf (by simp)
    obtain ⟨ti, e, te, ht, hu0, hte, h⟩ := elemOfT_iff h
    have hu := (hT t ti ht).slice hu0
    have key : ∀ l hh : Int, ((lo' = none ∧ l = 0) ∨ ∃ k, lo' = some (.int k l)) → ((hi' = none ∧ hh = s.len) ∨ ∃ k, hi' = some (.int k hh)) → (0 ≤ l ∧ l ≤ hh ∧ hh ≤ s.cap ∧ K (.l (.sl (s.from l.toNat hh.toNat te.size)))) →
        ∃ sv u, (Instr.sliceAt t s.val lo' hi' none).run cx.P w = .ok u w ∧ K (.l sv) ∧ sv.fits bs u ∧ sv.good (Alive S) R := by
      intro l hh e1 e2 ⟨h0, h1, h2, hK⟩
      refine ⟨_, (s.from l.toNat hh.toNat te.size).val, ?_, hK, .inr rfl, good_of_not (fun _ => rfl) trivial⟩
      simp only [Sl.val, Instr.sliceAt, Instr.slice, Sem.run_bind, run_und hu, Result.andThen_ok, run_bounds true s.len s.cap e1 e2 h0 h1 h2, (hT e te hte).run_size, Sem.run_pure, Sl.from]
    rcases optInt_iff hlo h with ⟨e1, _, h⟩ | ⟨k, l, e1, h⟩ <;> rcases optInt_iff hhi h with ⟨e2, _, h⟩ | ⟨k', hh, e2, h⟩
    · exact key _ _ (.inl ⟨e1, rfl⟩) (.inl ⟨e2, rfl⟩) h
    · exact key _ _ (.inl ⟨e1, rfl⟩) (.inr ⟨_, e2⟩) h
    · exact key _ _ (.inr ⟨_, e1⟩) (.inl ⟨e2, rfl⟩) h
    · exact key _ _ (.inr ⟨_, e1⟩) (.inr ⟨_, e2⟩) h
  · rename_i id
    obtain rfl := LV.fits_val hf (by simp)
    obtain ⟨ti, e, te, ht, hu0, hte, h⟩ := elemOfT_iff h
    have hu := (hT t ti ht).slice hu0
    split at h
    · rename_i T ks xs er
      have hlc : (bs id).sl.len = xs.length ∧ xs.length ≤ (bs id).sl.cap := by
        rcases I.row er with ⟨h1, rfl⟩ | ⟨b, _, h2, h3, _⟩
        · rw [h1]; exact ⟨rfl, Nat.le_refl _⟩
        · exact ⟨h2, h3⟩
      split at h
      · exact h.elim
      · rename_i lo
        have key : ∀ l hh : Int, ((lo' = none ∧ l = 0) ∨ ∃ k, lo' = some (.int k l)) → ((hi' = none ∧ hh = xs.length) ∨ ∃ k, hi' = some (.int k hh)) → (0 ≤ l ∧ l ≤ hh ∧ hh ≤ xs.length ∧ K (.l (.view id l.toNat hh.toNat te.size))) →
            ∃ sv u, (Instr.sliceAt t (bs id).sl.val lo' hi' none).run cx.P w = .ok u w ∧ K (.l sv) ∧ sv.fits bs u ∧ sv.good (Alive S) R := by
          intro l hh e1 e2 ⟨h0, h1, h2, hK⟩
          have h2' : hh ≤ ((bs id).sl.cap : Int) := by omega
          rw [← hlc.1] at e2
          refine ⟨_, _, ?_, hK, .inr rfl, ⟨fun id' hs => ?_, trivial⟩⟩
          · simp only [Sl.val, Instr.sliceAt, Instr.slice, Sem.run_bind, run_und hu, Result.andThen_ok, run_bounds true (bs id).sl.len (bs id).sl.cap e1 e2 h0 h1 h2', (hT e te hte).run_size, Sem.run_pure, LV.conc]
          · have : id = id' := by simpa [LV.says] using hs
            subst this
            intro hn
            rw [hn] at er
            cases er
        rcases optInt_iff hlo h with ⟨e1, _, h⟩ | ⟨k, l, e1, h⟩ <;> rcases optInt_iff hhi h with ⟨e2, _, h⟩ | ⟨k', hh, e2, h⟩
        · exact key _ _ (.inl ⟨e1, rfl⟩) (.inl ⟨e2, rfl⟩) h
        · exact key _ _ (.inl ⟨e1, rfl⟩) (.inr ⟨_, e2⟩) h
        · exact key _ _ (.inr ⟨_, e1⟩) (.inl ⟨e2, rfl⟩) h
        · exact key _ _ (.inr ⟨_, e1⟩) (.inr ⟨_, e2⟩) h
    · exact h.elim
  · exact h.elim
end
end Go.KE

/- The engine, part N: each operation that turns nothing runs as it is told. -/
namespace Go.KE
open Go.RowKit (Below)

theorem Below.ofAlloc (w : World) (o : Obj) : Below w.heap.size w (w.alloc o) := (Below.refl _ w).alloc (Nat.le_refl _) o
theorem Below.ofDrew (w : World) : Below w.heap.size w w.drew := (Below.refl _ w).drew
theorem alloc_new (w : World) (o : Obj) : (w.alloc o).heap[w.heap.size]? = some o := by
  show (w.heap.push o)[w.heap.size]? = some o
  simp
theorem newAt_iff {hid : Nat → Option HB} {d : Option Nat} {K : Nat → Prop} (h : newAt hid d K) : ∃ m, d = some m ∧ hid m = none ∧ K m := by
  unfold newAt at h
  split at h
  · rename_i m
    split at h
    · rename_i e; exact ⟨m, rfl, e, h⟩
    · exact h.elim
  · exact h.elim
theorem isSrc_und {cx : Cx} (hT : TblOk cx.P cx.tbl) {t : TypeId} (h : isSrc cx t = true) : (∃ e, cx.P.underlying t = some (.slice e)) ∨ cx.P.underlying t = some .string := by
  unfold isSrc at h
  rw [Bool.or_eq_true] at h
  exact h.imp (isSl_und hT) (isStr_und hT)
/-- 'append' where a new block is made. -/
theorem run_append_new {P : Program} {w : World} {t u ty e : TypeId} {te : TI} (hte : TOk P e te) (ht : P.underlying t = some (.slice e)) (hu : (∃ e, P.underlying u = some (.slice e)) ∨ P.underlying u = some .string)
    {A : Option Addr} {cap : Nat} {xs ys : List (Tup te.ks)} {y : Value} (hy : Src w te.size te.ks y ys)
    (hx : ∀ w', w'.heap = w.heap → (Builtin.firstCells te.size xs.length (.slice A xs.length cap)).run P w' = .ok (flat te.ks xs).toArray w') (hb1 : 1 ≤ te.bytes) (hb : (xs.length + ys.length) * te.bytes ≤ roomBytes) (hg : cap < xs.length + ys.length) :
    ∃ w' c rest, (Builtin.append_ #[t, u] ty #[.slice A xs.length cap, y]).run P w = .ok (.slice (some ⟨w.heap.size, 0, none⟩) (xs.length + ys.length) c) w' ∧ Below w.heap.size w w' ∧
      w'.heap[w.heap.size]? = some (.cells (flat te.ks (xs ++ ys) ++ rest).toArray e (0, 0)) ∧ (flat te.ks (xs ++ ys) ++ rest).length = c * te.ks.length ∧ xs.length + ys.length ≤ c := by
  obtain ⟨i, hi, hs, hbt, z, hz, hzc, _⟩ := hte.info
  have hz' : (match P.underlying u with | some d => (d matches .int _) | none => false) = false := by rcases hu with ⟨e', h⟩ | h <;> rw [h]
  have hroom : (xs.length + ys.length) * te.bytes ≤ 140737488355328 := hb
  have h63 : ¬ ((xs.length + ys.length : Nat) : Int) > IntKind.i64.max := by
    have : xs.length + ys.length ≤ (xs.length + ys.length) * te.bytes := Nat.le_mul_of_pos_right _ hb1
    have h1 : IntKind.i64.max = 9223372036854775807 := by decide
    rw [h1]
    omega
  have h48 : ¬ Builtin.nextslicecap (xs.length + ys.length) cap * te.bytes > 2 ^ 48 := by
    have := growslice_fits (bytes := te.bytes) hg hroom
    omega
  have hneed : ¬ (xs.length + ys.length ≤ cap) := by omega
  have hc : xs.length + ys.length ≤ grownCap w (xs.length + ys.length) cap e := by simp only [grownCap, Question.cut]; omega
  refine ⟨w.drew.alloc (.cells ((flat te.ks xs).toArray ++ (flat te.ks ys).toArray ++ Builtin.zeroCells z.cells (grownCap w (xs.length + ys.length) cap e - (xs.length + ys.length))) e), grownCap w (xs.length + ys.length) cap e, (Builtin.zeroCells z.cells (grownCap w (xs.length + ys.length) cap e - (xs.length + ys.length))).toList, ?_, ?_, ?_, ?_, hc⟩
  · have hlen := (hy P w rfl).1
    have hcells := (hy P w.drew rfl).2 ys.length (Nat.le_refl _)
    have hold := hx w.drew rfl
    rw [List.take_length] at hcells
    have hsz : ∀ w, (sizeOf e).run P w = .ok te.size w := fun w => hte.run_size w
    have hti : ∀ w, (typeInfo e).run P w = .ok i w := fun w => by simp [typeInfo, hi]
    have hzv : ∀ w, (zeroValue e).run P w = .ok z w := fun w => by simp [zeroValue, typeInfo, hi, hz]
    rcases hu with ⟨e', hu⟩ | hu <;>
    · simp only [Builtin.append_, List.getElem?_toArray, List.getElem?_cons_zero, List.getElem?_cons_succ, Sem.run_bind, run_und ht, run_und hu, Result.andThen_ok, hsz, hlen, Sem.run_pure, Bool.false_eq_true, if_false, if_neg hneed, Bool.not_false, if_true]
      simp only [hti, Result.andThen_ok]
      rw [if_neg (fun h => h63 h.1)]
      simp only [Sem.run_bind, Sem.run_pure, Result.andThen_ok, hti, hbt]
      rw [if_neg h48]
      simp only [Sem.run_bind, Sem.run_pure, Result.andThen_ok, run_choose_drew, Question.forced, Bool.false_eq_true, if_false, run_askRoom, hti, hold, hcells, hzv, newRow, run_newObj_alloc]
      rfl
  · exact (Below.ofDrew w).trans ((Below.refl _ w.drew).alloc (Nat.le_refl _) _)
  · have := alloc_new w.drew (.cells ((flat te.ks xs).toArray ++ (flat te.ks ys).toArray ++ Builtin.zeroCells z.cells (grownCap w (xs.length + ys.length) cap e - (xs.length + ys.length))) e)
    rw [show w.drew.heap.size = w.heap.size from rfl] at this
    rw [this]
    congr 2
    apply Array.toList_inj.1
    simp [flat_append]
  · have hzl : (Builtin.zeroCells z.cells (grownCap w (xs.length + ys.length) cap e - (xs.length + ys.length))).toList.length = (grownCap w (xs.length + ys.length) cap e - (xs.length + ys.length)) * te.ks.length := by
      simp [Builtin.zeroCells, hzc, Tup.enc_length]
    rw [List.length_append, flat_length, List.length_append, hzl, ← Nat.add_mul]
    congr 1
    omega
end Go.KE

/- The engine, part O: each operation that turns nothing runs as it is told. -/
namespace Go.KE
open Go.RowKit (Below)

theorem okNil_iff {y : SV} {o : Operand} (h : okNil y o = true) (hy : y = .l (.ifc none)) : ∃ v, o = .const v := by
  subst hy
  simp only [okNil] at h
  split at h
  · exact ⟨_, rfl⟩
  · cases h
theorem optFits_map {bs : Bs} {S : St} {a : Act} (hop : ∀ x, (KE.opd S.env x).fits bs (a.eval x)) (x : Option Operand) : OptFits bs (x.map (opd S.env)) (x.map a.eval) := by
  cases x with
  | none => trivial
  | some x => exact hop x
theorem newrow_ok {w' : World} {bs : Bs} {m : Nat} {e : TypeId} {ks : List Kd} {xs : List (Tup ks)} {b cap : Nat} {rest : List Value}
    (hb : w'.heap[b]? = some (.cells (flat ks xs ++ rest).toArray e (0, 0))) (hl : (flat ks xs ++ rest).length = cap * ks.length) (hc : xs.length ≤ cap) :
    HBok w' (updB bs m ⟨0, ⟨some ⟨b, 0, none⟩, xs.length, cap⟩⟩) m (.row (.sl e ks) xs) :=
  .inr ⟨b, rest, by simp [updB], by simp [updB], hb, by simpa [updB] using hl, by simpa [updB] using hc⟩

section
variable {w0 : World} {M0 : Mod} {R0 : Hp} {n : Nat} {dfs : List Deferred} {bs : Bs} {S : St} {R : Hp} {a : Act} {w : World}
theorem out_row {m : Nat} {e : TypeId} {ks : List Kd} {xs : List (Tup ks)} {cap : Nat} {rest : List Value} {w' : World} (hfree : S.hid m = none) (hbel : Below w.heap.size w w')
    (hb : w'.heap[w.heap.size]? = some (.cells (flat ks xs ++ rest).toArray e (0, 0))) (hl : (flat ks xs ++ rest).length = cap * ks.length) (hc : xs.length ≤ cap) :
    Out S bs R (some m) w (.l (.row m)) (some (.row (.sl e ks) xs)) (.slice (some ⟨w.heap.size, 0, none⟩) xs.length cap) w' :=
  ⟨m, ⟨0, ⟨some ⟨w.heap.size, 0, none⟩, xs.length, cap⟩⟩, rfl, hfree, hbel, newrow_ok hb hl hc, fun b hb => by simp [HB.blk, updB] at hb; omega, .inr (by simp [LV.conc, updB, Sl.val]),
    good_l ⟨fun id hs => .inl (by have := hs; simp only [LV.says] at this; exact (Nat.eq_of_beq_eq_true this).symm), trivial⟩, fun T cs h => by cases h⟩
theorem out_cells {m : Nat} {t : TypeId} {cs : List LV} {vs : List Value} {w' : World} (hfree : S.hid m = none) (hbel : Below w.heap.size w w') (hb : w'.heap[w.heap.size]? = some (.cells vs.toArray t (0, 0)))
    (hf : FitsL bs cs vs) (hg : ∀ c ∈ cs, c.good (Alive S) R) : Out S bs R (some m) w (.l (.adr m 0)) (some (.cells t cs)) (.pointer (some ⟨w.heap.size, 0, none⟩)) w' := by
  have hs : cs.any (LV.says m) = false := by
    rw [List.any_eq_false]
    intro c hc hs
    exact (hg c hc).live m hs hfree
  exact ⟨m, ⟨w.heap.size, ⟨none, 0, 0⟩⟩, rfl, hfree, hbel, ⟨vs, FitsL.congr (updB_ne bs m _) hs hf, by simpa [updB] using hb⟩, fun b hb => by simp [HB.blk, updB] at hb; omega, .inr (by simp [LV.conc, updB]),
    good_l ⟨fun id hs => .inl (by have := hs; simp only [LV.says] at this; exact (Nat.eq_of_beq_eq_true this).symm), trivial⟩, fun T cs' h => by cases h; exact hg⟩

theorem Inv.indexAt (I : Inv w0 M0 R0 n dfs bs S R a w) {cx : Cx} (hT : TblOk cx.P cx.tbl) {t e : TypeId} {te : TI} (hte : cx.tbl e = some te) (hu : cx.P.underlying t = some (.slice e)) {ad : Addr} {l c : Nat} {k : IntKind} {i : Int} (h0 : 0 ≤ i) (h1 : i < (l : Int)) :
    (Instr.indexAt t (.slice (some ad) l c) (.int k i)).run cx.P w = .ok (.pointer (some (ad.add (i.toNat * te.size)))) w := by
  simp only [Instr.indexAt, asIntOf, Sem.run_bind, Sem.run_pure, Result.andThen_ok, run_und hu, (hT e te hte).run_size]
  rw [if_pos ⟨h0, h1⟩]
  simp only [Sem.run_bind, Sem.run_pure, Result.andThen_ok, (hT e te hte).run_size]

theorem fieldPlace_run {cx : Cx} (hT : TblOk cx.P cx.tbl) {ft : TypeId} {tf : TI} (h : cx.tbl ft = some tf) (h1 : 1 ≤ tf.size) (ad : Addr) (f : Field) (hf : f.type = ft) (w : World) : (fieldPlace ad f).run cx.P w = .ok (ad.add f.offset) w := by
  subst hf
  simp only [fieldPlace, Sem.run_bind, (hT _ tf h).run_size, Result.andThen_ok]
  rw [if_neg (by omega)]
  rfl
theorem fieldAt_run {cx : Cx} (hT : TblOk cx.P cx.tbl) {t ft : TypeId} {ti tf : TI} {fs : List (TypeId × Nat)} {f off : Nat} (ht : cx.tbl t = some ti) (hu : ti.u = .struct fs) (hf : fs[f]? = some (ft, off)) (h : cx.tbl ft = some tf) (h1 : 1 ≤ tf.size) (ad : Addr) (w : World) :
    (Instr.fieldAt t (.pointer (some ad)) f).run cx.P w = .ok (.pointer (some (ad.add off))) w := by
  have hund := (hT t ti ht).und
  rw [hu] at hund
  obtain ⟨fields, hfl, rfl⟩ := hund
  simp only [List.getElem?_map, Option.map_eq_some_iff] at hf
  obtain ⟨fd, hfd, he⟩ := hf
  obtain ⟨rfl, rfl⟩ : fd.type = ft ∧ fd.offset = off := by simpa using he
  have hfd' : fields[f]? = some fd := by simpa using hfd
  simp only [Instr.fieldAt, Sem.run_bind, run_und hfl, Result.andThen_ok, hfd', Instr.sureAddr, Sem.run_pure, fieldPlace_run hT h h1 ad fd rfl]
theorem field_run {cx : Cx} (hT : TblOk cx.P cx.tbl) {t ft : TypeId} {ti tf : TI} {fs : List (TypeId × Nat)} {f off : Nat} (ht : cx.tbl t = some ti) (hu : ti.u = .struct fs) (hf : fs[f]? = some (ft, off)) (h : cx.tbl ft = some tf) {vs : List Value} (w : World)
    (hl : ((vs.drop off).take tf.size).length = tf.size) (h1 : 1 ≤ tf.size) :
    (Instr.field t (.agg vs.toArray) f).run cx.P w = .ok (if tf.agg = true then .agg ((vs.drop off).take tf.size).toArray else ((vs.drop off).take tf.size).getD 0 undef) w := by
  have hund := (hT t ti ht).und
  rw [hu] at hund
  obtain ⟨fields, hfl, rfl⟩ := hund
  simp only [List.getElem?_map, Option.map_eq_some_iff] at hf
  obtain ⟨fd, hfd, he⟩ := hf
  obtain ⟨rfl, rfl⟩ : fd.type = ft ∧ fd.offset = off := by simpa using he
  have hfd' : fields[f]? = some fd := by simpa using hfd
  have T := hT _ tf h
  simp only [Instr.field, Sem.run_bind, run_und hfl, Result.andThen_ok, hfd', asAgg, Sem.run_pure, part, T.agg]
  cases hagg : tf.agg with
  | true =>
    simp only [if_true, Sem.run_bind, T.run_size, Result.andThen_ok, Sem.run_pure]
    congr 2
    apply Array.toList_inj.1
    simp [List.extract_eq_take_drop]
  | false =>
    simp only [Bool.false_eq_true, if_false]
    have hs : tf.size = 1 := T.one hagg
    rw [hs] at hl
    have hlt : fd.offset < vs.length := by simp only [List.length_take, List.length_drop] at hl; omega
    have e1 : ((vs.drop fd.offset).take tf.size).getD 0 undef = vs[fd.offset] := by
      rw [hs, List.getD_eq_getElem?_getD, List.getElem?_take_of_lt (by omega), List.getElem?_drop, Nat.add_zero, List.getElem?_eq_getElem hlt, Option.getD_some]
    rw [e1]
    simp [hlt]
end
end Go.KE

/- The engine, part P: all operations that turn nothing. -/
namespace Go.KE
open Go.RowKit (Below)

theorem FitsT.get {bs : Bs} : ∀ {cs : List (Bool × List LV)} {vs : List Value}, FitsT bs cs vs → ∀ (i : Nat) c, cs[i]? = some c → ∃ v, vs[i]? = some v ∧ FitsG bs c v
  | c :: cs, v :: vs, h, 0, c', e => ⟨v, rfl, by simp at e; exact e ▸ h.1⟩
  | _ :: _, _ :: _, h, i + 1, c', e => FitsT.get h.2 i c' (by simpa using e)
  | [], _, _, _, _, e => by simp at e
  | _ :: _, [], h, _, _, _ => h.elim
theorem svG_fits {bs : Bs} {g : Bool × List LV} {v : Value} (h : FitsG bs g v) : (svG g).fits bs v := by
  match g, h with
  | (true, cs), h => exact h
  | (false, [x]), h => exact h
  | (false, []), h => exact h.elim
  | (false, _ :: _ :: _), h => exact h.elim
theorem svG_good {A : Nat → Prop} {R : Hp} {g : Bool × List LV} (h : ∀ c ∈ g.2, c.good A R) : (svG g).good A R := by
  have hno : (SV.l .no).good A R := good_l (good_of_not (fun _ => rfl) trivial)
  match g, h with
  | (true, cs), h => exact h
  | (false, [x]), h => exact good_l (h x (by simp))
  | (false, []), h => exact hno
  | (false, _ :: _ :: _), h => exact hno

theorem run_v {P : Program} {w w' : World} {s : Sem Value} {v : Value} (h : s.run P w = .ok v w') : (do pure (.value (← s)) : Sem Next).run P w = .ok (.value v) w' := by
  simp only [Sem.run_bind, h, Result.andThen_ok, Sem.run_pure]

section
variable {w0 : World} {M0 : Mod} {R0 : Hp} {n : Nat} {dfs : List Deferred} {bs : Bs} {S : St} {R : Hp} {a : Act} {w : World}
theorem Inv.l_val (I : Inv w0 M0 R0 n dfs bs S R a w) {x : Operand} {y : LV} (h : KE.opd S.env x = .l y) (hy : y ≠ .no) : a.eval x = y.conc bs := by
  have := I.opd x
  rw [h] at this
  exact LV.fits_val this hy
def POut (cx : Cx) (S : St) (bs : Bs) (R : Hp) (a : Act) (w : World) (o : Oper) (K : SV → Option HB → Prop) : Prop :=
  ∃ sv hbo v w', (execOp a.eval o).run cx.P w = .ok (.value v) w' ∧ Out S bs R o.dst w sv hbo v w' ∧ K sv hbo
theorem POut.same {cx : Cx} {o : Oper} {K : SV → Option HB → Prop} {v : Value} (sv : SV) (h1 : (execOp a.eval o).run cx.P w = .ok (.value v) w) (h2 : sv.fits bs v) (h3 : sv.good (Alive S) R) (h4 : K sv none) : POut cx S bs R a w o K :=
  ⟨sv, none, v, w, h1, ⟨rfl, h2, h3⟩, h4⟩
theorem POut.l {cx : Cx} {o : Oper} {K : SV → Option HB → Prop} {lv : LV} (h4 : K (.l lv) none) (v : Value) (h1 : (execOp a.eval o).run cx.P w = .ok (.value v) w) (h2 : v = lv.conc bs) (h3 : lv.good (Alive S) R) : POut cx S bs R a w o K :=
  POut.same (.l lv) h1 (show lv = .no ∨ v = lv.conc bs from .inr h2) (good_l h3) h4

theorem Inv.pMake (I : Inv w0 M0 R0 n dfs bs S R a w) {cx : Cx} (hT : TblOk cx.P cx.tbl) {o : Oper} {t : TypeId} {l c : Operand} (hop : o.op = .makeSlice t l c) {K : SV → Option HB → Prop} (h : evP cx o S.env S.hid R K) : POut cx S bs R a w o K := by
  unfold evP at h
  rw [hop] at h
  simp only at h
  obtain ⟨ti, e, te, ht, hu0, hte, h⟩ := elemOfT_iff h
  have hu := (hT t ti ht).slice hu0
  have T := hT e te hte
  split at h
  · rename_i l' c' hl hc
    obtain ⟨m, hd, hfree, h⟩ := newAt_iff h
    split at h
    · rename_i hb1
      obtain ⟨h0, h1, hbytes, hK⟩ := h
      have hb1 := Nat.le_of_ble_eq_true hb1
      obtain ⟨i, hi, hs, hb, z, hz, hzc, _⟩ := T.info
      have hr : (c' : Int) * te.bytes ≤ 140737488355328 := hbytes
      have hcb : c' ≤ c' * (te.bytes : Int) := by
        have : c' * 1 ≤ c' * (te.bytes : Int) := Int.mul_le_mul_of_nonneg_left (by omega) (by omega)
        simpa using this
      have hrun := run_make w t e i z hu hi hz .i64 .i64 l' c' h0 h1 (by rw [hb, Int.mul_comm]; omega) (by omega)
      have el := I.l_val hl (by simp)
      have ec := I.l_val hc (by simp)
      refine ⟨_, _, .slice (some ⟨w.heap.size, 0, none⟩) l'.toNat c'.toNat, w.alloc (.cells (madeCells z.cells (c'.toNat * i.size)) e), ?_, ?_, hK⟩
      · simp only [execOp, hop, el, ec, LV.conc, Sem.run_bind, hrun, Result.andThen_ok, Sem.run_pure]
      · rw [hd]
        have hlen : (List.replicate l'.toNat (Tup.zero te.ks)).length = l'.toNat := List.length_replicate
        have := out_row (S := S) (bs := bs) (R := R) (e := e) (xs := List.replicate l'.toNat (Tup.zero te.ks)) (rest := flat te.ks (List.replicate (c'.toNat - l'.toNat) (Tup.zero te.ks))) (cap := c'.toNat) hfree (Below.ofAlloc w (.cells (madeCells z.cells (c'.toNat * i.size)) e)) ?_ ?_ ?_
        · rw [hlen] at this; exact this
        · rw [alloc_new, ← flat_append, List.replicate_append_replicate, show l'.toNat + (c'.toNat - l'.toNat) = c'.toNat by omega, ← zeros_eq te.ks c'.toNat z.cells hzc, hs, ← T.ksl]
          rfl
        · rw [← flat_append, List.replicate_append_replicate, flat_length, List.length_replicate]
          congr 1
          omega
        · rw [hlen]; omega
    · exact h.elim
  · exact h.elim

theorem Inv.pBuildSlice (I : Inv w0 M0 R0 n dfs bs S R a w) {cx : Cx} (hT : TblOk cx.P cx.tbl) {o : Oper} {t : TypeId} {len : Nat} {parts : Array (Nat × Operand)} (hop : o.op = .buildSlice t len parts) {K : SV → Option HB → Prop} (h : evP cx o S.env S.hid R K) : POut cx S bs R a w o K := by
  unfold evP at h
  rw [hop] at h
  simp only at h
  obtain ⟨ti, e, te, ht, hu0, hte, h⟩ := elemOfT_iff h
  have hu := (hT t ti ht).slice hu0
  have T := hT e te hte
  obtain ⟨m, hd, hfree, h⟩ := newAt_iff h
  split at h
  · rename_i xs hxs
    split at hxs
    · rename_i hsz
      have hsz := Nat.le_of_ble_eq_true hsz
      obtain ⟨i, hi, hs, hb, z, hz, hzc, _⟩ := T.info
      have hf := I.fillE te.ks parts.toList _ xs hxs
      have hxl : xs.length = len := by
        have : ∀ (ps : List (Nat × Operand)) (xs ys : List (Tup te.ks)), KE.fillE S.env te.ks xs ps = some ys → ys.length = xs.length := by
          intro ps
          induction ps with
          | nil => intro xs ys h; simp only [KE.fillE, Option.some.injEq] at h; rw [h]
          | cons p ps ih =>
            obtain ⟨i, x⟩ := p
            intro xs ys h
            simp only [KE.fillE] at h
            repeat' split at h
            all_goals first | (cases h; done) | (have := ih _ _ h; simpa using this)
        rw [this _ _ _ hxs, List.length_replicate]
      have hz0 : ∀ w, (zeroValue e).run cx.P w = .ok z w := fun w => by simp [zeroValue, typeInfo, hi, hz]
      have hrun : (Instr.buildSlice t len (parts.map fun p => (p.1, a.eval p.2))).run cx.P w = .ok (.slice (some ⟨w.heap.size, 0, none⟩) len len) (w.alloc (.cells (flat te.ks xs).toArray e)) := by
        have hfill : Instr.fill (fun i => some (i * te.size, te.size)) (flat te.ks (List.replicate len (Tup.zero te.ks))).toArray (parts.map fun p => (p.1, a.eval p.2)).toList = some (flat te.ks xs).toArray := by
          rw [Array.toList_map, ← T.ksl]
          exact hf
        simp only [Instr.buildSlice, Sem.run_bind, run_und hu, Result.andThen_ok, T.run_size]
        rw [if_neg (by have : (2 : Nat) ^ 24 = 16777216 := by decide
                       omega)]
        by_cases h0 : len * te.size = 0
        · simp only [h0, if_true, Sem.run_bind, Sem.run_pure, Result.andThen_ok]
          have e0 : (Array.range 0).map (fun (i : Nat) => (#[] : Array Value)[i % (#[] : Array Value).size]!) = (flat te.ks (List.replicate len (Tup.zero te.ks))).toArray := by
            apply Array.toList_inj.1
            have : (flat te.ks (List.replicate len (Tup.zero te.ks))).length = 0 := by rw [flat_length, List.length_replicate, T.ksl, h0]
            rw [List.length_eq_zero_iff.1 this]
            simp
          rw [e0, hfill]
          simp only [newRow, Sem.run_bind, run_newObj_alloc, Result.andThen_ok, Sem.run_pure]
        · simp only [h0, if_false, Sem.run_bind, Sem.run_pure, Result.andThen_ok, hz0]
          rw [← T.ksl, zeros_eq te.ks len z.cells hzc, T.ksl, hfill]
          simp only [newRow, Sem.run_bind, run_newObj_alloc, Result.andThen_ok, Sem.run_pure]
      refine ⟨_, _, _, _, by simp only [execOp, hop]; exact run_v hrun, ?_, h⟩
      rw [hd]
      have := out_row (S := S) (bs := bs) (R := R) (e := e) (xs := xs) (rest := []) (cap := len) hfree (Below.ofAlloc w (.cells (flat te.ks xs).toArray e)) (by rw [alloc_new, List.append_nil]) (by rw [List.append_nil, flat_length, hxl]) (by omega)
      rw [hxl] at this
      exact this
    · cases hxs
  · exact h.elim

theorem arrT_iff {cx : Cx} {t : TypeId} {n : Nat} {te : TI} (h : arrT cx t = some (n, te)) : ∃ ti e, cx.tbl t = some ti ∧ ti.u = .arr n e ∧ cx.tbl e = some te := by
  unfold arrT at h
  split at h
  · rename_i ti e1
    split at h
    · rename_i n' e e2
      split at h
      · rename_i te' e3
        cases h
        exact ⟨ti, e, e1, e2, e3⟩
      · cases h
    · cases h
  · cases h
theorem Inv.pIndexAddr (I : Inv w0 M0 R0 n dfs bs S R a w) {cx : Cx} (hT : TblOk cx.P cx.tbl) {o : Oper} {t : TypeId} {x i : Operand} (hop : o.op = .indexAddr t x i) {K : SV → Option HB → Prop} (h : evP cx o S.env S.hid R K) : POut cx S bs R a w o K := by
  unfold evP at h
  rw [hop] at h
  simp only at h
  split at h
  · rename_i len te harr
    obtain ⟨ti, e, ht, hu0, hte⟩ := arrT_iff harr
    have hu := (hT t ti ht).und
    rw [hu0] at hu
    have T := hT e te hte
    split at h
    · rename_i k m hi
      split at h
      · rename_i ad hx
        have ei := I.l_val hi (by simp)
        have ex := I.l_val hx (by simp)
        obtain ⟨h0, h1, y, ⟨ad', e1, e2, hc⟩, hK⟩ := h
        cases ad with
        | none => cases e1
        | some ad =>
          cases e1
          refine POut.l hK (.pointer (some (ad.add (m.toNat * te.size)))) ?_ ?_ ⟨fun id hs => by simp [LV.says] at hs, ?_⟩
          · simp only [execOp, hop, ei, ex, LV.conc]
            refine run_v ?_
            simp only [Instr.indexAt, asIntOf, Sem.run_bind, Sem.run_pure, Result.andThen_ok, run_und hu, Instr.sureAddr, T.run_size]
            rw [if_pos ⟨h0, h1⟩]
            simp only [Sem.run_bind, Sem.run_pure, Result.andThen_ok, T.run_size]
          · obtain ⟨b, off, sp⟩ := ad
            simp only at e2
            subst e2
            simp only [LV.conc, Option.map_some, ptAd, add_none, Nat.add_zero]
          · exact ⟨e2, hc⟩
      · exact h.elim
    · exact h.elim
  obtain ⟨ti, e, te, ht, hu0, hte, h⟩ := elemOfT_iff h
  have hu := (hT t ti ht).slice hu0
  have T := hT e te hte
  have ek := T.ksl
  split at h
  · rename_i k m hi
    have ei := I.l_val hi (by simp)
    split at h
    · rename_i s hx
      have ex := I.l_val hx (by simp)
      obtain ⟨y, ⟨ad, e1, e2, h0, h1, h2⟩, hK⟩ := h
      refine POut.l hK (.pointer (some (ad.add (m.toNat * te.size)))) ?_ ?_ ⟨fun id hs => by simp [LV.says] at hs, ?_⟩
      · simp only [execOp, hop, ei, ex, LV.conc, Sl.val, e1, Sem.run_bind, I.indexAt hT hte hu h0 h1, Result.andThen_ok, Sem.run_pure]
      · have e2' := addr_eta e2
        rw [e2']
        simp only [LV.conc, Sl.at, e1, add_none, ek, Nat.add_zero]
      · unfold LV.adrOk
        unfold Sl.at
        simp only [e1]
        exact ⟨trivial, h2⟩
    · rename_i id hx
      have ex := I.l_val hx (by simp)
      split at h
      · rename_i T' ks xs er
        obtain ⟨h0, h1, hK⟩ := h
        rcases I.row er with ⟨_, rfl⟩ | ⟨b, e1, e2, e3, _⟩
        · simp at h1; omega
        · refine POut.l hK (.pointer (some ((⟨b, 0, none⟩ : Addr).add (m.toNat * te.size)))) ?_ ?_ ⟨fun id' hs => ?_, trivial⟩
          · simp only [execOp, hop, ei, ex, LV.conc, Sl.val, e1, Sem.run_bind, I.indexAt hT hte hu h0 (by rw [e2]; exact h1 : m < ((bs id).sl.len : Int)), Result.andThen_ok, Sem.run_pure]
          · simp only [LV.conc, e1, ptAd, add_none, Nat.add_zero]
          · have : id = id' := by simpa [LV.says] using hs
            subst this
            intro hn; rw [hn] at er; cases er
      · exact h.elim
    · rename_i id lo hi' esz hx
      have ex := I.l_val hx (by simp)
      split at h
      · rename_i hesz
        have hesz := Nat.eq_of_beq_eq_true hesz
        subst hesz
        split at h
        · rename_i T' ks xs er
          obtain ⟨hle, h0, h1, hK⟩ := h
          rcases I.row er with ⟨_, rfl⟩ | ⟨b, e1, e2, e3, _⟩
          · simp at hle; omega
          · have hcap : (bs id).sl.cap ≠ lo := by omega
            refine POut.l hK (.pointer (some ((⟨b, lo * te.size, none⟩ : Addr).add (m.toNat * te.size)))) ?_ ?_ ⟨fun id' hs => ?_, trivial⟩
            · simp only [execOp, hop, ei, ex, LV.conc, if_neg hcap, e1, Option.map_some, add_none, Nat.zero_add, Sem.run_bind, I.indexAt hT hte hu h0 h1, Result.andThen_ok, Sem.run_pure]
            · simp only [LV.conc, e1, ptAd, add_none, Nat.add_zero, Nat.zero_add, Nat.add_mul]
            · have : id = id' := by simpa [LV.says] using hs
              subst this
              intro hn; rw [hn] at er; cases er
        · exact h.elim
      · exact h.elim
    · exact h.elim
  · exact h.elim

theorem Inv.pFieldAddr (I : Inv w0 M0 R0 n dfs bs S R a w) {cx : Cx} (hT : TblOk cx.P cx.tbl) {o : Oper} {t : TypeId} {x : Operand} {f : Nat} (hop : o.op = .fieldAddr t x f) {K : SV → Option HB → Prop} (h : evP cx o S.env S.hid R K) : POut cx S bs R a w o K := by
  unfold evP at h
  rw [hop] at h
  simp only at h
  obtain ⟨ti, fs, ft, off, tf, ht, hu0, hfs, htf, h1, h⟩ := fieldOfT_iff h
  have hrun := fun ad => fieldAt_run hT ht hu0 hfs htf h1 ad w
  have hg := I.opd_good x
  split at h
  · rename_i id o' hx
    have ex := I.l_val hx (by simp)
    rw [hx] at hg
    refine POut.l h (.pointer (some ⟨(bs id).blk, o' + off, none⟩)) ?_ ?_ ⟨fun id' hs => hg.l.live id' hs, trivial⟩
    · simp only [execOp, hop, ex, LV.conc, Sem.run_bind, hrun, add_none, Result.andThen_ok, Sem.run_pure]
    · rfl
  · rename_i id ix o' esz hx
    have ex := I.l_val hx (by simp)
    rw [hx] at hg
    refine POut.l h (.pointer (some ⟨(ptAd (bs id).sl.a).block, (ptAd (bs id).sl.a).off + ix * esz + (o' + off), none⟩)) ?_ ?_ ⟨fun id' hs => hg.l.live id' hs, trivial⟩
    · simp only [execOp, hop, ex, LV.conc, Sem.run_bind, hrun, add_none, Result.andThen_ok, Sem.run_pure, Nat.add_assoc]
    · rfl
  · rename_i ad ks y o' hx
    have ex := I.l_val hx (by simp)
    rw [hx] at hg
    refine POut.l h (.pointer (some ⟨ad.block, ad.off + (o' + off), none⟩)) ?_ ?_ ⟨fun id' hs => by simp [LV.says] at hs, hg.l.adr⟩
    · simp only [execOp, hop, ex, LV.conc, Sem.run_bind, hrun, add_none, Result.andThen_ok, Sem.run_pure, Nat.add_assoc]
    · rfl
  · rename_i p hx
    have ex := I.l_val hx (by simp)
    obtain ⟨y, ⟨ad, rfl, e2, hr⟩, hK⟩ := h
    refine POut.l hK (.pointer (some ⟨ad.block, ad.off + off, none⟩)) ?_ ?_ ⟨fun id' hs => by simp [LV.says] at hs, by simpa [ptAd] using e2, ?_⟩
    · have e2' := addr_eta e2
      rw [e2'] at ex
      simp only [execOp, hop, ex, LV.conc, Sem.run_bind, hrun, add_none, Result.andThen_ok, Sem.run_pure]
    · simp [LV.conc, ptAd]
    · simpa [ptAd] using hr
  · exact h.elim

theorem Inv.pField (I : Inv w0 M0 R0 n dfs bs S R a w) {cx : Cx} (hT : TblOk cx.P cx.tbl) {o : Oper} {t : TypeId} {x : Operand} {f : Nat} (hop : o.op = .field t x f) {K : SV → Option HB → Prop} (h : evP cx o S.env S.hid R K) : POut cx S bs R a w o K := by
  unfold evP at h
  rw [hop] at h
  simp only at h
  obtain ⟨ti, fs, ft, off, tf, ht, hu0, hfs, htf, h1, h⟩ := fieldOfT_iff h
  have hg := I.opd_good x
  have hf := I.opd x
  split at h
  · rename_i cs hx
    obtain ⟨hl, hK⟩ := sized_iff h
    rw [hx] at hf hg
    obtain ⟨vs, f1, f2⟩ := hf
    have fp := (f1.drop off).take tf.size
    have hvl : ((vs.drop off).take tf.size).length = tf.size := by rw [fp.length]; exact hl
    refine POut.same _ ?_ (packed_fits fp hvl (hT ft tf htf).one) (packed_good (good_sub hg off tf.size)) hK
    simp only [execOp, hop, f2, Sem.run_bind, field_run hT ht hu0 hfs htf w hvl h1, Result.andThen_ok, Sem.run_pure]
  · exact h.elim
end
end Go.KE

/- The engine, part P2: maps of the call's own. -/
namespace Go.KE
open Go.RowKit (Below)

theorem ba_beq (a b : ByteArray) : (a == b) = decide (a = b) := by
  cases a with
  | mk x => cases b with
    | mk y =>
      show (x == y) = _
      rw [Bool.eq_iff_iff]
      simp
/-- A kind of keys and its type. -/
def KeyOk (P : Program) (t : TypeId) : Kd → Prop
  | .int _ => ∃ k, P.underlying t = some (.int k)
  | .str => P.underlying t = some .string
  | .bool => P.underlying t = some .bool
  | _ => False
theorem mapOfT_iff {cx : Cx} (hT : TblOk cx.P cx.tbl) {t : TypeId} {K : Kd → Kd → Prop} (h : mapOfT cx t K) :
    ∃ k e te kk kv, cx.P.underlying t = some (.map k e) ∧ KeyOk cx.P k kk ∧ TOk cx.P e te ∧ te.agg = false ∧ te.ks = [kv] ∧ K kk kv := by
  unfold mapOfT at h
  split at h
  · rename_i ti ht
    split at h
    · rename_i k e hu
      split at h
      · rename_i tk te hk he
        have hm := (hT t ti ht).und
        rw [hu] at hm
        have hkk := (hT k tk hk).und
        split at h
        · rename_i ik k' kv h1 h2 h3 h4
          rw [h1] at hkk
          exact ⟨k, e, te, .int k', kv, hm, ⟨ik, hkk⟩, hT e te he, h3, h4, h⟩
        · rename_i kv h1 h2 h3 h4
          rw [h1] at hkk
          exact ⟨k, e, te, .str, kv, hm, hkk, hT e te he, h3, h4, h⟩
        · rename_i kv h1 h2 h3 h4
          rw [h1] at hkk
          exact ⟨k, e, te, .bool, kv, hm, hkk, hT e te he, h3, h4, h⟩
        · exact h.elim
      · exact h.elim
    · exact h.elim
  · exact h.elim
theorem mapOfT_elim {cx : Cx} {t : TypeId} {K : Kd → Kd → Prop} (h : mapOfT cx t K) : ∃ kk kv, K kk kv ∧ ∀ K' : Kd → Kd → Prop, K' kk kv → mapOfT cx t K' := by
  unfold mapOfT at h
  split at h
  · rename_i ti e1
    split at h
    · rename_i k e e2
      split at h
      · rename_i tk te e3 e4
        split at h
        · rename_i e5 e6 e7 e8
          exact ⟨_, _, h, fun K' hk => by unfold mapOfT; rw [e1]; simp only; rw [e2]; simp only; rw [e3, e4]; simp only; rw [e5, e6, e7, e8]; exact hk⟩
        · rename_i e5 e6 e7 e8
          exact ⟨_, _, h, fun K' hk => by unfold mapOfT; rw [e1]; simp only; rw [e2]; simp only; rw [e3, e4]; simp only; rw [e5, e6, e7, e8]; exact hk⟩
        · rename_i e5 e6 e7 e8
          exact ⟨_, _, h, fun K' hk => by unfold mapOfT; rw [e1]; simp only; rw [e2]; simp only; rw [e3, e4]; simp only; rw [e5, e6, e7, e8]; exact hk⟩
        · exact h.elim
      · exact h.elim
    · exact h.elim
  · exact h.elim
theorem mapOfT_mono {cx : Cx} {t : TypeId} {K K' : Kd → Kd → Prop} (h : mapOfT cx t K) (hk : ∀ kk kv, K kk kv → K' kk kv) : mapOfT cx t K' := by
  unfold mapOfT at h ⊢
  split at h
  · split at h
    · split at h
      · split at h
        · exact hk _ _ h
        · exact hk _ _ h
        · exact hk _ _ h
        · exact h.elim
      · exact h.elim
    · exact h.elim
  · exact h.elim
def mIdx (kk kv : Kd) (k : kk.Den) : List (kk.Den × kv.Den) → Option Nat
  | [] => none
  | p :: ps => match kk.keq k p.1 with
    | true => some 0
    | false => (mIdx kk kv k ps).map (· + 1)
theorem mGet_idx {kk kv : Kd} {k : kk.Den} : ∀ (xs : List (kk.Den × kv.Den)), mGet kk kv k xs = (mIdx kk kv k xs).bind fun j => xs[j]?.map (·.2)
  | [] => rfl
  | p :: ps => by
    simp only [mGet, mIdx]
    cases kk.keq k p.1 with
    | true => rfl
    | false =>
      simp only [mGet_idx ps]
      cases mIdx kk kv k ps <;> rfl
theorem mIdx_lt {kk kv : Kd} {k : kk.Den} : ∀ {xs : List (kk.Den × kv.Den)} {j : Nat}, mIdx kk kv k xs = some j → ∃ p, xs[j]? = some p ∧ kk.keq k p.1 = true
  | [], j, h => by cases h
  | p :: ps, j, h => by
    simp only [mIdx] at h
    cases e : kk.keq k p.1 with
    | true => rw [e] at h; cases h; exact ⟨p, rfl, e⟩
    | false =>
      rw [e] at h
      simp only [Option.map_eq_some_iff] at h
      obtain ⟨i, hi, rfl⟩ := h
      obtain ⟨q, h1, h2⟩ := mIdx_lt hi
      exact ⟨q, by simpa using h1, h2⟩
theorem mSet_idx {kk kv : Kd} {k : kk.Den} {v : kv.Den} : ∀ (xs : List (kk.Den × kv.Den)), mSet kk kv k v xs = match mIdx kk kv k xs with | some j => xs.set j (k, v) | none => xs ++ [(k, v)]
  | [] => rfl
  | p :: ps => by
    simp only [mSet, mIdx]
    cases kk.keq k p.1 with
    | true => rfl
    | false =>
      simp only [mSet_idx ps]
      cases mIdx kk kv k ps <;> rfl
theorem sameNow_ok {P : Program} {t : TypeId} {kk : Kd} (h : KeyOk P t kk) : ∃ d, P.underlying t = some d ∧ (∀ a b, Instr.sameNow d (kk.enc a) (kk.enc b) = some (kk.keq a b)) ∧ ∀ b n v w, (Instr.checkKey b (n + 1) t (kk.enc v)).run P w = .ok () w := by
  cases kk with
  | int k =>
    obtain ⟨k', hk⟩ := h
    refine ⟨_, hk, fun a b => ?_, fun b n v w => ?_⟩
    · simp only [Kd.enc, Instr.sameNow, if_true, Kd.keq]
      rfl
    · simp only [Instr.checkKey, Sem.run_bind, run_und hk, Result.andThen_ok, Kd.enc, Sem.run_pure]
  | str =>
    refine ⟨_, h, fun a b => ?_, fun b n v w => ?_⟩
    · simp only [Kd.enc, Instr.sameNow, Kd.keq, ba_beq]
    · simp only [Instr.checkKey, Sem.run_bind, run_und h, Result.andThen_ok, Kd.enc, Sem.run_pure]
  | bool =>
    refine ⟨_, h, fun a b => rfl, fun b n v w => ?_⟩
    simp only [Instr.checkKey, Sem.run_bind, run_und h, Result.andThen_ok, Kd.enc, Sem.run_pure]
  | sl => exact h.elim
  | pt => exact h.elim
  | mp => exact h.elim
  | ifc => exact h.elim
  | fn => exact h.elim
theorem findNow_ok {d : TypeDesc} {kk kv : Kd} (hd : ∀ a b, Instr.sameNow d (kk.enc a) (kk.enc b) = some (kk.keq a b)) {k : kk.Den} : ∀ {es : List MapEntry} {xs : List (kk.Den × kv.Den)} (i : Nat), es.map (fun e => [e.key, e.val]) = xs.map (Tup.enc [kk, kv]) →
    Instr.findNow d (kk.enc k) es i = some ((mIdx kk kv k xs).bind fun j => xs[j]?.map fun p => (i + j, kv.enc p.2))
  | [], [], i, h => rfl
  | [], _ :: _, i, h => by cases h
  | _ :: _, [], i, h => by cases h
  | e :: es, p :: ps, i, h => by
    simp only [List.map_cons, List.cons.injEq] at h
    obtain ⟨h1, h2⟩ := h
    have hp : [e.key, e.val] = [kk.enc p.1, kv.enc p.2] := h1
    simp only [List.cons.injEq, and_true] at hp
    simp only [Instr.findNow, hp.1, hd, mIdx]
    cases kk.keq k p.1 with
    | true => simp [hp.2]
    | false =>
      simp only [findNow_ok hd (i + 1) h2]
      cases mIdx kk kv k ps with
      | none => rfl
      | some j =>
        simp only [Option.bind_some, Option.map_some, List.getElem?_cons_succ]
        rw [show i + 1 + j = i + (j + 1) by omega]
theorem mapIn_iff {hid : Nat → Option HB} {id : Nat} {kk kv : Kd} {K : List (kk.Den × kv.Den) → Prop} (h : mapIn hid id kk kv K) : ∃ xs : List (Tup [kk, kv]), hid id = some (.row (.mp [kk, kv]) xs) ∧ K xs := by
  unfold mapIn at h
  split at h
  · rename_i ks xs e
    split at h
    · rename_i hk
      subst hk
      exact ⟨xs, e, h⟩
    · exact h.elim
  · exact h.elim
theorem mapIn_intro {hid : Nat → Option HB} {id : Nat} {kk kv : Kd} {K : List (kk.Den × kv.Den) → Prop} {xs : List (Tup [kk, kv])} (h : hid id = some (.row (.mp [kk, kv]) xs)) (hk : K xs) : mapIn hid id kk kv K := by
  unfold mapIn
  rw [h]
  simp only [dif_pos]
  exact hk
theorem denT_iff {k : Kd} {x : SV} {K : k.Den → Prop} (h : denT k x K) : ∃ y d, x = .l y ∧ y.den k = some d ∧ K d := by
  unfold denT at h
  split at h
  · split at h
    · rename_i d e
      exact ⟨_, d, rfl, e, h⟩
    · exact h.elim
  · exact h.elim
theorem denT_intro {k : Kd} {x : SV} {K : k.Den → Prop} {y : LV} {d : k.Den} (h : x = .l y) (e : y.den k = some d) (hk : K d) : denT k x K := by
  unfold denT
  subst h
  simp only
  rw [e]
  exact hk
section
variable {w0 : World} {M0 : Mod} {R0 : Hp} {n : Nat} {dfs : List Deferred} {bs : Bs} {S : St} {R : Hp} {a : Act} {w : World}
theorem Inv.den (I : Inv w0 M0 R0 n dfs bs S R a w) {x : Operand} {k : Kd} {y : LV} {d : k.Den} (hx : KE.opd S.env x = .l y) (hd : y.den k = some d) : a.eval x = k.enc d := by
  have hne : y ≠ .no := fun e => by subst e; cases k <;> cases hd
  rw [I.l_val hx hne]
  exact LV.den_conc bs k y d hd
theorem Inv.map (I : Inv w0 M0 R0 n dfs bs S R a w) {id : Nat} {ks : List Kd} {xs : List (Tup ks)} (e : S.hid id = some (.row (.mp ks) xs)) : ∃ es clock, w.heap[(bs id).blk]? = some (.map es clock) ∧ es.toList.map (fun e => [e.key, e.val]) = xs.map (Tup.enc ks) := I.hb id _ e
theorem get_map {P : Program} {w : World} {r : Nat} {es : Array MapEntry} {clock : Nat} (h : w.heap[r]? = some (.map es clock)) : (getObj r).run P w = .ok (.map es clock) w := by simp [getObj, Sem.run, h]
theorem set_map {P : Program} {w : World} {r : Nat} {es : Array MapEntry} {clock : Nat} (o : Obj) (h : w.heap[r]? = some (.map es clock)) : (setObj r o).run P w = .ok () { w with heap := w.heap.setIfInBounds r o } := by simp [setObj, Sem.run, h]
theorem run_lookup {P : Program} {t k e : TypeId} {te : TI} {kk kv : Kd} (ht : P.underlying t = some (.map k e)) (hk : KeyOk P k kk) (T : TOk P e te) (ha : te.agg = false) (hks : te.ks = [kv]) {r : Nat} {es : Array MapEntry} {clock : Nat} {w : World} (hm : w.heap[r]? = some (.map es clock))
    {xs : List (kk.Den × kv.Den)} (hx : es.toList.map (fun e => [e.key, e.val]) = xs.map (Tup.enc [kk, kv])) (dk : kk.Den) (ok : Bool) :
    (Instr.lookup t (.map (some r)) (kk.enc dk) ok).run P w = .ok (if ok then .tuple #[kv.enc ((mGet kk kv dk xs).getD kv.zero), .bool (mGet kk kv dk xs).isSome] else kv.enc ((mGet kk kv dk xs).getD kv.zero)) w := by
  obtain ⟨d, hd, h1, h2⟩ := sameNow_ok hk
  have hf := findNow_ok h1 (k := dk) 0 hx
  simp only [Instr.lookup, Sem.run_bind, run_und ht, Result.andThen_ok, get_map hm, Sem.run_pure, h2, Instr.findKey, run_und hd, hf, mGet_idx]
  cases e1 : mIdx kk kv dk xs with
  | none =>
    simp only [Option.bind_none, Sem.run_bind, T.run_zero1 w ha hks, Result.andThen_ok, Sem.run_pure, Option.getD_none, Option.isSome_none]
  | some j =>
    obtain ⟨p, e2, _⟩ := mIdx_lt e1
    cases ok <;> simp [Option.bind_some, e2, Option.map_some, Sem.run_pure, Option.getD_some, Option.isSome_some, Result.andThen_ok]
theorem sameBits_ok {P : Program} {t : TypeId} {kk : Kd} (h : KeyOk P t kk) {a b : kk.Den} (e : kk.keq a b = true) (m : Nat) : Instr.sameBits m (kk.enc b) (kk.enc a) = true := by
  cases kk with
  | int k =>
    have : (a : Int) = b := by simpa [Kd.keq] using e
    subst this
    cases m <;> simp [Kd.enc, Instr.sameBits]
  | str =>
    have : (a : ByteArray) = b := by simpa [Kd.keq] using e
    subst this
    cases m <;> simp [Kd.enc, Instr.sameBits, ba_beq]
  | bool =>
    have : (a : Bool) = b := by simpa [Kd.keq] using e
    subst this
    cases m <;> simp [Kd.enc, Instr.sameBits]
  | sl => exact h.elim
  | pt => exact h.elim
  | mp => exact h.elim
  | ifc => exact h.elim
  | fn => exact h.elim
theorem run_update {P : Program} {t k e : TypeId} {kk kv : Kd} (ht : P.underlying t = some (.map k e)) (hk : KeyOk P k kk) {r : Nat} {es : Array MapEntry} {clock : Nat} {w : World} (hm : w.heap[r]? = some (.map es clock))
    {xs : List (kk.Den × kv.Den)} (hx : es.toList.map (fun e => [e.key, e.val]) = xs.map (Tup.enc [kk, kv])) (dk : kk.Den) (dv : kv.Den) :
    ∃ es' clock', (Instr.mapUpdate t (.map (some r)) (kk.enc dk) (kv.enc dv)).run P w = .ok () { w with heap := w.heap.setIfInBounds r (.map es' clock') } ∧ es'.toList.map (fun e => [e.key, e.val]) = (mSet kk kv dk dv xs).map (Tup.enc [kk, kv]) := by
  obtain ⟨d, hd, h1, h2⟩ := sameNow_ok hk
  have hf := findNow_ok h1 (k := dk) 0 hx
  cases e1 : mIdx kk kv dk xs with
  | none =>
    refine ⟨es.push { key := kk.enc dk, val := kv.enc dv, born := clock }, clock + 1, ?_, ?_⟩
    · simp only [Instr.mapUpdate, Sem.run_bind, run_und ht, Result.andThen_ok, get_map hm, Sem.run_pure, h2, Instr.findKey, run_und hd, hf, e1, Option.bind_none, set_map _ hm]
    · rw [mSet_idx, e1]
      simp only [Array.toList_push, List.map_append, hx]
      rfl
  | some j =>
    obtain ⟨p, e2, e3⟩ := mIdx_lt e1
    have hlen : es.toList.length = xs.length := by simpa using congrArg List.length hx
    have hj : j < xs.length := by
      rcases Nat.lt_or_ge j xs.length with h | h
      · exact h
      · rw [List.getElem?_eq_none h] at e2; cases e2
    have hje : j < es.size := by rw [← Array.length_toList, hlen]; exact hj
    have hkey : (es[j]).key = kk.enc p.1 := by
      have := congrArg (fun l => l[j]?) hx
      simp only [List.getElem?_map, e2, Option.map_some, Array.getElem?_toList, Array.getElem?_eq_getElem hje, Option.some.injEq] at this
      have h2 : [es[j].key, es[j].val] = [kk.enc p.1, kv.enc p.2] := this
      simp only [List.cons.injEq] at h2
      exact h2.1
    refine ⟨es.modify j fun e => { e with key := kk.enc dk, val := kv.enc dv }, clock, ?_, ?_⟩
    · simp only [Instr.mapUpdate, Sem.run_bind, run_und ht, Result.andThen_ok, get_map hm, Sem.run_pure, h2, Instr.findKey, run_und hd, hf, e1, Option.bind_some, e2, Option.map_some, Nat.zero_add,
        Array.getElem?_eq_getElem hje, Option.getD_some, hkey, Instr.keyThatStays, sameBits_ok hk e3, if_true, set_map _ hm]
    · rw [mSet_idx, e1]
      simp only [List.map_set]
      apply List.ext_getElem?
      intro i
      rw [List.getElem?_set]
      simp only [List.getElem?_map, Array.getElem?_toList, Array.getElem?_modify]
      by_cases hi : j = i
      · subst hi
        simp only [if_true, Array.getElem?_eq_getElem hje, Option.map_some, List.length_map, hj]
        rfl
      · rw [if_neg hi, if_neg hi]
        have := congrArg (fun l => l[i]?) hx
        simpa only [List.getElem?_map, Array.getElem?_toList] using this
theorem Inv.caps (I : Inv w0 M0 R0 n dfs bs S R a w) : ∀ {xs : List Operand} {cap : List (Nat × Nat)}, capsOf (xs.map (KE.opd S.env)) = some cap → xs.map a.eval = cap.map (fun x => Value.pointer (some ⟨(bs x.1).blk, x.2, none⟩)) ∧ ∀ p ∈ cap, Alive S p.1
  | [], cap, h => by
    simp only [List.map_nil, capsOf, Option.some.injEq] at h
    subst h
    exact ⟨rfl, fun p hp => by simp at hp⟩
  | x :: xs, cap, h => by
    simp only [List.map_cons] at h
    cases e : KE.opd S.env x with
    | l y =>
      rw [e] at h
      cases y <;> try (simp only [capsOf] at h; cases h; done)
      rename_i id off
      simp only [capsOf] at h
      split at h
      · rename_i cs hcs
        cases h
        obtain ⟨h1, h2⟩ := I.caps hcs
        refine ⟨?_, fun p hp => ?_⟩
        · simp only [List.map_cons, h1]
          rw [I.l_val e (by simp)]
          rfl
        · rcases List.mem_cons.1 hp with rfl | hp
          · have := I.opd_good x
            rw [e] at this
            exact this.l.live id (by simp [LV.says])
          · exact h2 p hp
      · cases h
    | g cs => rw [e] at h; cases h
    | t cs => rw [e] at h; cases h
theorem Inv.pMakeFunc (I : Inv w0 M0 R0 n dfs bs S R a w) {cx : Cx} {o : Oper} {fn : Fn} {xs ys : Array Operand} {K : SV → Option HB → Prop} (h : match fn, xs.toList, capsOf (ys.toList.map (KE.opd S.env)) with
    | .func f, [], some cap => K (.l (.clo f cap)) none
    | _, _, _ => False) (hop : o.op = .makeFunc fn xs ys) : POut cx S bs R a w o K := by
  split at h
  · rename_i f cap hx hc
    obtain ⟨h1, h2⟩ := I.caps hc
    refine POut.l h (.func (.func f) #[] (cap.map fun x => Value.pointer (some ⟨(bs x.1).blk, x.2, none⟩)).toArray) ?_ rfl ⟨fun id hs => ?_, trivial⟩
    · simp only [execOp, hop]
      refine run_v ?_
      have ex : xs = #[] := Array.toList_inj.1 hx
      have ey : ys.map a.eval = (cap.map fun x => Value.pointer (some ⟨(bs x.1).blk, x.2, none⟩)).toArray := by
        apply Array.toList_inj.1
        rw [Array.toList_map, h1]
      rw [ex, ey]
      simp only [Instr.makeFunc, Sem.run_pure, List.map_toArray, List.map_nil]
    · simp only [LV.says, List.any_eq_true] at hs
      obtain ⟨p, hp, e⟩ := hs
      rw [← Nat.eq_of_beq_eq_true e]
      exact h2 p hp
  · exact h.elim
theorem Inv.pMakeMap (I : Inv w0 M0 R0 n dfs bs S R a w) {cx : Cx} (hT : TblOk cx.P cx.tbl) {o : Oper} {t : TypeId} (hop : o.op = .makeMap t none) {K : SV → Option HB → Prop} (h : mapOfT cx t fun kk kv => newAt S.hid o.dst fun d => K (.l (.omap d)) (some (.row (.mp [kk, kv]) []))) : POut cx S bs R a w o K := by
  obtain ⟨k, e, te, kk, kv, _, _, _, _, _, h⟩ := mapOfT_iff hT h
  obtain ⟨m, hd, hfree, h⟩ := newAt_iff h
  refine ⟨_, _, .map (some w.heap.size), w.alloc (.map #[] 0), ?_, ?_, h⟩
  · simp only [execOp, hop, Option.map_none]
    exact run_v rfl
  · rw [hd]
    exact ⟨m, ⟨w.heap.size, ⟨none, 0, 0⟩⟩, rfl, hfree, Below.ofAlloc _ _, ⟨#[], 0, by simp only [updB, if_true]; exact alloc_new w _, rfl⟩, fun b hb => by simp [HB.blk, updB] at hb; omega, .inr (by simp [LV.conc, updB]),
      good_l ⟨fun id hs => .inl (by have := hs; simp only [LV.says] at this; exact (Nat.eq_of_beq_eq_true this).symm), trivial⟩, fun T cs h => by cases h⟩
theorem good_lv (A : Nat → Prop) (R : Hp) (k : Kd) (x : k.Den) : (k.lv x).good A R := by
  have := good_lvs A R [k] x
  exact this _ (by simp [Tup.lvs])
theorem Inv.pLookup (I : Inv w0 M0 R0 n dfs bs S R a w) {cx : Cx} (hT : TblOk cx.P cx.tbl) {o : Oper} {t : TypeId} {x i : Operand} {ok : Bool} {K : SV → Option HB → Prop} {id : Nat} (hx : KE.opd S.env x = .l (.omap id))
    (h : mapOfT cx t fun kk kv => denT kk (KE.opd S.env i) fun dk => mapIn S.hid id kk kv fun xs => match ok with
      | true => K (.t [(false, [kv.lv ((mGet kk kv dk xs).getD kv.zero)]), (false, [.bool (mGet kk kv dk xs).isSome])]) none
      | false => K (.l (kv.lv ((mGet kk kv dk xs).getD kv.zero))) none) (hop : o.op = .lookup t x i ok) : POut cx S bs R a w o K := by
  obtain ⟨k, e, te, kk, kv, ht, hk, T, ha, hks, h⟩ := mapOfT_iff hT h
  obtain ⟨y, dk, hi, hdk, h⟩ := denT_iff h
  obtain ⟨xs, hid, h⟩ := mapIn_iff h
  obtain ⟨es, clock, hm, hes⟩ := I.map hid
  have ex := I.l_val hx (by simp)
  have ei := I.den hi hdk
  have hr := run_lookup ht hk T ha hks hm hes dk ok
  have hrun : (execOp a.eval o).run cx.P w = .ok (.value (if ok then .tuple #[kv.enc ((mGet kk kv dk xs).getD kv.zero), .bool (mGet kk kv dk xs).isSome] else kv.enc ((mGet kk kv dk xs).getD kv.zero))) w := by
    simp only [execOp, hop, ex, ei, LV.conc]
    exact run_v hr
  cases ok with
  | true =>
    refine POut.same (.t [(false, [kv.lv ((mGet kk kv dk xs).getD kv.zero)]), (false, [.bool (mGet kk kv dk xs).isSome])]) hrun ?_ (fun c hc => ?_) h
    · exact ⟨[kv.enc ((mGet kk kv dk xs).getD kv.zero), .bool (mGet kk kv dk xs).isSome], ⟨.inr (Kd.lv_conc bs kv _).symm, .inr rfl, trivial⟩, rfl⟩
    · simp only [SV.leaves, List.flatMap_cons, List.flatMap_nil, List.append_nil, List.mem_append, List.mem_singleton] at hc
      rcases hc with rfl | rfl
      · exact good_lv _ _ _ _
      · exact good_of_not (fun _ => rfl) trivial
  | false => exact POut.l h _ hrun (Kd.lv_conc bs kv _).symm (good_lv _ _ _ _)
end
end Go.KE

/- The engine, part Q: all operations that turn nothing: the end. -/
namespace Go.KE
open Go.RowKit (Below)

theorem run_builtin {P : Program} {w : World} {ρ : Operand → Value} {o : Oper} {c : Call} {b : Builtin} (hop : o.op = .call c) (hb : c.callee = .builtin b) :
    ∃ cs, (execOp ρ o).run P w = (builtin b c.argTypes o.type cs (c.args.map ρ)).run P w := by
  refine ⟨c.args.map fun | .const _ => true | _ => false, ?_⟩
  simp only [execOp, hop, resolve, hb, Sem.run_bind, Sem.run_pure, Result.andThen_ok, invoke]
  rfl
/-- 'append' of nothing to nil. -/
theorem run_append_nil {P : Program} {w : World} {t u ty e : TypeId} {te : TI} (hte : TOk P e te) (ht : P.underlying t = some (.slice e)) (hu : (∃ e, P.underlying u = some (.slice e)) ∨ P.underlying u = some .string)
    {ys : List (Tup te.ks)} {y : Value} (hy : Src w te.size te.ks y ys) (h0 : ys = []) : (Builtin.append_ #[t, u] ty #[.slice none 0 0, y]).run P w = .ok (.slice none 0 0) w := by
  subst h0
  have hlen := (hy P w rfl).1
  have hcells := (hy P w rfl).2 0 (Nat.le_refl _)
  have hsz : ∀ w, (sizeOf e).run P w = .ok te.size w := fun w => hte.run_size w
  rcases hu with ⟨e', hu⟩ | hu <;>
  simp only [Builtin.append_, List.getElem?_toArray, List.getElem?_cons_zero, List.getElem?_cons_succ, Sem.run_bind, run_und ht, run_und hu, Result.andThen_ok, hsz, hlen, Sem.run_pure, Bool.false_eq_true, if_false, List.length_nil, Nat.add_zero, Nat.le_refl, if_true, Bool.not_false, hcells]
theorem args1 {α β : Type} {xs : Array α} {x : α} (h : xs.toList = [x]) (f : α → β) : xs.map f = #[f x] := by
  rw [show xs = #[x] from Array.toList_inj.1 h]; simp
theorem args2 {α β : Type} {xs : Array α} {x y : α} (h : xs.toList = [x, y]) (f : α → β) : xs.map f = #[f x, f y] := by
  rw [show xs = #[x, y] from Array.toList_inj.1 h]; simp
theorem src_nil_len {w : World} {size m : Nat} {ks : List Kd} {P : Program} (h : m = 0) : (Builtin.firstCells size m (.slice none 0 0)).run P w = .ok (flat ks []).toArray w := by
  subst h; rfl

section
variable {w0 : World} {M0 : Mod} {R0 : Hp} {n : Nat} {dfs : List Deferred} {bs : Bs} {S : St} {R : Hp} {a : Act} {w : World}
theorem evP_sound (I : Inv w0 M0 R0 n dfs bs S R a w) {cx : Cx} (hT : TblOk cx.P cx.tbl) {o : Oper} {K : SV → Option HB → Prop} (h : evP cx o S.env S.hid R K) : POut cx S bs R a w o K := by
  have h' := h
  unfold evP at h
  split at h
  · rename_i x hop
    exact POut.same _ (by simp only [execOp, hop, Sem.run_pure]) (I.opd x) (I.opd_good x) h
  · rename_i x hop
    exact POut.same _ (by simp only [execOp, hop, Sem.run_pure]) (I.opd x) (I.opd_good x) h
  · rename_i c x y hop
    split at h
    · rename_i hc
      have ec := I.l_val hc (by simp)
      exact POut.same _ (by simp only [execOp, hop, ec, LV.conc, asBool, Sem.run_bind, Sem.run_pure, Result.andThen_ok, if_true]) (I.opd x) (I.opd_good x) h
    · rename_i hc
      have ec := I.l_val hc (by simp)
      exact POut.same _ (by simp only [execOp, hop, ec, LV.conc, asBool, Sem.run_bind, Sem.run_pure, Result.andThen_ok, Bool.false_eq_true, if_false]) (I.opd y) (I.opd_good y) h
    · exact h.elim
  · rename_i t hop
    obtain ⟨ti, ht, h⟩ := typeT_iff h
    obtain ⟨m, hd, hfree, h⟩ := newAt_iff h
    obtain ⟨z, hz, hzc⟩ := (hT t ti ht).run_zero w
    refine ⟨_, _, .pointer (some ⟨w.heap.size, 0, none⟩), w.alloc (.cells z.cells t), ?_, ?_, h⟩
    · simp only [execOp, hop]
      refine run_v ?_
      simp only [Instr.alloc, Sem.run_bind, hz, Result.andThen_ok, newVar, newRow, run_newObj_alloc, Sem.run_pure]
    · rw [hd]
      exact out_cells hfree (Below.ofAlloc _ _) (by rw [alloc_new, hzc]) (zlvs_fits bs ti.ks) (fun c hc => by
        obtain ⟨k, _, rfl⟩ := List.mem_map.1 hc
        exact zlv_good _ _ k)
  · rename_i t x hop
    obtain ⟨ti, ht, h⟩ := typeT_iff h
    obtain ⟨m, hd, hfree, h⟩ := newAt_iff h
    split at h
    · rename_i cs hcs
      obtain ⟨hl, h⟩ := sized_iff h
      obtain ⟨vs, f1, f2, f3⟩ := I.part hcs
      refine ⟨_, _, .pointer (some ⟨w.heap.size, 0, none⟩), w.alloc (.cells vs.toArray t), ?_, ?_, h⟩
      · simp only [execOp, hop]
        refine run_v ?_
        simp only [Instr.box, Sem.run_bind, Result.andThen_ok, newVar, newRow, run_newObj_alloc, Sem.run_pure, f2]
      · rw [hd]
        exact out_cells hfree (Below.ofAlloc _ _) (by rw [alloc_new]) f1 f3
    · exact h.elim
  · rename_i t parts hop
    obtain ⟨ti, ht, h⟩ := typeT_iff h
    split at h
    · rename_i fs hu
      split at h
      · rename_i ps hp
        split at h
        · rename_i cs hcs
          obtain ⟨vs, r1, r2, r3⟩ := I.build hT ht hu hp hcs
          exact POut.same (.g cs) (by simp only [execOp, hop]; exact run_v r1) ⟨vs, r2, rfl⟩ (fun c hc => r3 c hc) h
        · exact h.elim
      · exact h.elim
    · exact h.elim
  · rename_i t len parts hop
    exact I.pBuildSlice hT hop h'
  · rename_i t x hop
    obtain ⟨ti, ht, h⟩ := typeT_iff h
    obtain ⟨cs, u, r1, r2, r3, r4⟩ := I.load (hT t ti ht) (I.opd x) (I.opd_good x) h
    exact POut.same _ (by simp only [execOp, hop]; exact run_v r1) r3 r4 r2
  · rename_i x hop
    have hg := I.opd_good x
    split at h
    · rename_i hx
      have ex := I.l_val hx (by simp)
      rw [hx] at hg
      exact POut.l h _ (by simp only [execOp, hop, ex, LV.conc, Sem.run_pure]) rfl hg.l
    · rename_i hx
      have ex := I.l_val hx (by simp)
      rw [hx] at hg
      exact POut.l h _ (by simp only [execOp, hop, ex, LV.conc, Sem.run_pure]) rfl hg.l
    · rename_i hx
      have ex := I.l_val hx (by simp)
      rw [hx] at hg
      exact POut.l h _ (by simp only [execOp, hop, ex, LV.conc, Sem.run_pure]) rfl hg.l
    · rename_i p hx
      have ex := I.l_val hx (by simp)
      rw [hx] at hg
      obtain ⟨hp, h⟩ := h
      obtain ⟨ad, rfl⟩ := Option.isSome_iff_exists.1 hp
      exact POut.l h _ (by simp only [execOp, hop, ex, LV.conc, Sem.run_pure]) rfl hg.l
    · exact h.elim
  · rename_i op t x y _ hop
    split at h
    · rename_i hok
      obtain ⟨sv, v, r1, r2, r3, r4⟩ := evBin_sound hT x y (I.opd x) (I.opd y) (fun e => okNil_iff hok e) h
      exact POut.same (.l sv) (by simp only [execOp, hop]; exact run_v r1) (r3 bs) (good_l (r4 _ _)) r2
    · exact h.elim
  · rename_i op t x hop
    obtain ⟨sv, v, r1, r2, r3, r4⟩ := evUn_sound (I.opd x) h
    exact POut.same (.l sv) (by simp only [execOp, hop]; exact run_v r1) (r3 bs) (good_l (r4 _ _)) r2
  · rename_i s d x hop
    obtain ⟨sv, v, r1, r2, r3, r4⟩ := I.conv hT (I.opd x) h
    exact POut.same (.l sv) (by simp only [execOp, hop]; exact run_v r1) (r3 bs) (good_l (r4 _ _)) r2
  · rename_i t x hop
    split at h
    · rename_i v hv
      have ex := pureS_fits hv (I.opd x)
      exact POut.l h.2 (.iface t v) (by simp only [execOp, hop, ex]; exact run_v (run_makeInterface w t v h.1)) rfl (good_of_not (fun _ => rfl) trivial)
    · exact h.elim
  · rename_i fn xs ys hop
    exact I.pMakeFunc h hop
  · rename_i t r hop
    split at h
    · exact I.pMakeMap hT hop h
    · exact h.elim
  · rename_i t x i ok hop
    split at h
    · rename_i id hx
      exact I.pLookup hT hx h hop
    · exact h.elim
  · rename_i t l c hop
    exact I.pMake hT hop h'
  · rename_i t x lo hi mx hop
    split at h
    · obtain ⟨sv, v, r1, r2, r3, r4⟩ := I.slice hT (I.opd x) (optFits_map (fun x => I.opd x) lo) (optFits_map (fun x => I.opd x) hi) h
      exact POut.same (.l sv) (by simp only [execOp, hop, Option.map_none]; exact run_v r1) r3 (good_l r4) r2
    · exact h.elim
  · rename_i t x f hop
    exact I.pFieldAddr hT hop h'
  · rename_i t x f hop
    exact I.pField hT hop h'
  · rename_i t x i hop
    exact I.pIndexAddr hT hop h'
  · rename_i t x i hop
    split at h
    · rename_i s k m hx hi
      have ex := I.l_val hx (by simp)
      have ei := I.l_val hi (by simp)
      split at h
      · rename_i hs
        have hu := isStr_und hT hs
        obtain ⟨c, ⟨h0, hc⟩, hK⟩ := h
        refine POut.l hK (.int .u8 c.toNat) ?_ rfl (good_of_not (fun _ => rfl) trivial)
        simp only [execOp, hop, ex, ei, LV.conc]
        refine run_v ?_
        have hlt : m.toNat < s.size := by
          rcases Nat.lt_or_ge m.toNat s.data.size with h | h
          · exact h
          · rw [Array.getElem?_eq_none h] at hc; cases hc
        rw [run_index_string w t s k m hu, dif_pos ⟨h0, by omega⟩]
        have : s[m.toNat]'hlt = c := by
          have := (Array.getElem?_eq_some_iff.1 hc).2
          exact this
        rw [this]
      · exact h.elim
    · exact h.elim
  · rename_i x i hop
    have hf := I.opd x
    have hg := I.opd_good x
    split at h
    · rename_i cs hx
      rw [hx] at hf hg
      obtain ⟨vs, f1, f2⟩ := hf
      split at h
      · rename_i c hc
        obtain ⟨v, hv, fv⟩ := f1.get i c hc
        refine POut.same _ (v := v) ?_ (svG_fits fv) (svG_good fun x hx => hg x ?_) h
        · simp only [execOp, hop, f2]
          refine run_v ?_
          simp only [Instr.extract, List.getElem?_toArray, hv, Sem.run_pure]
        · simp only [SV.leaves, List.mem_flatMap]
          exact ⟨c, List.mem_of_getElem? hc, hx⟩
      · exact h.elim
    · exact h.elim
  · rename_i c hop
    split at h
    · rename_i b hb
      split at h
      · rename_i x t ha ht
        obtain ⟨m, r1, r2⟩ := I.len (ty := o.type) hT (I.opd x) h
        refine POut.l r2 (.int .i64 m) ?_ rfl (good_of_not (fun _ => rfl) trivial)
        obtain ⟨cs, hr⟩ := run_builtin (P := cx.P) (w := w) (ρ := a.eval) hop hb
        rw [hr, args1 ha, show c.argTypes = #[t] from Array.toList_inj.1 ht]
        exact run_v r1
      · rename_i x y t u ha ht
        split at h
        · rename_i hx
          have ex := I.l_val hx (by simp)
          obtain ⟨ti, e, te, ht', hu0, hte, h⟩ := elemOfT_iff h
          have hu := (hT t ti ht').slice hu0
          have T := hT e te hte
          obtain ⟨m, hd, hfree, h⟩ := newAt_iff h
          split at h
          · exact h.elim
          · rename_i hb1
            rw [Bool.and_eq_true] at hb1
            have hbb := Nat.le_of_ble_eq_true hb1.2
            obtain ⟨ys, ⟨hlen, hK⟩, hsrc⟩ := I.srcOf T.ksl (I.opd y) h
            by_cases h0 : ys.length = 0
            · have h0 := List.length_eq_zero_iff.1 h0
              subst h0
              refine ⟨_, _, .slice none 0 0, w, ?_, ?_, hK⟩
              · obtain ⟨cs, hr⟩ := run_builtin (P := cx.P) (w := w) (ρ := a.eval) hop hb
                rw [hr, args2 ha, show c.argTypes = #[t, u] from Array.toList_inj.1 ht, ex]
                exact run_v (run_append_nil T hu (isSrc_und hT hb1.1) hsrc rfl)
              · rw [hd]
                exact ⟨m, ⟨0, ⟨none, 0, 0⟩⟩, rfl, hfree, Below.refl _ w, .inl ⟨by simp [updB], rfl⟩, fun b hb => by simp [HB.blk, updB] at hb, .inr (by simp [LV.conc, updB, Sl.val]),
                  good_l ⟨fun id hs => .inl (by have := hs; simp only [LV.says] at this; exact (Nat.eq_of_beq_eq_true this).symm), trivial⟩, fun T cs h => by cases h⟩
            · obtain ⟨w', c', rest, r1, r2, r3, r4, r5⟩ := run_append_new (w := w) (ty := o.type) (A := none) (cap := 0) (xs := []) T hu (isSrc_und hT hb1.1) hsrc (fun w' _ => src_nil_len rfl) hbb (by simpa using hlen) (by simpa using Nat.pos_of_ne_zero h0)
              refine ⟨_, _, .slice (some ⟨w.heap.size, 0, none⟩) ys.length c', w', ?_, ?_, hK⟩
              · obtain ⟨cs, hr⟩ := run_builtin (P := cx.P) (w := w) (ρ := a.eval) hop hb
                rw [hr, args2 ha, show c.argTypes = #[t, u] from Array.toList_inj.1 ht, ex]
                simp only [List.length_nil, Nat.zero_add] at r1
                exact run_v r1
              · rw [hd]
                simp only [List.nil_append, List.length_nil, Nat.zero_add] at r3 r4 r5
                exact out_row hfree r2 r3 r4 r5
        · exact h.elim
      · exact h.elim
    · exact h.elim
  · exact h.elim
end
end Go.KE

/- The engine, part R: what is written. -/
namespace Go.KE
open Go.RowKit (Below)

structure Turn (w w' : World) (ob : Option Nat) : Prop where
  keep : ∀ k, k < w.heap.size → ob ≠ some k → w'.heap[k]? = w.heap[k]?
  os : w'.os = w.os
  tape : w'.tape = w.tape
  output : w'.output = w.output
  size : w.heap.size ≤ w'.heap.size
theorem Turn.setRow (w : World) (g : Nat) (cs : Array Value) : Turn w (w.setRow g cs) (some g) :=
  ⟨fun k _ h => setRow_other w g k cs (fun e => h (by rw [e])), rfl, rfl, rfl, by simp⟩
theorem Turn.below {w w' : World} (h : Below w.heap.size w w') (ob : Option Nat) : Turn w w' ob := ⟨fun k hk _ => h.block k hk, h.os, h.tape, h.output, h.size⟩
theorem enc_one : ∀ (ks : List Kd) (x : Tup ks), ∀ v ∈ Tup.enc ks x, v.oneCell' = true := by
  have h1 : ∀ (k : Kd) (x : k.Den), (k.enc x).oneCell' = true := by
    intro k x
    cases k <;> first | rfl | (cases x <;> rfl)
  intro ks
  induction ks with
  | nil => intro x v hv; simp [Tup.enc] at hv
  | cons k ks ih =>
    intro x v hv
    cases ks with
    | nil => simp only [Tup.enc, List.mem_singleton] at hv; subst hv; exact h1 k x
    | cons k' ks =>
      simp only [Tup.enc, List.mem_cons] at hv
      rcases hv with rfl | hv
      · exact h1 k x.1
      · exact ih x.2 v (by simpa [Tup.enc] using hv)
theorem flat_one (ks : List Kd) (xs : List (Tup ks)) : ∀ v ∈ flat ks xs, v.oneCell' = true := by
  intro v hv
  simp only [flat, List.mem_flatMap] at hv
  obtain ⟨x, _, hx⟩ := hv
  exact enc_one ks x v hx
theorem conc_one {bs : Bs} {x : LV} (h : x ≠ .no) (h' : x ≠ .und) : (x.conc bs).oneCell' = true := by
  cases x <;> first | exact absurd rfl h | exact absurd rfl h' | rfl | (rename_i y; cases y <;> rfl)
theorem okCells_iff : ∀ {cs : List LV} {p : Prop}, okCells cs p → (∀ c ∈ cs, c ≠ .no ∧ c ≠ .und) ∧ p := by
  have key : ∀ (cs : List LV) (p : Prop), okCells cs p → (∀ c ∈ cs, c ≠ .no ∧ c ≠ .und) ∧ p := by
    intro cs
    induction cs with
    | nil => intro p h; exact ⟨by simp, h⟩
    | cons c cs ih =>
      intro p h
      cases c <;> simp only [okCells] at h <;> first
        | exact h.elim
        | (obtain ⟨h1, h2⟩ := ih p h
           refine ⟨fun c hc => ?_, h2⟩
           rcases List.mem_cons.1 hc with rfl | hc
           · exact ⟨by simp, by simp⟩
           · exact h1 c hc)
  intro cs p h
  exact key cs p h
theorem fits_one {bs : Bs} : ∀ {cs : List LV} {vs : List Value}, (∀ c ∈ cs, c ≠ .no ∧ c ≠ .und) → FitsL bs cs vs → ∀ v ∈ vs, v.oneCell' = true
  | [], [], _, _, v, hv => by simp at hv
  | c :: cs, u :: us, h, hf, v, hv => by
    have hc := h c (by simp)
    rcases List.mem_cons.1 hv with rfl | hv
    · rw [LV.fits_val hf.1 hc.1]; exact conc_one hc.1 hc.2
    · exact fits_one (fun c hc => h c (by simp [hc])) hf.2 v hv
  | [], _ :: _, _, h, _, _ => h.elim
  | _ :: _, [], _, h, _, _ => h.elim

def Quiet (S : St) (id : Nat) : Prop := (∀ t, (S.env t).says id = false) ∧ ∀ j T cs, S.hid j = some (.cells T cs) → cs.any (LV.says id) = false
section
variable {w0 : World} {M0 : Mod} {R0 : Hp} {n : Nat} {dfs : List Deferred} {bs : Bs} {S : St} {R : Hp} {a : Act} {w : World}
theorem purge_fits {bs : Bs} {id : Nat} : ∀ {cs : List LV} {vs : List Value}, FitsL bs cs vs → FitsL bs (cs.map (LV.purge id)) vs
  | [], [], h => h
  | c :: cs, v :: vs, h => ⟨by unfold LV.purge; split; exact .inl rfl; exact h.1, purge_fits h.2⟩
  | [], _ :: _, h => h.elim
  | _ :: _, [], h => h.elim
theorem purge_alive (S : St) (id j : Nat) : Alive (S.purge id) j ↔ Alive S j := by
  unfold Alive St.purge
  simp only
  cases h : S.hid j with
  | none => simp
  | some x => cases x <;> simp
theorem purge_good {A : Nat → Prop} {R : Hp} {id : Nat} {x : LV} (h : x.good A R) : (x.purge id).good A R := by
  unfold LV.purge
  split
  · exact good_of_not (fun _ => rfl) trivial
  · exact h
theorem purge_hid {S : St} {id j : Nat} {h : HB} (e : (S.purge id).hid j = some h) : ∃ h', S.hid j = some h' ∧ (∀ bs, h.blk bs j = h'.blk bs j) ∧ (h = h' ∨ ∃ T cs, h' = .cells T cs ∧ h = .cells T (cs.map (LV.purge id))) := by
  simp only [St.purge] at e
  cases h0 : S.hid j with
  | none => rw [h0] at e; cases e
  | some x =>
    rw [h0] at e
    cases x with
    | cells T cs =>
      obtain rfl := Option.some.inj e
      exact ⟨_, rfl, fun _ => rfl, .inr ⟨T, cs, rfl, rfl⟩⟩
    | row rt xs =>
      obtain rfl := Option.some.inj e
      exact ⟨_, rfl, fun _ => rfl, .inl rfl⟩
theorem Inv.purge (I : Inv w0 M0 R0 n dfs bs S R a w) (id : Nat) : Inv w0 M0 R0 n dfs bs (S.purge id) R a w ∧ Quiet (S.purge id) id := by
  refine ⟨{ I with
    env := fun t => ?_
    hb := fun j h hj => ?_
    sep := fun j h b hj hb => ?_
    dis := fun i j h h' b hij hi hj hbi hbj => ?_
    good := fun t => ?_
    goodc := fun j T cs hj c hc => ?_ }, fun t => ?_, fun j T cs hj => ?_⟩
  · simp only [St.purge]
    split
    · exact .inl rfl
    · exact I.env t
  · obtain ⟨h', e1, e2, e3⟩ := purge_hid hj
    rcases e3 with rfl | ⟨T, cs, rfl, rfl⟩
    · exact I.hb j _ e1
    · obtain ⟨vs, f1, f2⟩ := I.hb j _ e1
      exact ⟨vs, purge_fits f1, f2⟩
  · obtain ⟨h', e1, e2, _⟩ := purge_hid hj
    exact I.sep j h' b e1 (by rw [← e2]; exact hb)
  · obtain ⟨h1, e1, e2, _⟩ := purge_hid hi
    obtain ⟨h2, e1', e2', _⟩ := purge_hid hj
    exact I.dis i j h1 h2 b hij e1 e1' (by rw [← e2]; exact hbi) (by rw [← e2']; exact hbj)
  · have hA : (fun j => Alive (S.purge id) j) = fun j => Alive S j := funext fun j => propext (purge_alive S id j)
    show (match (S.env t).says id with | true => SV.l .no | false => S.env t).good (fun j => Alive (S.purge id) j) R
    rw [hA]
    split
    · exact good_l (good_of_not (fun _ => rfl) trivial)
    · exact I.good t
  · have hA : (fun j => Alive (S.purge id) j) = fun j => Alive S j := funext fun j => propext (purge_alive S id j)
    show c.good (fun j => Alive (S.purge id) j) R
    rw [hA]
    obtain ⟨h', e1, _, e3⟩ := purge_hid hj
    rcases e3 with rfl | ⟨T', cs', rfl, e⟩
    · exact I.goodc j T cs e1 c hc
    · cases e
      obtain ⟨c', hc', rfl⟩ := List.mem_map.1 hc
      exact purge_good (I.goodc j T cs' e1 c' hc')
  · simp only [St.purge]
    split
    · rfl
    · assumption
  · have hp : ∀ x : LV, (x.purge id).says id = false := fun x => by
      unfold LV.purge
      split
      · rfl
      · assumption
    simp only [St.purge] at hj
    split at hj
    · rename_i T' cs' e
      obtain ⟨rfl, rfl⟩ : T' = T ∧ cs'.map (LV.purge id) = cs := by simpa using hj
      rw [List.any_eq_false]
      intro c hc
      obtain ⟨c', _, rfl⟩ := List.mem_map.1 hc
      simp [hp]
    · rename_i x hx
      exact absurd hj (hx T cs)
theorem Inv.turn (I : Inv w0 M0 R0 n dfs bs S R a w) {id : Nat} {h h' : HB} (e : S.hid id = some h) {w' : World} (T : Turn w w' (h.blk bs id)) {bs' : Bs} (hup : ∀ j, j ≠ id → bs' j = bs j) (hbk : (bs' id).blk = (bs id).blk) (hq : bs' = bs ∨ Quiet S id)
    (ok : HBok w' bs' id h') (hblk : ∀ b, h'.blk bs' id = some b → h.blk bs id = some b ∨ w.heap.size ≤ b) (inner : ∀ T cs, h' = .cells T cs → ∀ c ∈ cs, c.good (Alive S) R) :
    Inv w0 M0 R0 n dfs bs' (S.setHid id (some h')) R a w' := by
  have alive' : ∀ j, Alive S j → Alive (S.setHid id (some h')) j := fun j hj => by
    unfold Alive
    rw [St.setHid_hid]
    split
    · simp
    · exact hj
  have hblk' : ∀ j hj, j ≠ id → ∀ b, HB.blk bs' j hj = some b → HB.blk bs j hj = some b := fun j hj hne b hb => by rw [← HB.blk_congr hj (hup j hne)]; exact hb
  refine { I with
    env := fun t => ?_
    hb := fun j hj ej => ?_
    sep := fun j hj b ej hb => ?_
    dis := fun i j hi hj b hij ei ej hbi hbj => ?_
    good := fun t => (I.good t).mono alive' (Hp.le.refl R)
    goodc := fun j T' cs ej c hc => ?_
    sees := fun b o hb => ?_
    wf := ?_
    fix := fun j b hj => ?_ }
  · rcases hq with rfl | hq
    · exact I.env t
    · exact SV.fits_congr hup (hq.1 t) (I.env t)
  · rw [St.setHid_hid] at ej
    split at ej
    · rename_i hji
      subst hji
      obtain rfl := Option.some.inj ej
      exact ok
    · rename_i hji
      have hk := (I.hb j hj ej).keep (w' := w') fun b hb => T.keep b ((I.hb j hj ej).lt hb) fun hb' => I.dis j id hj h b hji ej e hb hb'
      rcases hq with rfl | hq
      · exact hk
      · exact hk.congr hup hji fun T' cs hc => by subst hc; exact hq.2 j T' cs ej
  · rw [St.setHid_hid] at ej
    split at ej
    · rename_i hji
      subst hji
      obtain rfl := Option.some.inj ej
      rcases hblk b hb with hb | hb
      · exact I.sep j h b e hb
      · refine ⟨?_, .inl (Nat.le_trans I.wf.size hb)⟩
        cases hr : R b with
        | none => rfl
        | some ob =>
          have := I.sees b ob hr
          rw [Array.getElem?_eq_none hb] at this
          cases this
    · rename_i hji
      exact I.sep j hj b ej (hblk' j hj hji b hb)
  · rw [St.setHid_hid] at ei ej
    have key : ∀ (j : Nat) (hj : HB), j ≠ id → S.hid j = some hj → ∀ b, HB.blk bs' j hj = some b → h'.blk bs' id = some b → False := by
      intro j hj hne ej b hb1 hb2
      have hb1 := hblk' j hj hne b hb1
      rcases hblk b hb2 with hb | hb
      · exact I.dis j id hj h b hne ej e hb1 hb
      · have := (I.hb j hj ej).lt hb1
        omega
    split at ei <;> split at ej
    · rename_i e1 e2; exact hij (e1.trans e2.symm)
    · rename_i e1 e2
      subst e1
      obtain rfl := Option.some.inj ei
      exact key j hj e2 ej b hbj hbi
    · rename_i e1 e2
      subst e2
      obtain rfl := Option.some.inj ej
      exact key i hi e1 ei b hbi hbj
    · rename_i e1 e2
      exact I.dis i j hi hj b hij ei ej (hblk' i hi e1 b hbi) (hblk' j hj e2 b hbj)
  · rw [St.setHid_hid] at ej
    split at ej
    · exact (inner T' cs (Option.some.inj ej) c hc).mono alive' (Hp.le.refl R)
    · exact (I.goodc j T' cs ej c hc).mono alive' (Hp.le.refl R)
  · have h1 := I.sees b o hb
    have hlt : b < w.heap.size := by
      rcases Nat.lt_or_ge b w.heap.size with h | h
      · exact h
      · rw [Array.getElem?_eq_none h] at h1; cases h1
    rw [T.keep b hlt fun hb' => ?_]
    · exact h1
    · rw [(I.sep id h b e hb').1] at hb
      cases hb
  · refine ⟨fun b h1 h2 => ?_, T.os.trans I.wf.os, T.tape.trans I.wf.tape, T.output.trans I.wf.output, Nat.le_trans I.wf.size T.size⟩
    rw [T.keep b (Nat.lt_of_lt_of_le h1 I.wf.size) fun hb' => ?_]
    · exact I.wf.frame b h1 h2
    · rcases (I.sep id h b e hb').2 with h3 | h3
      · omega
      · exact h2 h3
  · obtain ⟨h1, h3⟩ := I.fix j b hj
    refine ⟨h1, ?_⟩
    by_cases hji : j = id
    · subst hji; rw [hbk]; exact h3
    · rw [hup j hji]; exact h3
end
end Go.KE

/- The engine, part U: stores, copies, appends, cuts. -/
namespace Go.KE
open Go.RowKit (Below)

theorem spliceV_in (A E B us : List Value) (off : Nat) (h : off + us.length ≤ E.length) : spliceV (A ++ E ++ B) (A.length + off) us = A ++ spliceV E off us ++ B := by
  simp only [spliceV]
  rw [List.append_assoc A E B, List.take_length_add_append, show A.length + off + us.length = A.length + (off + us.length) by omega, List.drop_length_add_append,
    List.take_append_of_le_length (by omega), List.drop_append_of_le_length h]
  simp
theorem flat_split (ks : List Kd) (xs : List (Tup ks)) (ix : Nat) (z : Tup ks) (h : xs[ix]? = some z) : flat ks xs = flat ks (xs.take ix) ++ Tup.enc ks z ++ flat ks (xs.drop (ix + 1)) := by
  have hlt : ix < xs.length := by
    rcases Nat.lt_or_ge ix xs.length with h' | h'
    · exact h'
    · rw [List.getElem?_eq_none h'] at h; cases h
  have hz : xs[ix] = z := by rw [List.getElem?_eq_getElem hlt] at h; exact Option.some.inj h
  conv => lhs; rw [← List.take_append_drop ix xs, List.drop_eq_getElem_cons hlt, hz]
  simp [flat]
theorem flat_set_in (ks : List Kd) (xs : List (Tup ks)) (ix : Nat) (z z' : Tup ks) (rest us : List Value) (off : Nat) (h : xs[ix]? = some z) (ho : off + us.length ≤ ks.length) (hz : spliceV (Tup.enc ks z) off us = Tup.enc ks z') :
    spliceV (flat ks xs ++ rest) (ix * ks.length + off) us = flat ks (xs.set ix z') ++ rest := by
  have hlt : ix < xs.length := by
    rcases Nat.lt_or_ge ix xs.length with h' | h'
    · exact h'
    · rw [List.getElem?_eq_none h'] at h; cases h
  have hl : (flat ks (xs.take ix)).length = ix * ks.length := by rw [flat_length, List.length_take, Nat.min_eq_left (Nat.le_of_lt hlt)]
  rw [flat_split ks xs ix z h, List.append_assoc _ _ rest, ← hl, spliceV_in _ _ _ _ _ (by rw [Tup.enc_length]; exact ho), hz]
  rw [flat_split ks (xs.set ix z') ix z' (by simp [hlt])]
  simp [List.take_set_of_le, List.drop_set_of_lt]

section
variable {w0 : World} {M0 : Mod} {R0 : Hp} {n : Nat} {dfs : List Deferred} {bs : Bs} {S : St} {R : Hp} {a : Act} {w : World}
theorem splice_good {A : Nat → Prop} {R : Hp} {cs ys : List LV} (off : Nat) (h : ∀ c ∈ cs, c.good A R) (h' : ∀ c ∈ ys, c.good A R) : ∀ c ∈ splice cs off ys, c.good A R := by
  intro c hc
  simp only [splice, List.mem_append] at hc
  rcases hc with (hc | hc) | hc
  · exact h c (List.mem_of_mem_take hc)
  · exact h' c hc
  · exact h c (List.mem_of_mem_drop hc)
theorem run_storeAt_us {P : Program} {w : World} {t : TypeId} {ti : TI} (T : TOk P t ti) {g o : Nat} {ty : TypeId} {cur us : List Value} {v : Value} (hg : w.heap[g]? = some (.cells cur.toArray ty (0, 0))) (hv : v.cells = us.toArray) (hl : us.length = ti.size)
    (hin : o + us.length ≤ cur.length) (h1 : ∀ u ∈ us, u.oneCell' = true) : (Instr.storeAt t (.pointer (some ⟨g, o, none⟩)) v).run P w = .ok () (w.setRow g (spliceV cur o us).toArray) := by
  have hst := run_storeCells_at P g o ty us 0 cur.toArray w hg (by simpa using hin) h1
  simp only [Nat.add_zero] at hst
  simp only [Instr.storeAt, Instr.sureAddr, Sem.run_bind, Sem.run_pure, Result.andThen_ok, storeVar, T.run_size, hv, List.size_toArray]
  rw [if_neg (by simpa using hl)]
  rw [hst]
  rfl
theorem Inv.store (I : Inv w0 M0 R0 n dfs bs S R a w) {P : Program} {t : TypeId} {ti : TI} (T : TOk P t ti) {x y : SV} {p v : Value} (hx : x.fits bs p) (hy : y.fits bs v) (hg : y.good (Alive S) R) {K : St → Prop} (h : writeAt S x ti y K) :
    ∃ w' S', (Instr.storeAt t p v).run P w = .ok () w' ∧ Inv w0 M0 R0 n dfs bs S' R a w' ∧ K S' := by
  unfold writeAt at h
  split at h
  · exact h.elim
  · rename_i ys hys
    obtain ⟨hyl, h2⟩ := sized_iff h
    clear h
    obtain ⟨hno, h⟩ := okCells_iff h2
    clear h2
    obtain ⟨us, f1, f2⟩ := cells_fits hys hy
    have hul : us.length = ti.size := by rw [f1.length]; exact hyl
    have hone := fits_one hno f1
    split at h
    · rename_i id off
      have hp := LV.fits_val hx (by simp)
      subst hp
      split at h
      · split at h
        · rename_i T' cs e
          split at h
          · rename_i hle
            have hle := Nat.le_of_ble_eq_true hle
            obtain ⟨vs, g1, g2⟩ := I.hb id _ e
            have hin : off + us.length ≤ vs.length := by rw [f1.length, g1.length]; exact hle
            refine ⟨_, _, run_storeAt_us T g2 f2 hul hin hone, ?_, h⟩
            exact I.turn e (Turn.setRow w _ _) (fun _ _ => rfl) rfl (.inl rfl) ⟨_, g1.splice f1 off, setRow_heap w _ _ _ _ _ g2⟩ (fun b hb => .inl hb) fun T2 cs2 e2 => by
              cases e2
              exact splice_good off (I.goodc id _ _ e) (cells_good hys hg)
          · exact h.elim
        · exact h.elim
      · exact h.elim
    · rename_i id ix off esz
      have hp := LV.fits_val hx (by simp)
      subst hp
      split at h
      · split at h
        · rename_i T' ks xs e
          split at h
          · rename_i he
            have he := Nat.eq_of_beq_eq_true he
            subst he
            split at h
            · rename_i hle
              have hle := Nat.le_of_ble_eq_true hle
              obtain ⟨z, hz, h⟩ := h
              split at h
              · rename_i z' hz'
                rcases I.hb id _ e with ⟨_, h0⟩ | ⟨b, rest, h1, h2, h3, h4, h5⟩
                · rw [h0] at hz; simp at hz
                · have hlt : ix < xs.length := by
                    rcases Nat.lt_or_ge ix xs.length with h' | h'
                    · exact h'
                    · rw [List.getElem?_eq_none h'] at hz; cases hz
                  have hus : off + us.length ≤ ks.length := by rw [f1.length]; exact hle
                  have hin : ix * ks.length + off + us.length ≤ (flat ks xs ++ rest).length := by
                    rw [List.length_append, flat_length]
                    have : (ix + 1) * ks.length ≤ xs.length * ks.length := Nat.mul_le_mul_right _ hlt
                    rw [Nat.add_mul, Nat.one_mul] at this
                    omega
                  have hsp := of_fits hz' ((lvs_fits bs ks z).splice f1 off)
                  have hcells := flat_set_in ks xs ix z z' rest us off hz hus hsp
                  refine ⟨w.setRow b (flat ks (xs.set ix z') ++ rest).toArray, _, ?_, ?_, h⟩
                  · rw [← hcells]
                    have := run_storeAt_us T (o := ix * ks.length + off) h3 f2 hul hin hone
                    simpa [LV.conc, h1, ptAd] using this
                  · refine I.turn e ?_ (fun _ _ => rfl) rfl (.inl rfl) (.inr ⟨b, rest, h1, by simpa using h2, setRow_heap w _ _ _ _ _ h3, ?_, by simpa using h5⟩) (fun b hb => .inl hb) fun T2 cs2 e2 => by cases e2
                    · have : HB.blk bs id (.row (.sl T' ks) xs) = some b := by simp [HB.blk, h1]
                      rw [this]
                      exact Turn.setRow w _ _
                    · rw [← h4]
                      simp [flat_length]
              · exact h.elim
            · exact h.elim
          · exact h.elim
        · exact h.elim
      · exact h.elim
    · exact h.elim

theorem dstOf_iff {te : TI} {x : SV} {K : Nat → TypeId → List (Tup te.ks) → Prop} (h : dstOf S x te K) : ∃ id T xs, x = .l (.row id) ∧ S.own id = true ∧ S.hid id = some (.row (.sl T te.ks) xs) ∧ K id T xs := by
  unfold dstOf at h
  split at h
  · rename_i id
    split at h
    · rename_i hown
      split at h
      · rename_i T ks xs e
        split at h
        · rename_i hk
          subst hk
          exact ⟨id, T, xs, rfl, hown, e, h⟩
        · exact h.elim
      · exact h.elim
    · exact h.elim
  · exact h.elim
theorem row_len (I : Inv w0 M0 R0 n dfs bs S R a w) {id : Nat} {T : TypeId} {ks : List Kd} {xs : List (Tup ks)} (e : S.hid id = some (.row (.sl T ks) xs)) : (bs id).sl.len = xs.length ∧ xs.length ≤ (bs id).sl.cap := by
  rcases I.row e with ⟨h1, rfl⟩ | ⟨b, _, h2, h3, _⟩
  · rw [h1]; exact ⟨rfl, Nat.le_refl _⟩
  · exact ⟨h2, h3⟩
theorem first_row (I : Inv w0 M0 R0 n dfs bs S R a w) {id : Nat} {T : TypeId} {ks : List Kd} {xs : List (Tup ks)} {size : Nat} (hs : ks.length = size) (e : S.hid id = some (.row (.sl T ks) xs)) (P : Program) (w' : World) (hw : w'.heap = w.heap) :
    (Builtin.firstCells size xs.length (bs id).sl.val).run P w' = .ok (flat ks xs).toArray w' := by
  rcases I.row e with ⟨h1, rfl⟩ | ⟨b, h1, h2, h3, h4⟩
  · rw [h1]; rfl
  · have := run_first (P := P) (w := w') (size := size) (m := xs.length) ⟨b, 0, none⟩ (bs id).sl.len (bs id).sl.cap (flat ks xs) (by rw [flat_length, hs]) (fun j v hv => by
      rw [cell_heap hw, add_none, Nat.zero_add]
      exact h4 j v hv)
    rw [← h1] at this
    exact this
/-- 'append' within the room that is there. -/
theorem run_append_in {P : Program} {w : World} {t u ty e : TypeId} {te : TI} (hte : TOk P e te) (ht : P.underlying t = some (.slice e)) (hu : (∃ e, P.underlying u = some (.slice e)) ∨ P.underlying u = some .string)
    {b len cap : Nat} {T : TypeId} {cur : List Value} {ys : List (Tup te.ks)} {y : Value} (hy : Src w te.size te.ks y ys) (hb : w.heap[b]? = some (.cells cur.toArray T (0, 0))) (hin : len * te.size + (flat te.ks ys).length ≤ cur.length)
    (hg : len + ys.length ≤ cap) : (Builtin.append_ #[t, u] ty #[.slice (some ⟨b, 0, none⟩) len cap, y]).run P w = .ok (.slice (some ⟨b, 0, none⟩) (len + ys.length) cap) (w.setRow b (spliceV cur (len * te.size) (flat te.ks ys)).toArray) := by
  have hlen := (hy P w rfl).1
  have hcells := (hy P w rfl).2 ys.length (Nat.le_refl _)
  rw [List.take_length] at hcells
  have hsz : ∀ w, (sizeOf e).run P w = .ok te.size w := fun w => hte.run_size w
  have hst := run_storeCells_at P b (len * te.size) T (flat te.ks ys) 0 cur.toArray w hb (by simpa using hin) (flat_one te.ks ys)
  simp only [Nat.add_zero] at hst
  rcases hu with ⟨e', hu⟩ | hu <;>
  · simp only [Builtin.append_, List.getElem?_toArray, List.getElem?_cons_zero, List.getElem?_cons_succ, Sem.run_bind, run_und ht, run_und hu, Result.andThen_ok, hsz, hlen, Sem.run_pure, Bool.false_eq_true, if_false, if_pos hg, Bool.not_false, if_true, hcells, add_none, Nat.zero_add, hst]
    rfl
theorem Inv.append (I : Inv w0 M0 R0 n dfs bs S R a w) {cx : Cx} (hT : TblOk cx.P cx.tbl) {t u ty : TypeId} {x y : SV} {p v : Value} (hx : x.fits bs p) (hy : y.fits bs v) {K : SV → St → Hp → Prop} (h : evAppend cx S R t u x y K) :
    ∃ bs' w' S' sv r, (Builtin.append_ #[t, u] ty #[p, v]).run cx.P w = .ok r w' ∧ Inv w0 M0 R0 n dfs bs' S' R a w' ∧ sv.fits bs' r ∧ sv.good (Alive S') R ∧ K sv S' R := by
  unfold evAppend at h
  obtain ⟨ti, e, te, ht, hu0, hte, h⟩ := elemOfT_iff h
  have hu := (hT t ti ht).slice hu0
  have T := hT e te hte
  obtain ⟨id, T', xs, rfl, hown, ex, h2⟩ := dstOf_iff h
  clear h
  have hp := LV.fits_val hx (by simp)
  subst hp
  split at h2
  · rename_i hc
    simp only [Bool.and_eq_true] at hc
    obtain ⟨⟨⟨_, hsrc⟩, hb1⟩, hTe⟩ := hc
    have hTe := Nat.eq_of_beq_eq_true hTe
    subst hTe
    have hb1 := Nat.le_of_ble_eq_true hb1
    obtain ⟨ys, ⟨hroom, hK⟩, hs⟩ := I.srcOf T.ksl hy h2
    obtain ⟨hl1, hl2⟩ := row_len I ex
    have hold : ∀ w' : World, w'.heap = w.heap → _ := fun w' hw => first_row I T.ksl ex cx.P w' hw
    obtain ⟨J, hq⟩ := I.purge id
    have ex' : (S.purge id).hid id = some (.row (.sl T' te.ks) xs) := by simp only [St.purge, ex]
    have fin : ∀ (bs' : Bs) (w' : World) (s : Sl), (∀ j, j ≠ id → bs' j = bs j) → (bs' id).blk = (bs id).blk → (bs' id).sl = s → Turn w w' (HB.blk bs id (.row (.sl T' te.ks) xs)) → HBok w' bs' id (.row (.sl T' te.ks) (xs ++ ys)) →
        (∀ b, (HB.row (.sl T' te.ks) (xs ++ ys)).blk bs' id = some b → (HB.row (.sl T' te.ks) xs).blk bs id = some b ∨ w.heap.size ≤ b) → (Builtin.append_ #[t, u] ty #[(bs id).sl.val, v]).run cx.P w = .ok s.val w' →
        ∃ bs' w' S' sv r, (Builtin.append_ #[t, u] ty #[(bs id).sl.val, v]).run cx.P w = .ok r w' ∧ Inv w0 M0 R0 n dfs bs' S' R a w' ∧ sv.fits bs' r ∧ sv.good (Alive S') R ∧ K sv S' R := by
      intro bs' w' s hup hbk hsl hturn hok hblk hrun
      refine ⟨bs', w', _, .l (.row id), _, hrun, J.turn ex' hturn hup hbk (.inr hq) hok hblk (fun _ _ e => by cases e), show _ ∨ _ from .inr (by rw [← hsl]; rfl), good_l ⟨fun j hj => ?_, trivial⟩, hK⟩
      have : id = j := by simpa [LV.says] using hj
      subst this
      unfold Alive
      rw [St.setHid_hid, if_pos rfl]
      simp
    by_cases hcap : (bs id).sl.cap < xs.length + ys.length
    · -- a new block
      have hold' : ∀ w', w'.heap = w.heap → (Builtin.firstCells te.size xs.length (.slice (bs id).sl.a xs.length (bs id).sl.cap)).run cx.P w' = .ok (flat te.ks xs).toArray w' := fun w' hw => by
        have := hold w' hw
        unfold Sl.val at this
        rw [hl1] at this
        exact this
      obtain ⟨w', c', rest, r1, r2, r3, r4, r5⟩ := run_append_new (w := w) (ty := ty) (A := (bs id).sl.a) T hu (isSrc_und hT hsrc) hs hold' hb1 hroom hcap
      refine fin (updB bs id ⟨(bs id).blk, ⟨some ⟨w.heap.size, 0, none⟩, xs.length + ys.length, c'⟩⟩) w' ⟨some ⟨w.heap.size, 0, none⟩, xs.length + ys.length, c'⟩ (updB_ne bs id _) (by simp [updB]) (by simp [updB]) (Turn.below r2 _) (.inr ⟨w.heap.size, rest, by simp [updB], by simp [updB], r3, by simpa [updB] using r4, by simpa [updB] using r5⟩) (fun b hb => ?_) ?_
      · simp [HB.blk, updB] at hb
        exact .inr (Nat.le_of_eq hb)
      · unfold Sl.val
        rw [hl1]
        exact r1
    · have hcap' : xs.length + ys.length ≤ (bs id).sl.cap := by omega
      rcases I.hb id _ ex with ⟨h1, rfl⟩ | ⟨b, rest, h1, h2, h3, h4, h5⟩
      · -- nothing to nil
        rw [h1] at hcap'
        have hy0 : ys = [] := List.length_eq_zero_iff.1 (by simpa using hcap')
        subst hy0
        refine fin bs w ⟨none, 0, 0⟩ (fun _ _ => rfl) rfl h1 (Turn.below (Below.refl _ w) _) (.inl ⟨h1, rfl⟩) (fun b hb => .inl hb) ?_
        rw [h1]
        exact run_append_nil T hu (isSrc_und hT hsrc) hs rfl
      · have hfl : (flat te.ks xs).length = xs.length * te.size := by rw [flat_length, T.ksl]
        have hys : (flat te.ks ys).length = ys.length * te.size := by rw [flat_length, T.ksl]
        have hrl : (xs.length + ys.length) * te.size ≤ (flat te.ks xs ++ rest).length := by
          rw [h4, T.ksl]; exact Nat.mul_le_mul_right _ hcap'
        have hin : xs.length * te.size + (flat te.ks ys).length ≤ (flat te.ks xs ++ rest).length := by
          rw [hys, ← Nat.add_mul]; exact hrl
        have hsp : spliceV (flat te.ks xs ++ rest) (xs.length * te.size) (flat te.ks ys) = flat te.ks (xs ++ ys) ++ rest.drop (flat te.ks ys).length := by
          simp only [spliceV]
          rw [← hfl, List.take_left', List.drop_length_add_append, flat_append]
          rfl
        refine fin (updB bs id ⟨(bs id).blk, ⟨some ⟨b, 0, none⟩, xs.length + ys.length, (bs id).sl.cap⟩⟩) (w.setRow b (spliceV (flat te.ks xs ++ rest) (xs.length * te.size) (flat te.ks ys)).toArray) ⟨some ⟨b, 0, none⟩, xs.length + ys.length, (bs id).sl.cap⟩ (updB_ne bs id _) (by simp [updB]) (by simp [updB]) ?_ (.inr ⟨b, rest.drop (flat te.ks ys).length, by simp [updB], by simp [updB], ?_, ?_, by simpa [updB] using hcap'⟩) (fun b' hb' => ?_) ?_
        · have : HB.blk bs id (.row (.sl T' te.ks) xs) = some b := by simp [HB.blk, h1]
          rw [this]
          exact Turn.setRow w _ _
        · rw [setRow_heap w _ _ _ _ _ h3, hsp]
        · have : (flat te.ks (xs ++ ys) ++ rest.drop (flat te.ks ys).length).length = (flat te.ks xs ++ rest).length := by
            rw [← hsp, spliceV_length _ _ _ hin]
          simp only [updB_same]
          rw [this, h4]
        · left
          simp [HB.blk, updB] at hb'
          simp [HB.blk, h1, hb']
        · unfold Sl.val
          rw [h1, h2]
          have := run_append_in (ty := ty) T hu (isSrc_und hT hsrc) hs h3 hin hcap'
          exact this
  · exact h2.elim
end
end Go.KE

/- The engine, part V: copies and cuts; what is handed out. -/
namespace Go.KE
open Go.RowKit (Below)

section
variable {w0 : World} {M0 : Mod} {R0 : Hp} {n : Nat} {dfs : List Deferred} {bs : Bs} {S : St} {R : Hp} {a : Act} {w : World}
theorem row_good {S : St} {id : Nat} {h : Option HB} (hh : h ≠ none) {R : Hp} : (SV.l (.row id)).good (Alive (S.setHid id h)) R :=
  good_l ⟨fun j hj => by
    have : id = j := by simpa [LV.says] using hj
    subst this
    unfold Alive
    rw [St.setHid_hid, if_pos rfl]
    exact hh, trivial⟩
theorem Inv.trunc (I : Inv w0 M0 R0 n dfs bs S R a w) {P : Program} {t e : TypeId} {te : TI} (hu : P.underlying t = some (.slice e)) (T : TOk P e te) {id : Nat} {p : Value} (hx : (SV.l (.row id)).fits bs p) {hi : Option SV} {hi' : Option Value} (hhi : OptFits bs hi hi')
    {K : SV → St → Prop} (h : evTrunc S id hi K) : ∃ bs' S' sv r, (Instr.sliceAt t p none hi' none).run P w = .ok r w ∧ Inv w0 M0 R0 n dfs bs' S' R a w ∧ sv.fits bs' r ∧ sv.good (Alive S') R ∧ K sv S' := by
  have hp := LV.fits_val hx (by simp)
  subst hp
  unfold evTrunc at h
  split at h
  · split at h
    · rename_i T' ks xs ex
      obtain ⟨hl1, hl2⟩ := row_len I ex
      obtain ⟨J, hq⟩ := I.purge id
      have ex' : (S.purge id).hid id = some (.row (.sl T' ks) xs) := by simp only [St.purge, ex]
      have key : ∀ hh : Int, ((hi' = none ∧ hh = xs.length) ∨ ∃ k, hi' = some (.int k hh)) → (0 ≤ hh ∧ hh ≤ xs.length ∧ K (.l (.row id)) ((S.purge id).setHid id (some (.row (.sl T' ks) (xs.take hh.toNat))))) →
          ∃ bs' S' sv r, (Instr.sliceAt t (LV.conc bs (.row id)) none hi' none).run P w = .ok r w ∧ Inv w0 M0 R0 n dfs bs' S' R a w ∧ sv.fits bs' r ∧ sv.good (Alive S') R ∧ K sv S' := by
        intro hh e2 ⟨h0, h1, hK⟩
        have h2' : hh ≤ ((bs id).sl.cap : Int) := by omega
        rw [← hl1] at e2
        have hlen : (xs.take hh.toNat).length = hh.toNat := by rw [List.length_take]; omega
        have hrun : (Instr.sliceAt t (LV.conc bs (.row id)) none hi' none).run P w = .ok (.slice (bs id).sl.a hh.toNat (bs id).sl.cap) w := by
          simp only [LV.conc, Sl.val, Instr.sliceAt, Instr.slice, Sem.run_bind, run_und hu, Result.andThen_ok, run_bounds (l := 0) true (bs id).sl.len (bs id).sl.cap (.inl ⟨rfl, rfl⟩) e2 (Int.le_refl _) h0 h2', T.run_size, Sem.run_pure]
          have : (if (bs id).sl.cap = (0 : Int).toNat then (bs id).sl.a else (bs id).sl.a.map fun x => x.add ((0 : Int).toNat * te.size)) = (bs id).sl.a := by
            split
            · rfl
            · rcases I.row ex with ⟨h1, _⟩ | ⟨b, h1, _⟩ <;> rw [h1] <;> simp [add_none]
          rw [this]
          simp
        have fin : ∀ (bs' : Bs), (∀ j, j ≠ id → bs' j = bs j) → (bs' id).blk = (bs id).blk → (bs' id).sl = ⟨(bs id).sl.a, hh.toNat, (bs id).sl.cap⟩ → HBok w bs' id (.row (.sl T' ks) (xs.take hh.toNat)) →
            ∃ bs' S' sv r, (Instr.sliceAt t (LV.conc bs (.row id)) none hi' none).run P w = .ok r w ∧ Inv w0 M0 R0 n dfs bs' S' R a w ∧ sv.fits bs' r ∧ sv.good (Alive S') R ∧ K sv S' := by
          intro bs' hup hbk hsl hok
          refine ⟨bs', _, .l (.row id), _, hrun, J.turn ex' (Turn.below (Below.refl _ w) _) hup hbk (.inr hq) hok (fun b hb => .inl ?_) (fun _ _ e => by cases e), show _ ∨ _ from .inr ?_, row_good (by simp), hK⟩
          · simpa [HB.blk, hsl] using hb
          · simp only [LV.conc, Sl.val, hsl]
        rcases I.hb id _ ex with ⟨g1, rfl⟩ | ⟨b, rest, g1, g2, g3, g4, g5⟩
        · have hz : hh.toNat = 0 := by simp at h1; omega
          refine fin bs (fun _ _ => rfl) rfl (by rw [g1, hz]) (.inl ⟨g1, by simp⟩)
        · have hfl : flat ks (xs.take hh.toNat) ++ (flat ks (xs.drop hh.toNat) ++ rest) = flat ks xs ++ rest := by
            rw [← List.append_assoc, ← flat_append, List.take_append_drop]
          refine fin (updB bs id ⟨(bs id).blk, ⟨(bs id).sl.a, hh.toNat, (bs id).sl.cap⟩⟩) (updB_ne bs id _) (by simp [updB]) (by simp [updB]) (.inr ⟨b, flat ks (xs.drop hh.toNat) ++ rest, by simp [updB, g1], by simp [updB, hlen], ?_, ?_, ?_⟩)
          · rw [hfl]; exact g3
          · rw [hfl]; simpa [updB] using g4
          · rw [hlen]; simp only [updB_same]; omega
      rcases optInt_iff hhi h with ⟨e2, _, h⟩ | ⟨k', hh, e2, h⟩
      · exact key _ (.inl ⟨e2, rfl⟩) h
      · exact key _ (.inr ⟨_, e2⟩) h
    · exact h.elim
  · exact h.elim

theorem run_copy {P : Program} {w : World} {t ty e : TypeId} {te : TI} (hte : TOk P e te) (ht : P.underlying t = some (.slice e)) {ats : Array TypeId} (hats : ats[0]? = some t) {base : Option Addr} {dLen dCap : Nat} {ys : List (Tup te.ks)} {y : Value} (hy : Src w te.size te.ks y ys)
    {w' : World} (hst : match base with | some a => (storeCells a (flat te.ks (ys.take dLen))).run P w = .ok () w' | none => w' = w) :
    (Builtin.copy_ ats ty #[.slice base dLen dCap, y]).run P w = .ok (.int .i64 (min ys.length dLen : Nat)) w' := by
  have hlen := (hy P w rfl).1
  have hcells := (hy P w rfl).2 (min ys.length dLen) (Nat.min_le_left _ _)
  have htk : ys.take (min ys.length dLen) = ys.take dLen := by
    rw [Nat.min_comm, List.take_eq_take_min, Nat.min_assoc, Nat.min_self, ← List.take_eq_take_min]
  rw [htk] at hcells
  have hmin : Nat.min ys.length dLen = min ys.length dLen := rfl
  cases base with
  | none =>
    subst hst
    simp only [Builtin.copy_, hats, List.getElem?_toArray, List.getElem?_cons_zero, List.getElem?_cons_succ, Sem.run_bind, run_und ht, Result.andThen_ok, hlen, hte.run_size, hmin, hcells, Sem.run_pure, goInt]
  | some ad =>
    simp only [Builtin.copy_, hats, List.getElem?_toArray, List.getElem?_cons_zero, List.getElem?_cons_succ, Sem.run_bind, run_und ht, Result.andThen_ok, hlen, hte.run_size, hmin, hcells, hst, Sem.run_pure, goInt]

theorem Inv.copyAt (I : Inv w0 M0 R0 n dfs bs S R a w) {P : Program} {t ty e : TypeId} {te : TI} (T : TOk P e te) (ht : P.underlying t = some (.slice e)) {ats : Array TypeId} (hats : ats[0]? = some t) {id : Nat} {T' : TypeId} {xs ys : List (Tup te.ks)} {y : Value} (hy : Src w te.size te.ks y ys)
    (ex : S.hid id = some (.row (.sl T' te.ks) xs)) {lo hi dCap : Nat} (hhi : hi ≤ xs.length) {A : Option Addr} (hA : hi - lo = 0 ∨ A = (bs id).sl.a.map (·.add (lo * te.size))) :
    ∃ w', (Builtin.copy_ ats ty #[.slice A (hi - lo) dCap, y]).run P w = .ok (.int .i64 (min ys.length (hi - lo) : Nat)) w' ∧ Inv w0 M0 R0 n dfs bs (S.setHid id (some (.row (.sl T' te.ks) (xs.take lo ++ ys.take (hi - lo) ++ xs.drop (lo + min ys.length (hi - lo)))))) R a w' := by
  by_cases h0 : hi - lo = 0 ∨ xs = []
  · have h0' : hi - lo = 0 := by
      rcases h0 with h0 | h0
      · exact h0
      · subst h0; simp at hhi; omega
    refine ⟨w, run_copy T ht hats hy ?_, ?_⟩
    · rw [h0', List.take_zero]
      cases A with
      | none => rfl
      | some ad => rfl
    · have : xs.take lo ++ ys.take (hi - lo) ++ xs.drop (lo + min ys.length (hi - lo)) = xs := by simp [h0']
      rw [this]
      refine I.turn ex (Turn.below (Below.refl _ w) _) (fun _ _ => rfl) rfl (.inl rfl) (I.hb id _ ex) (fun b hb => .inl hb) fun _ _ e => by cases e
  · have hne : ¬ hi - lo = 0 := fun h => h0 (.inl h)
    have hA := hA.resolve_left hne
    rcases I.hb id _ ex with ⟨_, h0'⟩ | ⟨b, rest, g1, g2, g3, g4, g5⟩
    · exact absurd (Or.inr h0') h0
    · rw [g1] at hA
      simp only [Option.map_some, add_none, Nat.zero_add] at hA
      subst hA
      have hyl : (flat te.ks (ys.take (hi - lo))).length = min (hi - lo) ys.length * te.size := by rw [flat_length, List.length_take, T.ksl]
      have hlo : lo + min (hi - lo) ys.length ≤ xs.length := by omega
      have hin : lo * te.size + (flat te.ks (ys.take (hi - lo))).length ≤ (flat te.ks xs ++ rest).length := by
        rw [hyl, ← Nat.add_mul, List.length_append, flat_length, T.ksl]
        have := Nat.mul_le_mul_right te.size hlo
        omega
      have hst := run_storeCells_at P b (lo * te.size) T' (flat te.ks (ys.take (hi - lo))) 0 (flat te.ks xs ++ rest).toArray w g3 (by simpa using hin) (flat_one te.ks _)
      simp only [Nat.add_zero] at hst
      have hsp : spliceV (flat te.ks xs ++ rest) (lo * te.size) (flat te.ks (ys.take (hi - lo))) = flat te.ks (xs.take lo ++ ys.take (hi - lo) ++ xs.drop (lo + min ys.length (hi - lo))) ++ rest := by
        have e1 : flat te.ks xs = flat te.ks (xs.take lo) ++ flat te.ks (xs.drop lo) := by rw [← flat_append, List.take_append_drop]
        have e2 : (flat te.ks (xs.take lo)).length = lo * te.size := by rw [flat_length, List.length_take, T.ksl, Nat.min_eq_left (by omega)]
        rw [e1, show lo * te.size = (flat te.ks (xs.take lo)).length + 0 by omega, spliceV_in _ _ _ _ _ (by rw [hyl, flat_length, List.length_drop, T.ksl, Nat.zero_add]; exact Nat.mul_le_mul_right _ (by omega))]
        rw [flat_append, flat_append]
        simp only [spliceV, List.take_zero, List.nil_append, Nat.zero_add]
        rw [hyl, ← T.ksl, ← flat_drop, List.drop_drop, Nat.min_comm]
        simp
      refine ⟨_, run_copy T ht hats hy (w' := w.setRow b (spliceV (flat te.ks xs ++ rest) (lo * te.size) (flat te.ks (ys.take (hi - lo)))).toArray) ?_, ?_⟩
      · simp only []
        rw [hst]
        rfl
      · rw [hsp]
        have hll : (xs.take lo ++ ys.take (hi - lo) ++ xs.drop (lo + min ys.length (hi - lo))).length = xs.length := by
          simp only [List.length_append, List.length_take, List.length_drop]; omega
        refine I.turn ex ?_ (fun _ _ => rfl) rfl (.inl rfl) (.inr ⟨b, rest, g1, by rw [g2, hll], setRow_heap w _ _ _ _ _ g3, ?_, by rw [hll]; exact g5⟩) (fun b hb => .inl hb) fun _ _ e => by cases e
        · have : HB.blk bs id (.row (.sl T' te.ks) xs) = some b := by simp [HB.blk, g1]
          rw [this]
          exact Turn.setRow w _ _
        · rw [← g4]
          simp only [List.length_append, flat_length]
          rw [show (xs.take lo).length + (ys.take (hi - lo)).length + (xs.drop (lo + min ys.length (hi - lo))).length = xs.length by rw [← hll]; simp only [List.length_append]]
theorem Inv.copy (I : Inv w0 M0 R0 n dfs bs S R a w) {cx : Cx} (hT : TblOk cx.P cx.tbl) {t ty : TypeId} {x y : SV} {p v : Value} {ats : Array TypeId} (hats : ats[0]? = some t) (hx : x.fits bs p) (hy : y.fits bs v) {K : SV → St → Hp → Prop} (h : evCopy cx S R t x y K) :
    ∃ w' S' sv r, (Builtin.copy_ ats ty #[p, v]).run cx.P w = .ok r w' ∧ Inv w0 M0 R0 n dfs bs S' R a w' ∧ sv.fits bs r ∧ sv.good (Alive S') R ∧ K sv S' R := by
  unfold evCopy at h
  obtain ⟨ti, e, te, ht, hu0, hte, h1⟩ := elemOfT_iff h
  clear h
  have hu := (hT t ti ht).slice hu0
  have T := hT e te hte
  split at h1
  · rename_i id lo hi esz
    have hp := LV.fits_val hx (by simp)
    subst hp
    obtain ⟨id', T', xs, e1, hown, ex, h2⟩ := dstOf_iff h1
    cases e1
    obtain ⟨ys, ⟨hhi, rfl, hK⟩, hs⟩ := I.srcOf T.ksl hy h2
    obtain ⟨w', r1, r2⟩ := I.copyAt (ty := ty) T hu hats hs ex (lo := lo) (hi := hi) (dCap := (bs id).sl.cap - lo) hhi (A := if (bs id).sl.cap = lo then (bs id).sl.a else (bs id).sl.a.map (·.add (lo * te.size))) (by
      by_cases hc : (bs id).sl.cap = lo
      · left
        have := (row_len I ex).2
        omega
      · right; rw [if_neg hc])
    exact ⟨w', _, .l (.int .i64 _), _, r1, r2, show _ ∨ _ from .inr rfl, good_l (good_of_not (fun _ => rfl) trivial), hK⟩
  · obtain ⟨id, T', xs, rfl, hown, ex, h2⟩ := dstOf_iff h1
    have hp := LV.fits_val hx (by simp)
    subst hp
    obtain ⟨ys, hK, hs⟩ := I.srcOf T.ksl hy h2
    obtain ⟨hl1, hl2⟩ := row_len I ex
    obtain ⟨w', r1, r2⟩ := I.copyAt (ty := ty) T hu hats hs ex (lo := 0) (hi := xs.length) (dCap := (bs id).sl.cap) (Nat.le_refl _) (A := (bs id).sl.a) (.inr (by
      rcases I.row ex with ⟨h1, _⟩ | ⟨b, h1, _⟩ <;> rw [h1] <;> simp [add_none]))
    simp only [Nat.sub_zero, List.take_zero, List.nil_append, Nat.zero_add] at r1 r2
    refine ⟨w', _, .l (.int .i64 _), _, ?_, r2, show _ ∨ _ from .inr rfl, good_l (good_of_not (fun _ => rfl) trivial), hK⟩
    have hv : LV.conc bs (.row id) = .slice (bs id).sl.a xs.length (bs id).sl.cap := by rw [← hl1]; rfl
    rw [hv]
    exact r1
end
end Go.KE
