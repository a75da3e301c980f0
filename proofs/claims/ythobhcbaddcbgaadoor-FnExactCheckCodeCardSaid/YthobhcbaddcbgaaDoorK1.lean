/- A checker for the code of a function that writes nothing that was there, and its soundness: part 1. -/
import Derived.WalkKit
/- The engine, part A: kinds of cells, symbolic values, what they stand for. -/
namespace Go.KE

/-- The kinds of a single cell. -/
inductive Kd where
  | int (k : IntKind) | bool | str | sl | pt | mp | ifc | fn
  deriving DecidableEq

/-- A slice's value. -/
structure Sl where
  a : Option Addr
  len : Nat
  cap : Nat

abbrev Kd.Den : Kd → Type
  | .int _ => Int
  | .bool => Bool
  | .str => ByteArray
  | .sl => Sl
  | .pt => Option Addr
  | .mp => Option Nat
  | .ifc => Option (TypeId × Value)
  | .fn => Option (Fn × Array Value × Array Value)

def Sl.val (s : Sl) : Value := .slice s.a s.len s.cap

def ifcV : Option (TypeId × Value) → Value
  | none => .nilIface
  | some x => .iface x.1 x.2
def fnV : Option (Fn × Array Value × Array Value) → Value
  | none => .nilFunc
  | some x => .func x.1 x.2.1 x.2.2
def Kd.enc : (k : Kd) → k.Den → Value
  | .int k, n => .int k n
  | .bool, b => .bool b
  | .str, s => .string s
  | .sl, s => s.val
  | .pt, a => .pointer a
  | .mp, r => .map r
  | .ifc, v => ifcV v
  | .fn, v => fnV v

abbrev Tup : List Kd → Type
  | [] => Unit
  | [k] => k.Den
  | k :: k' :: ks => k.Den × Tup (k' :: ks)

def Tup.enc : (ks : List Kd) → Tup ks → List Value
  | [], _ => []
  | [k], x => [k.enc x]
  | k :: k' :: ks, x => k.enc x.1 :: Tup.enc (k' :: ks) x.2

/-- A symbolic value of one cell. -/
inductive LV where
  | no                               -- nothing is known
  | und                              -- 'undef'
  | int (k : IntKind) (n : Int)
  | bool (q : Bool)
  | tt
  | ff
  | str (x : ByteArray)
  | sl (x : Sl)
  | nil                              -- the nil slice
  | pt (a : Option Addr)
  | mp (r : Option Nat)
  | ifc (x : Option (TypeId × Value))
  | fn (x : Option (Fn × Array Value × Array Value))
  | adr (id off : Nat)               -- the address of a cell of block id
  | row (id : Nat)                   -- the call's own slice id, whole
  | view (id lo hi esz : Nat)          -- a part of it, to be read alone
  | adre (id ix off esz : Nat)         -- the address of a cell of its element ix
  | adrr (ad : Addr) (ks : List Kd) (x : Tup ks) (off : Nat)   -- the address of a cell of what is read alone, and what lies there
  | omap (id : Nat)                     -- the call's own map
  | clo (f : FuncId) (cap : List (Nat × Nat))   -- a function value with addresses of the call's own blocks

inductive SV where
  | l (x : LV)
  | g (cs : List LV)
  | t (cs : List (Bool × List LV))

structure Bd where
  blk : Nat
  sl : Sl
abbrev Bs := Nat → Bd

def ptAd (a : Option Addr) : Addr := match a with | some a => a | none => ⟨0, 0, none⟩
def LV.conc (bs : Bs) : LV → Value
  | .no => undef
  | .und => undef
  | .int k n => .int k n
  | .bool q => .bool q
  | .tt => .bool true
  | .ff => .bool false
  | .str x => .string x
  | .sl x => x.val
  | .nil => .slice none 0 0
  | .pt a => .pointer a
  | .mp r => .map r
  | .ifc x => ifcV x
  | .fn x => fnV x
  | .adr id off => .pointer (some ⟨(bs id).blk, off, none⟩)
  | .row id => (bs id).sl.val
  | .view id lo hi esz => .slice (if (bs id).sl.cap = lo then (bs id).sl.a else (bs id).sl.a.map (·.add (lo * esz))) (hi - lo) ((bs id).sl.cap - lo)
  | .adre id ix off esz => .pointer (some ⟨(ptAd (bs id).sl.a).block, (ptAd (bs id).sl.a).off + ix * esz + off, none⟩)
  | .adrr ad _ _ off => .pointer (some ⟨ad.block, ad.off + off, none⟩)
  | .omap id => .map (some (bs id).blk)
  | .clo f cap => .func (.func f) #[] (cap.map fun x => Value.pointer (some ⟨(bs x.1).blk, x.2, none⟩)).toArray

def concG (bs : Bs) : Bool × List LV → Value
  | (true, cs) => .agg (cs.map (LV.conc bs)).toArray
  | (false, [x]) => x.conc bs
  | (false, _) => undef

def SV.conc (bs : Bs) : SV → Value
  | .l x => x.conc bs
  | .g cs => .agg (cs.map (LV.conc bs)).toArray
  | .t cs => .tuple (cs.map (concG bs)).toArray

def Kd.lv : (k : Kd) → k.Den → LV
  | .int k, n => .int k n
  | .bool, b => .bool b
  | .str, s => .str s
  | .sl, s => .sl s
  | .pt, a => .pt a
  | .mp, r => .mp r
  | .ifc, v => .ifc v
  | .fn, v => .fn v

def Tup.lvs : (ks : List Kd) → Tup ks → List LV
  | [], _ => []
  | [k], x => [k.lv x]
  | k :: k' :: ks, x => k.lv x.1 :: Tup.lvs (k' :: ks) x.2

theorem Kd.lv_conc (bs : Bs) (k : Kd) (x : k.Den) : (k.lv x).conc bs = k.enc x := by cases k <;> rfl
theorem Tup.lvs_conc (bs : Bs) : ∀ (ks : List Kd) (x : Tup ks), (Tup.lvs ks x).map (LV.conc bs) = Tup.enc ks x
  | [], _ => rfl
  | [k], x => by simp [Tup.lvs, Tup.enc, Kd.lv_conc]
  | k :: k' :: ks, x => by simp [Tup.lvs, Tup.enc, Kd.lv_conc, Tup.lvs_conc bs (k' :: ks) x.2]
theorem Tup.enc_length : ∀ (ks : List Kd) (x : Tup ks), (Tup.enc ks x).length = ks.length
  | [], _ => rfl
  | [k], x => rfl
  | k :: k' :: ks, x => by simp [Tup.enc, Tup.enc_length (k' :: ks) x.2]
theorem Tup.lvs_length (ks : List Kd) (x : Tup ks) : (Tup.lvs ks x).length = ks.length := by
  have h := congrArg List.length (Tup.lvs_conc (fun _ => ⟨0, ⟨none, 0, 0⟩⟩) ks x)
  rw [List.length_map, Tup.enc_length] at h
  exact h

/-- What one symbolic value is as a thing of a kind. -/
def LV.den : (k : Kd) → LV → Option k.Den
  | .int k, .int k' n => if k = k' then some n else none
  | .bool, .bool q => some q
  | .bool, .tt => some true
  | .bool, .ff => some false
  | .str, .str x => some x
  | .sl, .sl x => some x
  | .sl, .nil => some (⟨none, 0, 0⟩ : Sl)
  | .pt, .pt a => some a
  | .pt, .adrr ad _ _ off => some (some ⟨ad.block, ad.off + off, none⟩)
  | .mp, .mp r => some r
  | .ifc, .ifc x => some x
  | .fn, .fn x => some x
  | _, _ => none

def Tup.of : (ks : List Kd) → List LV → Option (Tup ks)
  | [], [] => some ()
  | [k], [x] => x.den k
  | k :: k' :: ks, x :: y :: cs => match x.den k, Tup.of (k' :: ks) (y :: cs) with
    | some d, some ds => some (d, ds)
    | _, _ => none
  | _, _ => none

theorem LV.den_conc (bs : Bs) (k : Kd) (x : LV) (d : k.Den) (h : x.den k = some d) : x.conc bs = k.enc d := by
  cases k <;> cases x <;> simp_all [LV.den, LV.conc, Kd.enc]
  all_goals first | (obtain ⟨rfl, rfl⟩ := h; rfl) | (subst h; rfl)

theorem Tup.of_conc (bs : Bs) : ∀ (ks : List Kd) (cs : List LV) (x : Tup ks), Tup.of ks cs = some x → cs.map (LV.conc bs) = Tup.enc ks x
  | [], [], _, _ => rfl
  | [], _ :: _, _, h => by simp [Tup.of] at h
  | [k], [], _, h => by simp [Tup.of] at h
  | [k], [c], x, h => by simp only [Tup.of] at h; simp [Tup.enc, LV.den_conc bs k c x h]
  | [k], _ :: _ :: _, _, h => by simp [Tup.of] at h
  | _ :: _ :: _, [], _, h => by simp [Tup.of] at h
  | _ :: _ :: _, [_], _, h => by simp [Tup.of] at h
  | k :: k' :: ks, c :: c' :: cs, x, h => by
    simp only [Tup.of] at h
    split at h
    · rename_i d ds h1 h2
      obtain rfl := Option.some.inj h
      have := Tup.of_conc bs (k' :: ks) (c' :: cs) ds h2
      simp only [Tup.enc]
      rw [List.map_cons, this, LV.den_conc bs k c d h1]
    · simp at h

/-- Does it speak of the call's own thing id? -/
def LV.says (id : Nat) : LV → Bool
  | .adr j _ | .row j | .view j _ _ _ | .adre j _ _ _ | .omap j => Nat.beq j id
  | .clo _ cap => cap.any fun x => Nat.beq x.1 id
  | _ => false
def SV.says (id : Nat) : SV → Bool
  | .l x => x.says id
  | .g cs => cs.any (LV.says id)
  | .t cs => cs.any fun x => x.2.any (LV.says id)

theorem LV.conc_congr {bs bs' : Bs} {id : Nat} (hb : ∀ j, j ≠ id → bs' j = bs j) (x : LV) (h : x.says id = false) : x.conc bs' = x.conc bs := by
  have key : ∀ j, Nat.beq j id = false → bs' j = bs j := fun j hj => hb j (by intro e; subst e; simp at hj)
  cases x <;> simp only [LV.says] at h <;> simp only [LV.conc]
  all_goals first | rfl | (rw [key _ h]) | skip
  rename_i f cap
  congr 1
  congr 1
  apply List.map_congr_left
  intro x hx
  rw [List.any_eq_false] at h
  rw [key _ (Bool.eq_false_iff.2 (h x hx))]

theorem LV.concL_congr {bs bs' : Bs} {id : Nat} (hb : ∀ j, j ≠ id → bs' j = bs j) (cs : List LV) (h : cs.any (LV.says id) = false) : cs.map (LV.conc bs') = cs.map (LV.conc bs) := by
  rw [List.any_eq_false] at h
  exact List.map_congr_left fun x hx => LV.conc_congr hb x (by simpa using h x hx)

theorem SV.conc_congr {bs bs' : Bs} {id : Nat} (hb : ∀ j, j ≠ id → bs' j = bs j) (x : SV) (h : x.says id = false) : x.conc bs' = x.conc bs := by
  cases x with
  | l x => exact LV.conc_congr hb x h
  | g cs => simp only [SV.conc]; rw [LV.concL_congr hb cs h]
  | t cs =>
    simp only [SV.conc]
    congr 2
    apply List.map_congr_left
    rintro ⟨g, c⟩ hx
    simp only [SV.says] at h
    rw [List.any_eq_false] at h
    have hc : c.any (LV.says id) = false := by simpa using h _ hx
    cases g with
    | true => simp only [concG]; rw [LV.concL_congr hb c hc]
    | false =>
      have := LV.concL_congr hb c hc
      match c, this with
      | [], _ => rfl
      | [y], this => simpa [concG] using this
      | _ :: _ :: _, _ => rfl

/-! What is read alone: a part of memory that does not turn. -/
abbrev Hp := Nat → Option Obj
def Hp.le (R R' : Hp) : Prop := ∀ b o, R b = some o → R' b = some o
theorem Hp.le.refl (R : Hp) : R.le R := fun _ _ h => h
theorem Hp.le.trans {R R' R'' : Hp} (h : R.le R') (h' : R'.le R'') : R.le R'' := fun b o e => h' b o (h b o e)
def Sees (R : Hp) (w : World) : Prop := ∀ b o, R b = some o → w.heap[b]? = some o

def RCells (R : Hp) (b off : Nat) (cs : List Value) : Prop := ∃ arr T fr, R b = some (.cells arr T fr) ∧ ∀ (j : Nat) c, cs[j]? = some c → arr[off + j]? = some c
def Sl.at (s : Sl) (i : Int) (n : Nat) : Addr := match s.a with
  | some a => ⟨a.block, a.off + i.toNat * n, none⟩
  | none => ⟨0, 0, none⟩
def RElem (R : Hp) (s : Sl) (ks : List Kd) (i : Int) (x : Tup ks) : Prop :=
  ∃ a, s.a = some a ∧ a.spot = none ∧ 0 ≤ i ∧ i < (s.len : Int) ∧ RCells R a.block (a.off + i.toNat * ks.length) (Tup.enc ks x)
def RSlice (R : Hp) (s : Sl) (ks : List Kd) (xs : List (Tup ks)) : Prop := xs.length = s.len ∧ s.len ≤ s.cap ∧ ∀ (i : Nat) x, xs[i]? = some x → RElem R s ks i x
def RPtr (R : Hp) (a : Option Addr) (ks : List Kd) (x : Tup ks) : Prop := ∃ ad, a = some ad ∧ ad.spot = none ∧ RCells R ad.block ad.off (Tup.enc ks x)

theorem RCells.mono {R R' : Hp} {b off : Nat} {cs : List Value} (h : RCells R b off cs) (hl : R.le R') : RCells R' b off cs := by
  obtain ⟨arr, T, fr, h1, h2⟩ := h
  exact ⟨arr, T, fr, hl _ _ h1, h2⟩
theorem RElem.mono {R R' : Hp} {s : Sl} {ks : List Kd} {i : Int} {x : Tup ks} (h : RElem R s ks i x) (hl : R.le R') : RElem R' s ks i x := by
  obtain ⟨a, h1, h2, h3, h4, h5⟩ := h
  exact ⟨a, h1, h2, h3, h4, h5.mono hl⟩
theorem RSlice.mono {R R' : Hp} {s : Sl} {ks : List Kd} {xs : List (Tup ks)} (h : RSlice R s ks xs) (hl : R.le R') : RSlice R' s ks xs :=
  ⟨h.1, h.2.1, fun i x hx => (h.2.2 i x hx).mono hl⟩
theorem RPtr.mono {R R' : Hp} {a : Option Addr} {ks : List Kd} {x : Tup ks} (h : RPtr R a ks x) (hl : R.le R') : RPtr R' a ks x := by
  obtain ⟨ad, h1, h2, h3⟩ := h
  exact ⟨ad, h1, h2, h3.mono hl⟩

/-- What fits: as it is told, or not told at all. -/
def LV.fits (bs : Bs) (x : LV) (v : Value) : Prop := x = .no ∨ v = x.conc bs
def FitsL (bs : Bs) : List LV → List Value → Prop
  | [], [] => True
  | x :: xs, v :: vs => x.fits bs v ∧ FitsL bs xs vs
  | _, _ => False
def FitsG (bs : Bs) (g : Bool × List LV) (v : Value) : Prop := match g with
  | (true, cs) => ∃ vs, FitsL bs cs vs ∧ v = .agg vs.toArray
  | (false, [x]) => x.fits bs v
  | (false, _) => False
def FitsT (bs : Bs) : List (Bool × List LV) → List Value → Prop
  | [], [] => True
  | x :: xs, v :: vs => FitsG bs x v ∧ FitsT bs xs vs
  | _, _ => False
def SV.fits (bs : Bs) (x : SV) (v : Value) : Prop := match x with
  | .l x => x.fits bs v
  | .g cs => ∃ vs, FitsL bs cs vs ∧ v = .agg vs.toArray
  | .t cs => ∃ vs, FitsT bs cs vs ∧ v = .tuple vs.toArray

theorem FitsL.length {bs : Bs} : ∀ {cs : List LV} {vs : List Value}, FitsL bs cs vs → vs.length = cs.length
  | [], [], _ => rfl
  | _ :: _, _ :: _, h => by simp [FitsL.length h.2]
  | [], _ :: _, h => h.elim
  | _ :: _, [], h => h.elim
theorem FitsL.conc (bs : Bs) : ∀ (cs : List LV), FitsL bs cs (cs.map (LV.conc bs))
  | [] => trivial
  | _ :: cs => ⟨.inr rfl, FitsL.conc bs cs⟩
theorem FitsL.take {bs : Bs} : ∀ (n : Nat) {cs : List LV} {vs : List Value}, FitsL bs cs vs → FitsL bs (cs.take n) (vs.take n)
  | 0, _, _, _ => trivial
  | _ + 1, [], [], _ => trivial
  | n + 1, _ :: _, _ :: _, h => ⟨h.1, FitsL.take n h.2⟩
  | _ + 1, [], _ :: _, h => h.elim
  | _ + 1, _ :: _, [], h => h.elim
theorem FitsL.drop {bs : Bs} : ∀ (n : Nat) {cs : List LV} {vs : List Value}, FitsL bs cs vs → FitsL bs (cs.drop n) (vs.drop n)
  | 0, _, _, h => h
  | _ + 1, [], [], _ => trivial
  | n + 1, _ :: _, _ :: _, h => FitsL.drop n h.2
  | _ + 1, [], _ :: _, h => h.elim
  | _ + 1, _ :: _, [], h => h.elim
theorem FitsL.append {bs : Bs} : ∀ {cs cs' : List LV} {vs vs' : List Value}, FitsL bs cs vs → FitsL bs cs' vs' → FitsL bs (cs ++ cs') (vs ++ vs')
  | [], _, [], _, _, h => h
  | _ :: _, _, _ :: _, _, h, h' => ⟨h.1, FitsL.append h.2 h'⟩
  | [], _, _ :: _, _, h, _ => h.elim
  | _ :: _, _, [], _, h, _ => h.elim
theorem FitsL.get {bs : Bs} : ∀ {cs : List LV} {vs : List Value}, FitsL bs cs vs → ∀ (j : Nat) x, cs[j]? = some x → ∃ v, vs[j]? = some v ∧ x.fits bs v
  | x :: _, v :: _, h, 0, y, e => ⟨v, rfl, by simp at e; exact e ▸ h.1⟩
  | _ :: _, _ :: _, h, j + 1, y, e => FitsL.get h.2 j y (by simpa using e)
  | [], _, _, _, _, e => by simp at e
  | _ :: _, [], h, _, _, _ => h.elim
theorem LV.fits_congr {bs bs' : Bs} {id : Nat} (hb : ∀ j, j ≠ id → bs' j = bs j) {x : LV} {v : Value} (h : x.says id = false) (hf : x.fits bs v) : x.fits bs' v :=
  hf.imp (fun h => h) fun e => e.trans (LV.conc_congr hb x h).symm
theorem FitsL.congr {bs bs' : Bs} {id : Nat} (hb : ∀ j, j ≠ id → bs' j = bs j) : ∀ {cs : List LV} {vs : List Value}, cs.any (LV.says id) = false → FitsL bs cs vs → FitsL bs' cs vs
  | [], [], _, _ => trivial
  | _ :: _, _ :: _, h, hf => by
    simp only [List.any_cons, Bool.or_eq_false_iff] at h
    exact ⟨LV.fits_congr hb h.1 hf.1, FitsL.congr hb h.2 hf.2⟩
  | [], _ :: _, _, h => h.elim
  | _ :: _, [], _, h => h.elim
theorem FitsG.congr {bs bs' : Bs} {id : Nat} (hb : ∀ j, j ≠ id → bs' j = bs j) {g : Bool × List LV} {v : Value} (h : g.2.any (LV.says id) = false) (hf : FitsG bs g v) : FitsG bs' g v := by
  match g, h, hf with
  | (true, cs), h, ⟨vs, h1, h2⟩ => exact ⟨vs, FitsL.congr hb h h1, h2⟩
  | (false, [x]), h, hf => exact LV.fits_congr hb (by simpa using h) hf
  | (false, []), _, hf => exact hf.elim
  | (false, _ :: _ :: _), _, hf => exact hf.elim
theorem FitsT.congr {bs bs' : Bs} {id : Nat} (hb : ∀ j, j ≠ id → bs' j = bs j) : ∀ {cs : List (Bool × List LV)} {vs : List Value}, (cs.any fun x => x.2.any (LV.says id)) = false → FitsT bs cs vs → FitsT bs' cs vs
  | [], [], _, _ => trivial
  | _ :: _, _ :: _, h, hf => by
    simp only [List.any_cons, Bool.or_eq_false_iff] at h
    exact ⟨FitsG.congr hb h.1 hf.1, FitsT.congr hb h.2 hf.2⟩
  | [], _ :: _, _, h => h.elim
  | _ :: _, [], _, h => h.elim
theorem SV.fits_congr {bs bs' : Bs} {id : Nat} (hb : ∀ j, j ≠ id → bs' j = bs j) {x : SV} {v : Value} (h : x.says id = false) (hf : x.fits bs v) : x.fits bs' v := by
  cases x with
  | l x => exact LV.fits_congr hb h hf
  | g cs => obtain ⟨vs, h1, h2⟩ := hf; exact ⟨vs, FitsL.congr hb h h1, h2⟩
  | t cs => obtain ⟨vs, h1, h2⟩ := hf; exact ⟨vs, FitsT.congr hb h h1, h2⟩

end Go.KE

/- The engine, part B: the state, the table of types, and what an operation comes to. -/
namespace Go.KE
open Go.RowKit (Below)

/-- What a row is: a slice's elements, or a map's entries. -/
inductive RT where
  | sl (T : TypeId) (ks : List Kd)
  | mp (ks : List Kd)
  deriving DecidableEq
@[reducible] def RT.ks : RT → List Kd
  | .sl _ ks => ks
  | .mp ks => ks
def RT.lv : RT → Nat → LV
  | .sl _ _, id => .row id
  | .mp _, id => .omap id
/-- Which row a value is. -/
def rowSrc : RT → LV → Option (Option Nat)
  | .sl _ _, .nil => some none
  | .sl _ _, .row id => some (some id)
  | .mp _, .omap id => some (some id)
  | _, _ => none
/-- What lies in a block of the call's own. -/
inductive HB where
  | cells (T : TypeId) (cs : List LV)
  | row (rt : RT) (xs : List (Tup rt.ks))

/-- The state: slots; the call's own blocks; which of these may be written; which may be bound anew. -/
structure St where
  env : Nat → SV
  hid : Nat → Option HB
  own : Nat → Bool
  anew : Nat → Bool

inductive TU where
  | int (k : IntKind) | bool | str | ptr (e : TypeId) | slice (e : TypeId) | map (k e : TypeId)
  | struct (fs : List (TypeId × Nat)) | ifc | fn | arr (n : Nat) (e : TypeId) | other
structure TI where
  size : Nat
  bytes : Nat
  ks : List Kd
  agg : Bool
  u : TU

def Kd.zero : (k : Kd) → k.Den
  | .int _ => (0 : Int)
  | .bool => false
  | .str => (⟨#[]⟩ : ByteArray)
  | .sl => (⟨none, 0, 0⟩ : Sl)
  | .pt => (none : Option Addr)
  | .mp => (none : Option Nat)
  | .ifc => (none : Option (TypeId × Value))
  | .fn => (none : Option (Fn × Array Value × Array Value))
def Tup.zero : (ks : List Kd) → Tup ks
  | [] => ()
  | [k] => k.zero
  | k :: k' :: ks => (k.zero, Tup.zero (k' :: ks))

/-- A zero as it is told. -/
def Kd.zlv : Kd → LV
  | .int k => .int k 0
  | .bool => .ff
  | .str => .str ⟨#[]⟩
  | .sl => .nil
  | .pt => .pt none
  | .mp => .mp none
  | .ifc => .ifc none
  | .fn => .fn none

def St.put (S : St) (d : Option Nat) (x : SV) : St := match d with
  | some d => { S with env := fun t => match Nat.beq t d with | true => x | false => S.env t }
  | none => S
def LV.purge (id : Nat) (x : LV) : LV := match x.says id with | true => .no | false => x
def St.purge (S : St) (id : Nat) : St :=
  { S with
    env := fun t => match (S.env t).says id with | true => .l .no | false => S.env t
    hid := fun j => match S.hid j with
      | some (.cells T cs) => some (.cells T (cs.map (LV.purge id)))
      | x => x }
def St.setHid (S : St) (id : Nat) (h : Option HB) : St := { S with hid := fun j => match Nat.beq j id with | true => h | false => S.hid j }
/-- A loop's variables: a slot; a slot that holds a slice of the call's own; a cell of a block of the call's own; such a cell that holds a slice of the call's own; such a cell that holds the address of a block of the call's own. -/
inductive LI where
  | tmp (t : Nat) (k : Kd)
  | row (t : Nat) (rt : RT)
  | cell (id off : Nat) (k : Kd)
  | crow (id off : Nat) (rt : RT)
  | cadr (id off : Nat)
  | cfn (id off : Nat) (f : FuncId)
structure LH where
  items : List LI
  blks : List (Nat × TypeId × Nat)
/-- What an argument is: handed as it is; handed out, read alone from now on; the address of a block of the call's own; a slice of the call's own. -/
inductive XA where
  | pure
  | frz
  | adr (T : TypeId) (n : Nat)
  | row (rt : RT)
/-- What a result is. -/
inductive XR where
  | pure (t : TypeId)
  | row (rt : RT)
  | adr (T : TypeId) (n : Nat)
structure XS where
  args : List XA
  kids : List (Nat × Nat × TypeId × Nat)
  ins : List LI
  okids : List (Nat × Nat × TypeId × Nat)
  outs : List LI
  res : List XR
structure Cx where
  P : Program
  loops : Nat → Option LH
  tbl : TypeId → Option TI
  rts : FuncId → List TypeId
  n : Nat
  fx : List Nat
  xs : FuncId → Option XS

def constLV : Value → LV
  | .int k n => .int k n
  | .bool true => .tt
  | .bool false => .ff
  | .string x => .str x
  | .slice none 0 0 => .nil
  | .slice a l c => .sl ⟨a, l, c⟩
  | .pointer a => .pt a
  | .map r => .mp r
  | .nilIface => .ifc none
  | .iface t v => .ifc (some (t, v))
  | .nilFunc => .fn none
  | .func f x y => .fn (some (f, x, y))
  | _ => .no
def constSV : Value → SV
  | .agg cs => .g (cs.toList.map constLV)
  | x => .l (constLV x)
def opd (get : Nat → SV) : Operand → SV
  | .tmp t => get t
  | .const x => constSV x
  | .global g => .l (.pt (some ⟨g, 0, none⟩))
  | .func f => .l (.fn (some (.func f, #[], #[])))

def SV.cells : SV → Option (List LV)
  | .l .no => none
  | .l x => some [x]
  | .g cs => some cs
  | .t _ => none
/-- A value of a type, out of its cells. -/
def packed (ti : TI) (cs : List LV) : SV := match ti.agg with
  | true => .g cs
  | false => match cs with
    | [x] => .l x
    | _ => .l .no
/-- These can be stored. -/
def okCells : List LV → Prop → Prop
  | [], K => K
  | .no :: _, _ => False
  | .und :: _, _ => False
  | _ :: cs, K => okCells cs K
def sized (n : Nat) (cs : List LV) (K : List LV → Prop) : Prop := match Nat.beq cs.length n with
  | true => K cs
  | false => False

/-- The cells that lie behind an address. -/
def readAt (hid : Nat → Option HB) (R : Hp) (x : SV) (ti : TI) (K : List LV → Prop) : Prop := match x with
  | .l (.adr id off) => match hid id with
    | some (.cells _ cs) => sized ti.size ((cs.drop off).take ti.size) K
    | _ => False
  | .l (.adrr _ ks y off) => sized ti.size (((Tup.lvs ks y).drop off).take ti.size) K
  | .l (.adre id ix off esz) => match hid id with
    | some (.row (.sl _ ks) xs) => match Nat.beq ks.length esz with
      | true => ∃ y, xs[ix]? = some y ∧ sized ti.size (((Tup.lvs ks y).drop off).take ti.size) K
      | false => False
    | _ => False
  | .l (.pt a) => ∃ y : Tup ti.ks, RPtr R a ti.ks y ∧ K (Tup.lvs ti.ks y)
  | _ => False

def splice (cs : List LV) (off : Nat) (xs : List LV) : List LV := cs.take off ++ xs ++ cs.drop (off + xs.length)

def writeAt (S : St) (x : SV) (ti : TI) (y : SV) (K : St → Prop) : Prop := match y.cells with
  | none => False
  | some ys => sized ti.size ys fun ys => okCells ys <| match x with
    | .l (.adr id off) => match S.own id with
      | true => match S.hid id with
        | some (.cells T cs) => match Nat.ble (off + ys.length) cs.length with
          | true => K (S.setHid id (some (.cells T (splice cs off ys))))
          | false => False
        | _ => False
      | false => False
    | .l (.adre id ix off esz) => match S.own id with
      | true => match S.hid id with
        | some (.row (.sl T ks) xs) => match Nat.beq ks.length esz with
          | true => match Nat.ble (off + ys.length) ks.length with
            | true => ∃ z, xs[ix]? = some z ∧ match Tup.of ks (splice (Tup.lvs ks z) off ys) with
              | some z' => K (S.setHid id (some (.row (.sl T ks) (xs.set ix z'))))
              | none => False
            | false => False
          | false => False
        | _ => False
      | false => False
    | _ => False

def LV.asBool : LV → Option Bool
  | .tt => some true
  | .ff => some false
  | .bool q => some q
  | _ => none

/-- Is it the same text? -/
def sEq (x y : ByteArray) : Bool := x.toList == y.toList
def sLt (x y : ByteArray) : Bool := Op.bytesLess x.toList y.toList

/-- '==' of two structs. -/
structure AggEq (P : Program) (t : TypeId) (xs ys : List Value) (q : Bool) : Prop where
  guard : P.eqGuardType P.depth t = false
  run : ∀ w, (Op.equalIn 10000 t (.agg xs.toArray) (.agg ys.toArray)).run P w = .ok q w
def LV.pure : LV → Option Value
  | .und => some undef
  | .int k n => some (.int k n)
  | .bool q => some (.bool q)
  | .tt => some (.bool true)
  | .ff => some (.bool false)
  | .str x => some (.string x)
  | .sl x => some x.val
  | .nil => some (.slice none 0 0)
  | .pt a => some (.pointer a)
  | .mp r => some (.map r)
  | .ifc x => some (ifcV x)
  | .fn x => some (fnV x)
  | .adrr ad _ _ off => some (.pointer (some ⟨ad.block, ad.off + off, none⟩))
  | _ => none
def pureL : List LV → Option (List Value)
  | [] => some []
  | x :: xs => match x.pure, pureL xs with
    | some v, some vs => some (v :: vs)
    | _, _ => none
def SV.pure : SV → Option Value
  | .l x => x.pure
  | .g cs => match pureL cs with
    | some vs => some (.agg vs.toArray)
    | none => none
  | .t _ => none
def eqlOnly (op : BinOp) (q : Bool) (K : SV → Prop) : Prop := match op with
  | .eql => K (.l (.bool q))
  | .neq => K (.l (.bool (!q)))
  | _ => False
def isSl (cx : Cx) (t : TypeId) : Bool := match cx.tbl t with
  | some ti => match ti.u with | .slice _ => true | _ => false
  | none => false
def isStr (cx : Cx) (t : TypeId) : Bool := match cx.tbl t with
  | some ti => match ti.u with | .str => true | _ => false
  | none => false
def isPt (cx : Cx) (t : TypeId) : Bool := match cx.tbl t with
  | some ti => match ti.u with | .ptr _ => true | _ => false
  | none => false
def isIfc (cx : Cx) (t : TypeId) : Bool := match cx.tbl t with
  | some ti => match ti.u with | .ifc => true | _ => false
  | none => false
def isBool (cx : Cx) (t : TypeId) : Bool := match cx.tbl t with
  | some ti => match ti.u with | .bool => true | _ => false
  | none => false

/-- An operation on two values. -/
def evBin (cx : Cx) (t : TypeId) (op : BinOp) (x y : SV) (K : SV → Prop) : Prop := match x, y with
  | .l (.int k m), .l (.int k' n) => match op with
    | .shl => 0 ≤ n ∧ K (.l (.int k (k.wrap (m * 2 ^ min n.toNat k.bits))))
    | .shr => 0 ≤ n ∧ K (.l (.int k (m.fdiv (2 ^ min n.toNat k.bits))))
    | op => if k = k' then (match op with
      | .add => K (.l (.int k (k.wrap (m + n))))
      | .sub => K (.l (.int k (k.wrap (m - n))))
      | .mul => K (.l (.int k (k.wrap (m * n))))
      | .quo => n ≠ 0 ∧ K (.l (.int k (k.wrap (m.tdiv n))))
      | .rem => n ≠ 0 ∧ K (.l (.int k (m.tmod n)))
      | .and => K (.l (.int k (k.wrap (BitVec.ofInt k.bits m &&& BitVec.ofInt k.bits n).toNat)))
      | .or => K (.l (.int k (k.wrap (BitVec.ofInt k.bits m ||| BitVec.ofInt k.bits n).toNat)))
      | .xor => K (.l (.int k (k.wrap (BitVec.ofInt k.bits m ^^^ BitVec.ofInt k.bits n).toNat)))
      | .eql => K (.l (.bool (m == n)))
      | .neq => K (.l (.bool (m != n)))
      | .lss => K (.l (.bool (decide (m < n))))
      | .leq => K (.l (.bool (decide (m ≤ n))))
      | .gtr => K (.l (.bool (decide (m > n))))
      | .geq => K (.l (.bool (decide (m ≥ n))))
      | _ => False) else False
  | .l (.str a), .l (.str b) => match op with
    | .add => a.size + b.size ≤ 9223372036854775807 ∧ K (.l (.str (a ++ b)))
    | .eql => K (.l (.bool (sEq a b)))
    | .neq => K (.l (.bool (!sEq a b)))
    | .lss => K (.l (.bool (sLt a b)))
    | .geq => K (.l (.bool (!sLt a b)))
    | _ => False
  | .l (.sl a), .l .nil => match isSl cx t with
    | true => eqlOnly op a.a.isNone K
    | false => False
  | .l (.pt a), .l (.pt b) => match b with
    | none => match isPt cx t with
      | true => eqlOnly op a.isNone K
      | false => False
    | some _ => False
  | .l (.ifc a), .l (.ifc b) => match b with
    | none => match isIfc cx t with
      | true => eqlOnly op a.isNone K
      | false => False
    | some _ => False
  | .g a, .g b => match pureL a, pureL b with
    | some vs, some us => ∃ q, AggEq cx.P t vs us q ∧ eqlOnly op q K
    | _, _ => False
  | .l a, .l b => match a.asBool, b.asBool with
    | some q, some q' => match isBool cx t with
      | true => eqlOnly op (q == q') K
      | false => False
    | _, _ => False
  | _, _ => False

def evUn (op : UnOp) (x : SV) (K : SV → Prop) : Prop := match op, x with
  | .not, .l .tt => K (.l .ff)
  | .not, .l .ff => K (.l .tt)
  | .not, .l (.bool q) => K (.l (.bool (!q)))
  | .neg, .l (.int k n) => K (.l (.int k (k.wrap (0 - n))))
  | .xor, .l (.int k n) => K (.l (.int k (k.wrap (BitVec.ofInt k.bits (if k.signed then -1 else k.max) ^^^ BitVec.ofInt k.bits n).toNat)))
  | _, _ => False

end Go.KE

/- The engine, part B2: the variables of loops and of what is handed over. -/
namespace Go.KE
open Go.RowKit (Below)

def castX {ks ks' : List Kd} (h : ks = ks') (xs : List (Tup ks)) : List (Tup ks') := h ▸ xs
def castR {rt rt' : RT} (h : rt = rt') (xs : List (Tup rt.ks)) : List (Tup rt'.ks) := h ▸ xs
/-- What lies in a row of this kind. -/
def rowIn (hid : Nat → Option HB) (rt : RT) (id : Nat) : Option (List (Tup rt.ks)) := match hid id with
  | some (.row rt' xs) => if h : rt' = rt then some (castR h xs) else none
  | _ => none

def LI.Den : LI → Type
  | .tmp _ k => k.Den
  | .row _ rt => List (Tup rt.ks)
  | .cell _ _ k => k.Den
  | .crow _ _ rt => List (Tup rt.ks)
  | .cadr _ _ => Unit
  | .cfn _ _ _ => Unit
abbrev LTup : List LI → Type
  | [] => Unit
  | [i] => i.Den
  | i :: i' :: is => i.Den × LTup (i' :: is)
/-- The number under which a loop's own slice goes. -/
def crowId (id off : Nat) : Nat := 100000 + id * 100 + off

def LI.get (S : St) : (i : LI) → Option i.Den
  | .tmp t k => match S.env t with
    | .l x => x.den k
    | _ => none
  | .row t rt => match S.env t with
    | .l x => (match rowSrc rt x with
      | some none => some ([] : List (Tup rt.ks))
      | some (some id) => rowIn S.hid rt id
      | none => none)
    | _ => none
  | .cell id off k => match S.hid id with
    | some (.cells _ cs) => match cs[off]? with
      | some x => x.den k
      | none => none
    | _ => none
  | .crow id off rt => match S.hid id with
    | some (.cells _ cs) => match cs[off]? with
      | some x => (match rowSrc rt x with
        | some none => some ([] : List (Tup rt.ks))
        | some (some id') => rowIn S.hid rt id'
        | none => none)
      | none => none
    | _ => none
  | .cadr id off => match S.hid id with
    | some (.cells _ cs) => match cs[off]? with
      | some (.adr j o) => match Nat.beq j (crowId id off) && Nat.beq o 0 with
        | true => some ()
        | false => none
      | _ => none
    | _ => none
  | .cfn id off f => match S.hid id with
    | some (.cells _ cs) => match cs[off]? with
      | some (.clo g [(j, o)]) => match Nat.beq g f && Nat.beq j (crowId id off) && Nat.beq o 0 with
        | true => some ()
        | false => none
      | _ => none
    | _ => none
def getX (S : St) : (is : List LI) → Option (LTup is)
  | [] => some ()
  | [i] => i.get S
  | i :: i' :: is => match i.get S, getX S (i' :: is) with
    | some d, some ds => some (d, ds)
    | _, _ => none

/-- A slot at a loop's head. -/
def envX (old : SV) (t : Nat) : (is : List LI) → LTup is → SV
  | [], _ => old
  | [i], x => match i, x with
    | .tmp u k, d => match Nat.beq u t with | true => .l (k.lv d) | false => old
    | .row u rt, _ => match Nat.beq u t with | true => .l (rt.lv u) | false => old
    | _, _ => old
  | i :: i' :: is, x => match i, x.1 with
    | .tmp u k, d => match Nat.beq u t with | true => .l (k.lv d) | false => envX old t (i' :: is) x.2
    | .row u rt, _ => match Nat.beq u t with | true => .l (rt.lv u) | false => envX old t (i' :: is) x.2
    | _, _ => envX old t (i' :: is) x.2
def rowX (old : Option HB) (j : Nat) : (is : List LI) → LTup is → Option HB
  | [], _ => old
  | [i], x => match i, x with
    | .row u rt, d => match Nat.beq u j with | true => some (.row rt d) | false => old
    | .crow id off rt, d => match Nat.beq (crowId id off) j with | true => some (.row rt d) | false => old
    | _, _ => old
  | i :: i' :: is, x => match i, x.1 with
    | .row u rt, d => match Nat.beq u j with | true => some (.row rt d) | false => rowX old j (i' :: is) x.2
    | .crow id off rt, d => match Nat.beq (crowId id off) j with | true => some (.row rt d) | false => rowX old j (i' :: is) x.2
    | _, _ => rowX old j (i' :: is) x.2
def cellX (id off : Nat) : (is : List LI) → LTup is → LV
  | [], _ => .no
  | [i], x => match i, x with
    | .cell u o k, d => match Nat.beq u id && Nat.beq o off with | true => k.lv d | false => .no
    | .crow u o rt, _ => match Nat.beq u id && Nat.beq o off with | true => rt.lv (crowId u o) | false => .no
    | .cadr u o, _ => match Nat.beq u id && Nat.beq o off with | true => .adr (crowId u o) 0 | false => .no
    | .cfn u o f, _ => match Nat.beq u id && Nat.beq o off with | true => .clo f [(crowId u o, 0)] | false => .no
    | _, _ => .no
  | i :: i' :: is, x => match i, x.1 with
    | .cell u o k, d => match Nat.beq u id && Nat.beq o off with | true => k.lv d | false => cellX id off (i' :: is) x.2
    | .crow u o rt, _ => match Nat.beq u id && Nat.beq o off with | true => rt.lv (crowId u o) | false => cellX id off (i' :: is) x.2
    | .cadr u o, _ => match Nat.beq u id && Nat.beq o off with | true => .adr (crowId u o) 0 | false => cellX id off (i' :: is) x.2
    | .cfn u o f, _ => match Nat.beq u id && Nat.beq o off with | true => .clo f [(crowId u o, 0)] | false => cellX id off (i' :: is) x.2
    | _, _ => cellX id off (i' :: is) x.2
def cellsX (id : Nat) (is : List LI) (x : LTup is) : Nat → Nat → List LV
  | _, 0 => []
  | off, n + 1 => cellX id off is x :: cellsX id is x (off + 1) n

def isRowOf (j : Nat) : List LI → Bool
  | [] => false
  | .row u _ :: is => match Nat.beq u j with | true => true | false => isRowOf j is
  | .crow id off _ :: is => match Nat.beq (crowId id off) j with | true => true | false => isRowOf j is
  | _ :: is => isRowOf j is
def blkOf (j : Nat) : List (Nat × TypeId × Nat) → Option (TypeId × Nat)
  | [] => none
  | (u, T, n) :: bs => match Nat.beq u j with | true => some (T, n) | false => blkOf j bs
end Go.KE

/- The engine, part B3: what is handed over to a call. -/
namespace Go.KE
open Go.RowKit (Below)

def flat (ks : List Kd) (xs : List (Tup ks)) : List Value := xs.flatMap (Tup.enc ks)
def HB.blk (bs : Bs) (j : Nat) : HB → Option Nat
  | .cells _ _ => some (bs j).blk
  | .row (.sl _ _) _ => (bs j).sl.a.map (·.block)
  | .row (.mp _) _ => some (bs j).blk
def HBok (w : World) (bs : Bs) (j : Nat) : HB → Prop
  | .cells T cs => ∃ vs, FitsL bs cs vs ∧ w.heap[(bs j).blk]? = some (.cells vs.toArray T (0, 0))
  | .row (.sl T ks) xs => ((bs j).sl = ⟨none, 0, 0⟩ ∧ xs = []) ∨ ∃ b rest, (bs j).sl.a = some ⟨b, 0, none⟩ ∧ (bs j).sl.len = xs.length ∧
      w.heap[b]? = some (.cells (flat ks xs ++ rest).toArray T (0, 0)) ∧ (flat ks xs ++ rest).length = (bs j).sl.cap * ks.length ∧ xs.length ≤ (bs j).sl.cap
  | .row (.mp ks) xs => ∃ es clock, w.heap[(bs j).blk]? = some (.map es clock) ∧ es.toList.map (fun e => [e.key, e.val]) = xs.map (Tup.enc ks)

/-- An address of what is read alone is right. -/
def LV.adrOk (R : Hp) : LV → Prop
  | .adrr ad ks y _ => ad.spot = none ∧ RCells R ad.block ad.off (Tup.enc ks y)
  | _ => True
structure LV.good (A : Nat → Prop) (R : Hp) (x : LV) : Prop where
  live : ∀ id, x.says id = true → A id
  adr : x.adrOk R
def SV.leaves : SV → List LV
  | .l x => [x]
  | .g cs => cs
  | .t cs => cs.flatMap (·.2)
def SV.good (A : Nat → Prop) (R : Hp) (x : SV) : Prop := ∀ c ∈ x.leaves, c.good A R
def Alive (S : St) (id : Nat) : Prop := S.hid id ≠ none
def envOf (args : List SV) (t : Nat) : SV := match args[t]? with
  | some x => x
  | none => .l .und

def PB : Nat := 1000
def RB : Nat := 2000
def argBlks : Nat → List XA → List (Nat × TypeId × Nat)
  | _, [] => []
  | j, .adr T n :: as => (PB + j, T, n) :: argBlks (j + 1) as
  | j, _ :: as => argBlks (j + 1) as
def kidBlks : List (Nat × Nat × TypeId × Nat) → List (Nat × TypeId × Nat)
  | [] => []
  | (u, off, T, n) :: ks => (crowId u off, T, n) :: kidBlks ks
def resBlks : Nat → List XR → List (Nat × TypeId × Nat)
  | _, [] => []
  | j, .adr T n :: as => (RB + j, T, n) :: resBlks (j + 1) as
  | j, _ :: as => resBlks (j + 1) as
def XS.inB (s : XS) : List (Nat × TypeId × Nat) := argBlks 0 s.args ++ kidBlks s.kids
def XS.outB (s : XS) : List (Nat × TypeId × Nat) := argBlks 0 s.args ++ kidBlks s.okids ++ resBlks 0 s.res
/-- What lies in the blocks. -/
def objX (blks : List (Nat × TypeId × Nat)) (is : List LI) (d : LTup is) (j : Nat) : Option HB := rowX (match blkOf j blks with
  | some (T, n) => some (.cells T (cellsX j is d 0 n))
  | none => none) j is d
/-- A world in which these blocks lie. -/
structure ObjI (w : World) (bs : Bs) (hid : Nat → Option HB) (R : Hp) : Prop where
  hb : ∀ j h, hid j = some h → HBok w bs j h
  sep : ∀ j h b, hid j = some h → h.blk bs j = some b → R b = none
  dis : ∀ i j h h' b, i ≠ j → hid i = some h → hid j = some h' → h.blk bs i = some b → h'.blk bs j = some b → False
  goodc : ∀ j T cs, hid j = some (.cells T cs) → ∀ c ∈ cs, c.good (fun id => hid id ≠ none) R
/-- What a call may turn. -/
structure XFrame (w w1 : World) (R R' : Hp) (bs bs' : Bs) (hin hout : Nat → Option HB) : Prop where
  os : w1.os = w.os
  tape : w1.tape = w.tape
  output : w1.output = w.output
  size : w.heap.size ≤ w1.heap.size
  block : ∀ b, b < w.heap.size → (∀ j h, hin j = some h → h.blk bs j ≠ some b) → w1.heap[b]? = w.heap[b]?
  new : ∀ b o, R' b = some o → R b = some o ∨ w.heap.size ≤ b ∨ ∃ j h, hin j = some h ∧ h.blk bs j = some b
  out : ∀ j h b, hout j = some h → h.blk bs' j = some b → w.heap.size ≤ b ∨ ∃ j' h', hin j' = some h' ∧ h'.blk bs j' = some b
  stay : ∀ j T cs T' cs', hin j = some (.cells T cs) → hout j = some (.cells T' cs') → (bs' j).blk = (bs j).blk
/-- The values that come back. -/
def resVals (bs : Bs) : Nat → List XR → List (Option Value) → List Value
  | j, .pure _ :: rs, some v :: vs => v :: resVals bs (j + 1) rs vs
  | j, .row rt :: rs, _ :: vs => (rt.lv (RB + j)).conc bs :: resVals bs (j + 1) rs vs
  | j, .adr _ _ :: rs, _ :: vs => (LV.adr (RB + j) 0).conc bs :: resVals bs (j + 1) rs vs
  | _, _, _ => []
def oneV : List Value → Value
  | [v] => v
  | vs => .tuple vs.toArray
/-- A call as an operation makes it: of a function that has a body, or of one that is given. -/
def CallP (P : Program) (f : FuncId) (args : Array Value) (w : World) (R : Ending → World → Prop) : Prop :=
  (∃ f' args', (callFunc f args).run P w = .ok (.enter f' args') w ∧ Calls P f' args' w R) ∨ ∃ v w', (callFunc f args).run P w = .ok (.value v) w' ∧ R (.returned v) w'
theorem CallP.mono {P : Program} {f : FuncId} {args : Array Value} {w : World} {R R' : Ending → World → Prop} (h : CallP P f args w R) (hr : ∀ e w, R e w → R' e w) : CallP P f args w R' :=
  h.imp (fun ⟨f', args', h1, h2⟩ => ⟨f', args', h1, h2.mono hr⟩) fun ⟨v, w', h1, h2⟩ => ⟨v, w', h1, hr _ _ h2⟩
/-- A call to which own things are handed over. -/
structure CallsX (P : Program) (f : FuncId) (sig : XS) (svs : List SV) (d : LTup sig.ins) (R : Hp) (K : List (Option Value) → LTup sig.outs → Hp → Prop) : Prop where
  run : ∀ (w : World) (bs : Bs), Sees R w → ObjI w bs (objX sig.inB sig.ins d) R → (∀ x ∈ svs, x.good (fun id => objX sig.inB sig.ins d id ≠ none) R) →
    CallP P f (svs.map (SV.conc bs)).toArray w fun e w1 => ∃ rs d' R' bs', K rs d' R' ∧ e = .returned (oneV (resVals bs' 0 sig.res rs)) ∧ rs.length = sig.res.length ∧ R.le R' ∧ Sees R' w1 ∧ ObjI w1 bs' (objX sig.outB sig.outs d') R' ∧
      XFrame w w1 R R' bs bs' (objX sig.inB sig.ins d) (objX sig.outB sig.outs d')
theorem CallsX.mono {P : Program} {f : FuncId} {sig : XS} {svs : List SV} {d : LTup sig.ins} {R : Hp} {K K' : List (Option Value) → LTup sig.outs → Hp → Prop} (h : CallsX P f sig svs d R K) (hk : ∀ rs d' R', R.le R' → K rs d' R' → K' rs d' R') : CallsX P f sig svs d R K' :=
  ⟨fun w bs h1 h2 h3 => (h.run w bs h1 h2 h3).mono fun e w1 ⟨rs, d', R', bs', k, a, l, r, rest⟩ => ⟨rs, d', R', bs', hk rs d' R' r k, a, l, r, rest⟩⟩
end Go.KE

/- The engine, part B4: things are given other numbers. -/
namespace Go.KE
open Go.RowKit (Below)

def memB (x : Nat) : List Nat → Bool
  | [] => false
  | y :: ys => match Nat.beq y x with | true => true | false => memB x ys
def allB (f : Nat → Bool) : List Nat → Bool
  | [] => true
  | x :: xs => match f x with | true => allB f xs | false => false
def nodupB : List Nat → Bool
  | [] => true
  | x :: xs => match memB x xs with | true => false | false => nodupB xs
/-- Which slice of the call's own lies in a loop's variable. -/
def LI.src (S : St) : LI → Option Nat
  | .row t rt => match S.env t with
    | .l x => (match rowSrc rt x with
      | some (some id) => some id
      | _ => none)
    | _ => none
  | .crow id off rt => match S.hid id with
    | some (.cells _ cs) => match cs[off]? with
      | some x => (match rowSrc rt x with
        | some (some id') => some id'
        | _ => none)
      | _ => none
    | _ => none
  | _ => none
def hasSrc (S : St) (i : LI) : Bool := match i.src S with
  | some _ => true
  | none => false
def srcs (S : St) : List LI → List Nat
  | [] => []
  | i :: is => match i.src S with
    | some id => id :: srcs S is
    | none => srcs S is
def okSrcs (S : St) : List Nat → Bool
  | [] => true
  | id :: ids => match S.own id && S.anew id && !memB id ids with | true => okSrcs S ids | false => false
def okRows (S : St) (h : LH) (asg : List Nat) : List LI → Bool
  | [] => true
  | .tmp t _ :: is => match memB t asg with | true => okRows S h asg is | false => false
  | .row u rt :: is => match (memB u asg || hasSrc S (.row u rt)) && S.own u && S.anew u && (match blkOf u h.blks with | none => true | some _ => false) with | true => okRows S h asg is | false => false
  | .cadr id off :: is => match blkOf (crowId id off) h.blks with | some _ => okRows S h asg is | none => false
  | .cfn id off _ :: is => match blkOf (crowId id off) h.blks with | some _ => okRows S h asg is | none => false
  | .crow id off _ :: is => match S.own (crowId id off) && S.anew (crowId id off) && (match blkOf (crowId id off) h.blks with | none => true | some _ => false) with | true => okRows S h asg is | false => false
  | _ :: is => okRows S h asg is
def rowNums : List LI → List Nat
  | [] => []
  | .row u _ :: is => u :: rowNums is
  | .crow id off _ :: is => crowId id off :: rowNums is
  | _ :: is => rowNums is

def LV.saysP (f : Nat → Bool) : LV → Bool
  | .adr j _ | .row j | .view j _ _ _ | .adre j _ _ _ | .omap j => f j
  | .clo _ cap => cap.any fun x => f x.1
  | _ => false
def SV.saysP (f : Nat → Bool) : SV → Bool
  | .l x => x.saysP f
  | .g cs => cs.any (LV.saysP f)
  | .t cs => cs.any fun x => x.2.any (LV.saysP f)
/-- A list of names and numbers: what has which name; what is named how. -/
def lk : List (Nat × Nat) → Nat → Option Nat
  | [], _ => none
  | (u, i) :: m, v => match Nat.beq u v with | true => some i | false => lk m v
def bk : List (Nat × Nat) → Nat → Option Nat
  | [], _ => none
  | (u, i) :: m, j => match Nat.beq i j with | true => some u | false => bk m j
def renCap (b : Nat → Option Nat) : List (Nat × Nat) → Option (List (Nat × Nat))
  | [] => some []
  | (j, o) :: cs => match b j, renCap b cs with
    | some i, some cs => some ((i, o) :: cs)
    | _, _ => none
def LV.ren (b : Nat → Option Nat) : LV → LV
  | .adr j o => match b j with | some i => .adr i o | none => .no
  | .row j => match b j with | some i => .row i | none => .no
  | .view j lo hi e => match b j with | some i => .view i lo hi e | none => .no
  | .adre j x o e => match b j with | some i => .adre i x o e | none => .no
  | .omap j => match b j with | some i => .omap i | none => .no
  | .clo f cap => match renCap b cap with | some cap => .clo f cap | none => .no
  | x => x
def SV.ren (b : Nat → Option Nat) : SV → SV
  | .l x => .l (x.ren b)
  | .g cs => .g (cs.map (LV.ren b))
  | .t cs => .t (cs.map fun c => (c.1, c.2.map (LV.ren b)))
def HB.ren (b : Nat → Option Nat) : HB → HB
  | .cells T cs => .cells T (cs.map (LV.ren b))
  | .row rt xs => .row rt xs
/-- The blocks that hang in cells of blocks. -/
def asKids (hid : Nat → Option HB) : List (Nat × Nat × TypeId × Nat) → List (Nat × Nat) → Option (List (Nat × Nat))
  | [], m => some m
  | (u, off, _, _) :: ks, m => match lk m u with
    | some id => match hid id with
      | some (.cells _ cs) => match cs[off]? with
        | some (.adr id' o) => (match Nat.beq o 0 with | true => asKids hid ks ((crowId u off, id') :: m) | false => none)
        | some (.clo _ [(id', o)]) => (match Nat.beq o 0 with | true => asKids hid ks ((crowId u off, id') :: m) | false => none)
        | _ => none
      | _ => none
    | none => none
/-- The slices that hang in cells of blocks. -/
def asRows (hid : Nat → Option HB) : List LI → List (Nat × Nat) → List (Nat × Nat)
  | [], m => m
  | .crow u off rt :: is, m => match lk m u with
    | some id => match hid id with
      | some (.cells _ cs) => match cs[off]? with
        | some x => (match rowSrc rt x with
          | some (some id') => asRows hid is ((crowId u off, id') :: m)
          | _ => asRows hid is m)
        | none => asRows hid is m
      | _ => asRows hid is m
    | none => asRows hid is m
  | _ :: is, m => asRows hid is m
/-- A part of the state, under names. -/
def subSt (m : List (Nat × Nat)) (hid : Nat → Option HB) (venv : Nat → LV) : St :=
  { env := fun t => .l ((venv t).ren (bk m))
    hid := fun u => match lk m u with
      | some id => (match hid id with | some h => some (h.ren (bk m)) | none => none)
      | none => none
    own := fun _ => true
    anew := fun _ => true }
/-- The names of what the arguments are. -/
def argRoots : Nat → List XA → List SV → Option (List (Nat × Nat))
  | _, [], [] => some []
  | j, .adr _ _ :: as, .l (.adr id o) :: xs => match Nat.beq o 0, argRoots (j + 1) as xs with
    | true, some m => some ((PB + j, id) :: m)
    | _, _ => none
  | j, .row rt :: as, .l x :: xs => match rowSrc rt x with
    | some (some id) => (match argRoots (j + 1) as xs with
      | some m => some ((PB + j, id) :: m)
      | none => none)
    | some none => argRoots (j + 1) as xs
    | none => none
  | j, .pure :: as, x :: xs => match x.pure with
    | some _ => argRoots (j + 1) as xs
    | none => none
  | j, .frz :: as, x :: xs => match x.pure with
    | some _ => argRoots (j + 1) as xs
    | none => none
  | _, _, _ => none
/-- The arguments as the callee finds them. -/
def argSVs : Nat → List XA → List SV → List SV
  | j, .adr _ _ :: as, _ :: xs => .l (.adr (PB + j) 0) :: argSVs (j + 1) as xs
  | j, .row rt :: as, _ :: xs => .l (rt.lv (PB + j)) :: argSVs (j + 1) as xs
  | j, _ :: as, x :: xs => x :: argSVs (j + 1) as xs
  | _, _, _ => []
def argEnv (base : Nat) (xs : List SV) (t : Nat) : LV := match Nat.ble base t with
  | true => (match xs[t - base]? with | some (.l x) => x | _ => .no)
  | false => .no
/-- Are the blocks as they are told? -/
def okShape (hid : Nat → Option HB) : List (Nat × TypeId × Nat) → Bool
  | [] => true
  | (u, T, n) :: bs => match hid u with
      | some (.cells T' cs) => match Nat.beq T' T && Nat.beq cs.length n with | true => okShape hid bs | false => false
      | _ => false
def okNames (m : List (Nat × Nat)) : Bool := nodupB (m.map (·.1)) && nodupB (m.map (·.2))
/-- All that is handed over may be written and bound anew. -/
def okOwn (S : St) : List (Nat × Nat) → Bool
  | [] => true
  | (_, id) :: m => match S.own id && S.anew id with | true => okOwn S m | false => false
/-- The state in which nothing lies. -/
def S00 : St := ⟨fun _ => .l .no, fun _ => none, fun _ => true, fun _ => true⟩
def okSig (blks : List (Nat × TypeId × Nat)) (is : List LI) : Bool := okRows S00 ⟨is, blks⟩ (rowNums is) is && nodupB (rowNums is)
def rowEnv (is : List LI) (venv : Nat → LV) (t : Nat) : LV := match memB t (rowNums is) with
  | true => venv t
  | false => .no
/-- What is handed over, as it is told: under names, in its form. -/
def canonX (m : List (Nat × Nat)) (hid : Nat → Option HB) (venv : Nat → LV) (blks : List (Nat × TypeId × Nat)) (is : List LI) : Option (LTup is) :=
  match okNames m && okSig blks is && okShape (subSt m hid (rowEnv is venv)).hid blks && okSrcs (subSt m hid (rowEnv is venv)) (srcs (subSt m hid (rowEnv is venv)) is) with
  | true => getX (subSt m hid (rowEnv is venv)) is
  | false => none
end Go.KE

/- The engine, part C: operations, regions, code. -/
namespace Go.KE
open Go.RowKit (Below)

def pureSs : List SV → Option (List Value)
  | [] => some []
  | x :: xs => match x.pure, pureSs xs with
    | some v, some vs => some (v :: vs)
    | _, _ => none

/-- A slice of the call's own is handed out: from now on it is read alone. -/
structure Frz (R R' : Hp) (s : Sl) (ks : List Kd) (xs : List (Tup ks)) : Prop where
  le : R.le R'
  sl : RSlice R' s ks xs
  new : ∀ b o, R' b = some o → R b = some o ∨ ∃ a, s.a = some a ∧ a.block = b
  own : ∀ a, s.a = some a → R a.block = none ∧ a.off = 0 ∧ a.spot = none
  nil : s.a = none → s.len = 0 ∧ s.cap = 0

def Sl.from (s : Sl) (lo hi esz : Nat) : Sl := ⟨if s.cap = lo then s.a else s.a.map (·.add (lo * esz)), hi - lo, s.cap - lo⟩
def LV.frz (id : Nat) (s : Sl) (x : LV) : LV := match x with
  | .row j => match Nat.beq j id with | true => .sl s | false => x
  | .view j lo hi esz => match Nat.beq j id with | true => .sl (s.from lo hi esz) | false => x
  | x => match x.says id with | true => .no | false => x
def SV.frz (id : Nat) (s : Sl) : SV → SV
  | .l x => .l (x.frz id s)
  | .g cs => .g (cs.map (LV.frz id s))
  | .t cs => .t (cs.map fun c => (c.1, c.2.map (LV.frz id s)))
def St.frz (S : St) (id : Nat) (s : Sl) : St :=
  { S with
    env := fun t => (S.env t).frz id s
    hid := fun j => match Nat.beq j id with
      | true => none
      | false => match S.hid j with
        | some (.cells T cs) => some (.cells T (cs.map (LV.frz id s)))
        | x => x }
def frz1 (S : St) (R : Hp) (id : Nat) (K : St → Hp → Prop) : Prop := match S.own id && S.anew id with
  | true => match S.hid id with
    | some (.row (.sl _ ks) xs) => ∀ (s : Sl) (R' : Hp), Frz R R' s ks xs → K (S.frz id s) R'
    | _ => False
  | false => False
def rowL : List LV → Option Nat
  | [] => none
  | .row id :: _ => some id
  | .view id _ _ _ :: _ => some id
  | _ :: xs => rowL xs
def SV.rowIn : SV → Option Nat
  | .l x => rowL [x]
  | .g cs => rowL cs
  | .t _ => none
def rowSs : List SV → Option Nat
  | [] => none
  | x :: xs => match x.rowIn with
    | some id => some id
    | none => rowSs xs
/-- All slices of the call's own among these operands are handed out. -/
def frzOps : Nat → List Operand → St → Hp → (St → Hp → Prop) → Prop
  | 0, _, S, R, K => K S R
  | n + 1, xs, S, R, K => match rowSs (xs.map (opd S.env)) with
    | none => K S R
    | some id => frz1 S R id fun S R => frzOps n xs S R K

/-- A pure call: it writes nothing that was there; what it makes may be read. -/
structure CallsR (P : Program) (f : FuncId) (args : Array Value) (R : Hp) (K : Ending → Hp → Prop) : Prop where
  run : ∀ w : World, Sees R w → CallP P f args w fun e w1 => ∃ R', K e R' ∧ R.le R' ∧ Sees R' w1 ∧ Below w.heap.size w w1 ∧ ∀ b o, R' b = some o → R b = some o ∨ w.heap.size ≤ b

theorem CallsR.mono {P : Program} {f : FuncId} {args : Array Value} {R : Hp} {K K' : Ending → Hp → Prop} (h : CallsR P f args R K) (hk : ∀ e R', R.le R' → K e R' → K' e R') : CallsR P f args R K' :=
  ⟨fun w hw => (h.run w hw).mono fun e _ ⟨R', k, l, r⟩ => ⟨R', hk e R' l k, l, r⟩⟩

/-- A result's parts, by their types. -/
def retT (tbl : TypeId → Option TI) : List TypeId → (List Value → List (Bool × List LV) → Prop) → Prop
  | [], K => K [] []
  | t :: ts, K => match tbl t with
    | some ti => match ti.agg with
      | true => ∃ x : Tup ti.ks, retT tbl ts fun vs cs => K (.agg (Tup.enc ti.ks x).toArray :: vs) ((true, Tup.lvs ti.ks x) :: cs)
      | false => match ti.ks with
        | [k] => ∃ x : k.Den, retT tbl ts fun vs cs => K (k.enc x :: vs) ((false, [k.lv x]) :: cs)
        | _ => False
    | none => False
def svG : Bool × List LV → SV
  | (true, cs) => .g cs
  | (false, [x]) => .l x
  | (false, _) => .l .no
/-- What comes back: the results' types by number. -/
def retK (tbl : TypeId → Option TI) (ts : List TypeId) (e : Ending) (K : SV → Prop) : Prop := match ts with
  | [t] => retT tbl [t] fun vs cs => e = .returned (vs.getD 0 undef) ∧ K (svG (cs.getD 0 (false, [])))
  | ts => retT tbl ts fun vs cs => e = .returned (.tuple vs.toArray) ∧ K (.t cs)

def elemOfT (cx : Cx) (t : TypeId) (K : TypeId → TI → Prop) : Prop := match cx.tbl t with
  | some ti => match ti.u with
    | .slice e => match cx.tbl e with
      | some te => K e te
      | none => False
    | _ => False
  | none => False
def fieldOfT (cx : Cx) (t : TypeId) (f : Nat) (K : List Kd → TI → Nat → Prop) : Prop := match cx.tbl t with
  | some ti => match ti.u with
    | .struct fs => match fs[f]? with
      | some (ft, off) => match cx.tbl ft with
        | some tf => (match Nat.ble 1 tf.size with | true => K ti.ks tf off | false => False)
        | none => False
      | none => False
    | _ => False
  | none => False
def typeT (cx : Cx) (t : TypeId) (K : TI → Prop) : Prop := match cx.tbl t with
  | some ti => K ti
  | none => False

/-- The elements that a source holds. -/
def srcOf (hid : Nat → Option HB) (R : Hp) (x : SV) (te : TI) (K : List (Tup te.ks) → Prop) : Prop := match x with
  | .l .nil => K []
  | .l (.row id) => match hid id with
    | some (.row (.sl _ ks) xs) => if h : ks = te.ks then K (castX h xs) else False
    | _ => False
  | .l (.view id lo hi esz) => match Nat.beq esz te.size with
    | true => match hid id with
      | some (.row (.sl _ ks) xs) => if h : ks = te.ks then hi ≤ xs.length ∧ K (((castX h xs).drop lo).take (hi - lo)) else False
      | _ => False
    | false => False
  | .l (.sl s) => ∃ xs : List (Tup te.ks), RSlice R s te.ks xs ∧ K xs
  | .l (.str a) => if h : [Kd.int .u8] = te.ks then K (castX h (a.data.toList.map fun c => (c.toNat : Int))) else False
  | _ => False
/-- The slice of the call's own that is written: its number and what it holds. -/
def dstOf (S : St) (x : SV) (te : TI) (K : Nat → TypeId → List (Tup te.ks) → Prop) : Prop := match x with
  | .l (.row id) => match S.own id with
    | true => match S.hid id with
      | some (.row (.sl T ks) xs) => if h : ks = te.ks then K id T (castX h xs) else False
      | _ => False
    | false => False
  | _ => False

def isSrc (cx : Cx) (t : TypeId) : Bool := isSl cx t || isStr cx t
def roomBytes : Nat := 140737488355328

/-- 'append' to a slice of the call's own. -/
def evAppend (cx : Cx) (S : St) (R : Hp) (t u : TypeId) (x y : SV) (K : SV → St → Hp → Prop) : Prop :=
  elemOfT cx t fun e te => dstOf S x te fun id T xs => match S.anew id && isSrc cx u && Nat.ble 1 te.bytes && Nat.beq T e with
    | true => srcOf S.hid R y te fun ys => (xs.length + ys.length) * te.bytes ≤ roomBytes ∧ K (.l (.row id)) ((S.purge id).setHid id (some (.row (.sl T te.ks) (xs ++ ys)))) R
    | false => False

def evLen (cx : Cx) (t : TypeId) (hid : Nat → Option HB) (x : SV) (K : Int → Prop) : Prop := match x with
  | .l (.str a) => match isStr cx t with | true => K a.size | false => False
  | .l (.sl s) => match isSl cx t with | true => K s.len | false => False
  | .l .nil => match isSl cx t with | true => K 0 | false => False
  | .l (.row id) => match isSl cx t with
    | true => match hid id with
      | some (.row (.sl _ _) xs) => K xs.length
      | _ => False
    | false => False
  | .l (.view _ lo hi _) => match isSl cx t with | true => K ((hi - lo : Nat) : Int) | false => False
  | _ => False

def evCopy (cx : Cx) (S : St) (R : Hp) (t : TypeId) (x y : SV) (K : SV → St → Hp → Prop) : Prop :=
  elemOfT cx t fun _ te => match x with
    | .l (.view id lo hi esz) => dstOf S (.l (.row id)) te fun id T xs => srcOf S.hid R y te fun ys => hi ≤ xs.length ∧ esz = te.size ∧
      K (.l (.int .i64 (min ys.length (hi - lo) : Nat))) (S.setHid id (some (.row (.sl T te.ks) (xs.take lo ++ ys.take (hi - lo) ++ xs.drop (lo + min ys.length (hi - lo)))))) R
    | x => dstOf S x te fun id T xs => srcOf S.hid R y te fun ys =>
      K (.l (.int .i64 (min ys.length xs.length : Nat))) (S.setHid id (some (.row (.sl T te.ks) (ys.take xs.length ++ xs.drop (min ys.length xs.length))))) R

def strOf (xs : List Int) : ByteArray := ⟨(xs.map fun n => UInt8.ofNat n.toNat).toArray⟩

def evConv (cx : Cx) (hid : Nat → Option HB) (R : Hp) (s d : TypeId) (x : SV) (K : SV → Prop) : Prop := typeT cx s fun ts => typeT cx d fun td => match td.u with
  | .int k => match x, ts.u with
    | .l (.int _ n), .int _ => K (.l (.int k (k.wrap n)))
    | _, _ => False
  | .str => match ts.u with
    | .slice e => typeT cx e fun te => match te.u with
      | .int .u8 => if h : te.ks = [Kd.int .u8] then (match x with | .l (.str _) => False | x => srcOf hid R x te fun ys => K (.l (.str (strOf (castX h ys))))) else False
      | _ => False
    | _ => False
  | _ => False

/-- A literal's parts, laid into its zeros one after the other. -/
def placesL (tbl : TypeId → Option TI) : List (TypeId × Nat) → Option (List (Nat × Nat))
  | [] => some []
  | (t, off) :: fs => match tbl t, placesL tbl fs with
    | some ti, some ps => some ((off, ti.size) :: ps)
    | _, _ => none
def fillL (get : Nat → SV) (places : List (Nat × Nat)) : List LV → List (Nat × Operand) → Option (List LV)
  | cs, [] => some cs
  | cs, (i, x) :: ps => match places[i]? with
    | none => none
    | some (off, size) => match (opd get x).cells with
      | none => none
      | some ys => match Nat.beq ys.length size && Nat.ble (off + ys.length) cs.length with
        | true => fillL get places (splice cs off ys) ps
        | false => none
def fillE (get : Nat → SV) (ks : List Kd) : List (Tup ks) → List (Nat × Operand) → Option (List (Tup ks))
  | xs, [] => some xs
  | xs, (i, x) :: ps => match (opd get x).cells with
    | none => none
    | some ys => match Tup.of ks ys with
      | none => none
      | some y => match Nat.blt i xs.length with
        | true => fillE get ks (xs.set i y) ps
        | false => none

def sAt (s : ByteArray) (n : Int) (c : UInt8) : Prop := 0 ≤ n ∧ s.data[n.toNat]? = some c

def optInt (x : Option SV) (dflt : Int) (K : Int → Prop) : Prop := match x with
  | none => K dflt
  | some (.l (.int _ n)) => K n
  | some _ => False

def evSlice (cx : Cx) (hid : Nat → Option HB) (t : TypeId) (x : SV) (lo hi : Option SV) (K : SV → Prop) : Prop := match x with
  | .l (.str a) => match isStr cx t with
    | true => optInt lo 0 fun l => optInt hi a.size fun h => 0 ≤ l ∧ l ≤ h ∧ h ≤ a.size ∧ K (.l (.str (a.extract l.toNat h.toNat)))
    | false => False
  | .l (.sl s) => elemOfT cx t fun _ te => optInt lo 0 fun l => optInt hi s.len fun h => 0 ≤ l ∧ l ≤ h ∧ h ≤ s.cap ∧ K (.l (.sl (s.from l.toNat h.toNat te.size)))
  | .l (.row id) => elemOfT cx t fun _ te => match hid id with
    | some (.row (.sl _ _) xs) => match lo with
      | none => False
      | some lo => optInt (some lo) 0 fun l => optInt hi xs.length fun h => 0 ≤ l ∧ l ≤ h ∧ h ≤ xs.length ∧ K (.l (.view id l.toNat h.toNat te.size))
    | _ => False
  | _ => False
/-- 'x[:h]' of a slice of the call's own: it is cut. -/
def evTrunc (S : St) (id : Nat) (hi : Option SV) (K : SV → St → Prop) : Prop := match S.own id && S.anew id with
  | true => match S.hid id with
    | some (.row (.sl T ks) xs) => optInt hi xs.length fun h => 0 ≤ h ∧ h ≤ xs.length ∧ K (.l (.row id)) ((S.purge id).setHid id (some (.row (.sl T ks) (xs.take h.toNat))))
    | _ => False
  | false => False

/-- An array's length and what it is made of. -/
def arrT (cx : Cx) (t : TypeId) : Option (Nat × TI) := match cx.tbl t with
  | some ti => match ti.u with
    | .arr n e => match cx.tbl e with
      | some te => some (n, te)
      | none => none
    | _ => none
  | none => none
/-- Addresses of the call's own blocks that a function value holds. -/
def capsOf : List SV → Option (List (Nat × Nat))
  | [] => some []
  | .l (.adr id off) :: xs => match capsOf xs with
    | some cs => some ((id, off) :: cs)
    | none => none
  | _ => none
/-- The kinds of a map's keys and values: one cell each. -/
def mapOfT (cx : Cx) (t : TypeId) (K : Kd → Kd → Prop) : Prop := match cx.tbl t with
  | some ti => match ti.u with
    | .map k e => match cx.tbl k, cx.tbl e with
      | some tk, some te => (match tk.u, tk.ks, te.agg, te.ks with
        | .int _, [.int k], false, [kv] => K (.int k) kv
        | .str, [.str], false, [kv] => K .str kv
        | .bool, [.bool], false, [kv] => K .bool kv
        | _, _, _, _ => False)
      | _, _ => False
    | _ => False
  | none => False
def Kd.keq : (k : Kd) → k.Den → k.Den → Bool
  | .int _, a, b => decide ((a : Int) = b)
  | .bool, a, b => (a : Bool) == b
  | .str, a, b => decide ((a : ByteArray) = b)
  | _, _, _ => false
/-- What a map holds at a key. -/
def mGet (kk kv : Kd) (k : kk.Den) : List (kk.Den × kv.Den) → Option kv.Den
  | [] => none
  | p :: ps => match kk.keq k p.1 with
    | true => some p.2
    | false => mGet kk kv k ps
def mSet (kk kv : Kd) (k : kk.Den) (v : kv.Den) : List (kk.Den × kv.Den) → List (kk.Den × kv.Den)
  | [] => [(k, v)]
  | p :: ps => match kk.keq k p.1 with
    | true => (k, v) :: ps
    | false => p :: mSet kk kv k v ps
/-- A map of the call's own: what it holds. -/
def mapIn (hid : Nat → Option HB) (id : Nat) (kk kv : Kd) (K : List (kk.Den × kv.Den) → Prop) : Prop := match hid id with
  | some (.row (.mp ks) xs) => if h : ks = [kk, kv] then K (castX h xs) else False
  | _ => False
def denT (k : Kd) (x : SV) (K : k.Den → Prop) : Prop := match x with
  | .l x => (match x.den k with
    | some d => K d
    | none => False)
  | _ => False
def evUpdate (cx : Cx) (S : St) (t : TypeId) (m k v : SV) (K : St → Prop) : Prop := match m with
  | .l (.omap id) => mapOfT cx t fun kk kv => denT kk k fun dk => denT kv v fun dv => match S.own id with
    | true => mapIn S.hid id kk kv fun xs => K (S.setHid id (some (.row (.mp [kk, kv]) (mSet kk kv dk dv xs))))
    | false => False
  | _ => False
/-- A new block of the call's own, under its slot's number. -/
def newAt (hid : Nat → Option HB) (d : Option Nat) (K : Nat → Prop) : Prop := match d with
  | some d => match hid d with
    | none => K d
    | some _ => False
  | none => False

/-- A test for the nil interface is spelt with a constant. -/
def okNil (y : SV) (o : Operand) : Bool := match y with
  | .l (.ifc b) => match b with
    | none => (match o with | .const _ => true | _ => false)
    | some _ => true
  | _ => true
/-- What an operation comes to that turns nothing: its value, and the block that it makes. -/
def evP (cx : Cx) (o : Oper) (get : Nat → SV) (hid : Nat → Option HB) (R : Hp) (K : SV → Option HB → Prop) : Prop :=
  match o.op with
  | .move x => K (opd get x) none
  | .assign x => K (opd get x) none
  | .pick c a b => match opd get c with
    | .l .tt => K (opd get a) none
    | .l .ff => K (opd get b) none
    | _ => False
  | .alloc t => typeT cx t fun ti => newAt hid o.dst fun d => K (.l (.adr d 0)) (some (.cells t (ti.ks.map Kd.zlv)))
  | .box t x => typeT cx t fun ti => newAt hid o.dst fun d => match (opd get x).cells with
    | some cs => sized ti.size cs fun cs => K (.l (.adr d 0)) (some (.cells t cs))
    | none => False
  | .build t parts => typeT cx t fun ti => match ti.u with
    | .struct fs => match placesL cx.tbl fs with
      | some places => match fillL get places (ti.ks.map Kd.zlv) parts.toList with
        | some cs => K (.g cs) none
        | none => False
      | none => False
    | _ => False
  | .buildSlice t len parts => elemOfT cx t fun e te => newAt hid o.dst fun d => match (match Nat.ble (len * te.size) 10000 with | true => fillE get te.ks (List.replicate len (Tup.zero te.ks)) parts.toList | false => none) with
    | some xs => K (.l (.row d)) (some (.row (.sl e te.ks) xs))
    | none => False
  | .load t a => typeT cx t fun ti => readAt hid R (opd get a) ti fun cs => K (packed ti cs) none
  | .nilCheck x => match opd get x with
    | .l (.adr id off) => K (.l (.adr id off)) none
    | .l (.adre id ix off esz) => K (.l (.adre id ix off esz)) none
    | .l (.adrr ad ks y off) => K (.l (.adrr ad ks y off)) none
    | .l (.pt a) => a.isSome = true ∧ K (.l (.pt a)) none
    | _ => False
  | .binOp op t x y _ => match okNil (opd get y) y with
    | true => evBin cx t op (opd get x) (opd get y) fun v => K v none
    | false => False
  | .unOp op _ x => evUn op (opd get x) fun v => K v none
  | .convert s d x => evConv cx hid R s d (opd get x) fun v => K v none
  | .makeInterface t x => match (opd get x).pure with
    | some v => cx.P.concrete t = true ∧ K (.l (.ifc (some (t, v)))) none
    | none => False
  | .makeFunc fn a b => match fn, a.toList, capsOf (b.toList.map (opd get)) with
    | .func f, [], some cap => K (.l (.clo f cap)) none
    | _, _, _ => False
  | .makeMap t r => match r with
    | none => mapOfT cx t fun kk kv => newAt hid o.dst fun d => K (.l (.omap d)) (some (.row (.mp [kk, kv]) []))
    | some _ => False
  | .lookup t x i ok => match opd get x with
    | .l (.omap id) => mapOfT cx t fun kk kv => denT kk (opd get i) fun dk => mapIn hid id kk kv fun xs => match ok with
      | true => K (.t [(false, [kv.lv ((mGet kk kv dk xs).getD kv.zero)]), (false, [.bool (mGet kk kv dk xs).isSome])]) none
      | false => K (.l (kv.lv ((mGet kk kv dk xs).getD kv.zero))) none
    | _ => False
  | .makeSlice t l c => elemOfT cx t fun e te => match opd get l, opd get c with
    | .l (.int .i64 l), .l (.int .i64 c) => newAt hid o.dst fun d => match Nat.ble 1 te.bytes with
      | true => 0 ≤ l ∧ l ≤ c ∧ c * te.bytes ≤ roomBytes ∧ K (.l (.row d)) (some (.row (.sl e te.ks) (List.replicate l.toNat (Tup.zero te.ks))))
      | false => False
    | _, _ => False
  | .slice t x lo hi mx => match mx with
    | none => evSlice cx hid t (opd get x) (lo.map (opd get)) (hi.map (opd get)) fun v => K v none
    | some _ => False
  | .fieldAddr t x f => fieldOfT cx t f fun ks _ off => match opd get x with
    | .l (.adr id o) => K (.l (.adr id (o + off))) none
    | .l (.adre id ix o esz) => K (.l (.adre id ix (o + off) esz)) none
    | .l (.adrr ad ks y o) => K (.l (.adrr ad ks y (o + off))) none
    | .l (.pt a) => ∃ y : Tup ks, RPtr R a ks y ∧ K (.l (.adrr (ptAd a) ks y off)) none
    | _ => False
  | .field t x f => fieldOfT cx t f fun _ tf off => match opd get x with
    | .g cs => sized tf.size ((cs.drop off).take tf.size) fun cs => K (packed tf cs) none
    | _ => False
  | .indexAddr t x i => match arrT cx t with
   | some (len, te) => (match opd get i with
     | .l (.int _ n) => (match opd get x with
      | .l (.pt a) => 0 ≤ n ∧ n < (len : Int) ∧ ∃ y : Tup te.ks, RPtr R (a.map fun ad => ⟨ad.block, ad.off + n.toNat * te.size, ad.spot⟩) te.ks y ∧ K (.l (.adrr (ptAd (a.map fun ad => ⟨ad.block, ad.off + n.toNat * te.size, ad.spot⟩)) te.ks y 0)) none
      | _ => False)
     | _ => False)
   | none => elemOfT cx t fun _ te => match opd get i with
    | .l (.int _ n) => match opd get x with
      | .l (.sl s) => ∃ y : Tup te.ks, RElem R s te.ks n y ∧ K (.l (.adrr (s.at n te.ks.length) te.ks y 0)) none
      | .l (.row id) => match hid id with
        | some (.row (.sl _ _) xs) => 0 ≤ n ∧ n < xs.length ∧ K (.l (.adre id n.toNat 0 te.size)) none
        | _ => False
      | .l (.view id lo hi esz) => match Nat.beq esz te.size with
        | true => match hid id with
          | some (.row (.sl _ _) xs) => hi ≤ xs.length ∧ 0 ≤ n ∧ n < ((hi - lo : Nat) : Int) ∧ K (.l (.adre id (lo + n.toNat) 0 te.size)) none
          | _ => False
        | false => False
      | _ => False
    | _ => False
  | .index t x i => match opd get x, opd get i with
    | .l (.str a), .l (.int _ n) => match isStr cx t with
      | true => ∃ c : UInt8, sAt a n c ∧ K (.l (.int .u8 c.toNat)) none
      | false => False
    | _, _ => False
  | .extract x i => match opd get x with
    | .t cs => match cs[i]? with
      | some c => K (svG c) none
      | none => False
    | _ => False
  | .call c => match c.callee with
    | .builtin b => match b, c.args.toList, c.argTypes.toList with
      | .len, [x], [t] => evLen cx t hid (opd get x) fun n => K (.l (.int .i64 n)) none
      | .append, [x, y], [t, u] => match opd get x with
        | .l .nil => elemOfT cx t fun e te => newAt hid o.dst fun d => match isSrc cx u && Nat.ble 1 te.bytes with
         | false => False
         | true => srcOf hid R (opd get y) te fun ys => ys.length * te.bytes ≤ roomBytes ∧ K (.l (.row d)) (some (.row (.sl e te.ks) ys))
        | _ => False
      | _, _, _ => False
    | _ => False
  | _ => False

/-- Behind an operation that turns nothing. -/
def St.behind (S : St) (d : Option Nat) (v : SV) (h : Option HB) : St := match h with
  | none => S.put d v
  | some h => match d with
    | some n => (S.setHid n (some h)).put d v
    | none => S.put d v

/-- What kind of operation: 0: it turns nothing and reads nothing that may be turned; 1: it reads; 2: it makes a block; 3: a call; 4: it writes. -/
def classOf (xs : FuncId → Option XS) (o : Oper) : Nat := match o.op with
  | .move _ | .assign _ | .pick _ _ _ | .build _ _ | .nilCheck _ | .binOp _ _ _ _ _ | .unOp _ _ _ | .makeInterface _ _ | .makeFunc _ _ _ | .field _ _ _ | .index _ _ _ | .extract _ _ => 0
  | .fieldAddr _ _ _ | .load _ _ | .convert _ _ _ | .indexAddr _ _ _ | .lookup _ _ _ _ => 1
  | .slice _ _ lo _ _ => match lo with | some _ => 1 | none => 4
  | .alloc _ | .box _ _ | .buildSlice _ _ _ | .makeSlice _ _ _ | .makeMap _ _ => 2
  | .call c => match c.callee with
    | .builtin b => match b, c.args.toList with
      | .len, _ => 1
      | .append, .const _ :: _ => 2
      | _, _ => 4
    | .value (.func f) => (match xs f with | some _ => 4 | none => 3)
    | _ => 4
  | _ => 4

/-- The args that are handed out. -/
def frzArgs : List XA → List Operand → List Operand
  | .frz :: as, x :: xs => x :: frzArgs as xs
  | _ :: as, _ :: xs => frzArgs as xs
  | _, _ => []
/-- Where things lie behind a call: names and numbers. -/
def outKids (m : List (Nat × Nat)) : List (Nat × Nat × TypeId × Nat) → List (Nat × Nat) → List (Nat × Nat)
  | [], o => o
  | (u, off, _, _) :: ks, o => outKids m ks ((crowId u off, match lk m (crowId u off) with
    | some i => i
    | none => (match lk o u with | some i => crowId i off | none => 0)) :: o)
def outRows (m : List (Nat × Nat)) : List LI → List (Nat × Nat) → List (Nat × Nat)
  | [], o => o
  | .crow u off _ :: is, o => outRows m is ((crowId u off, match lk m (crowId u off) with
    | some i => i
    | none => (match lk o u with | some i => crowId i off | none => 0)) :: o)
  | _ :: is, o => outRows m is o
def resName (dst : Option Nat) (k i : Nat) : Nat := match dst with
  | some d => (match k with | 1 => d | _ => 700000 + d * 100 + i)
  | none => 900000 + i
def outRes (dst : Option Nat) (k : Nat) : Nat → List XR → List (Nat × Nat)
  | _, [] => []
  | i, .pure _ :: xs => outRes dst k (i + 1) xs
  | i, _ :: xs => (RB + i, resName dst k i) :: outRes dst k (i + 1) xs
def outArgs (m : List (Nat × Nat)) : List (Nat × TypeId × Nat) → List (Nat × Nat)
  | [] => []
  | (u, _, _) :: bs => match lk m u with
    | some i => (u, i) :: outArgs m bs
    | none => outArgs m bs
def outM (sig : XS) (m : List (Nat × Nat)) (dst : Option Nat) : List (Nat × Nat) :=
  outRows m sig.outs (outKids m sig.okids (outRes dst sig.res.length 0 sig.res ++ outArgs m (argBlks 0 sig.args)))
/-- New numbers are free. -/
def okFree (hid : Nat → Option HB) (m : List (Nat × Nat)) : List (Nat × Nat) → Bool
  | [] => true
  | (_, i) :: o => match (match bk m i with | some _ => true | none => (match hid i with | none => true | some _ => false)) with
    | true => okFree hid m o
    | false => false
/-- A block of cells that stays where it is. -/
def stays (blks : List (Nat × TypeId × Nat)) (hid : Nat → Option HB) (m o : List (Nat × Nat)) (hout : Nat → Option HB) (id : Nat) : Bool := match hid id with
  | some (.cells _ _) => (match bk m id with
    | some u => (match blkOf u blks, lk o u with
      | some _, some i => (match Nat.beq i id with
        | true => (match hout u with | some (.cells _ _) => true | _ => false)
        | false => false)
      | _, _ => false)
    | none => false)
  | _ => false
/-- What may not be said any more behind a call. -/
def gone (blks : List (Nat × TypeId × Nat)) (hid : Nat → Option HB) (m o : List (Nat × Nat)) (hout : Nat → Option HB) (id : Nat) : Bool := match bk m id with
  | some _ => !(stays blks hid m o hout id)
  | none => false
def handed (m : List (Nat × Nat)) (id : Nat) : Bool := match bk m id with
  | some _ => true
  | none => false
/-- Does it speak of a block that is gone (f), or of a slice that was handed over (g)? -/
def LV.hit (f g : Nat → Bool) : LV → Bool
  | .adr j _ => f j
  | .row j | .view j _ _ _ | .adre j _ _ _ | .omap j => g j
  | .clo _ cap => cap.any fun x => f x.1
  | _ => false
def SV.hit (f g : Nat → Bool) : SV → Bool
  | .l x => x.hit f g
  | .g cs => cs.any (LV.hit f g)
  | .t cs => cs.any fun x => x.2.any (LV.hit f g)
def afterX (blks : List (Nat × TypeId × Nat)) (S : St) (m o : List (Nat × Nat)) (hout : Nat → Option HB) : St :=
  { S with
    env := fun t => match (S.env t).hit (gone blks S.hid m o hout) (handed m) with | true => .l .no | false => S.env t
    hid := fun j => match bk o j with
      | some u => (match hout u with | some h => some (h.ren (lk o)) | none => none)
      | none => match bk m j with
        | some _ => none
        | none => (match S.hid j with
          | some (.cells T cs) => some (.cells T (cs.map fun c => match c.hit (gone blks S.hid m o hout) (handed m) with | true => .no | false => c))
          | x => x) }
/-- The results, told. -/
def resX (tbl : TypeId → Option TI) (o : List (Nat × Nat)) (hout : Nat → Option HB) : Nat → List XR → (List (Option Value) → List (Bool × List LV) → Prop) → Prop
  | _, [], K => K [] []
  | i, .pure t :: xs, K => (match tbl t with
    | some ti => (match ti.agg with
      | true => ∃ x : Tup ti.ks, resX tbl o hout (i + 1) xs fun vs cs => K (some (.agg (Tup.enc ti.ks x).toArray) :: vs) ((true, Tup.lvs ti.ks x) :: cs)
      | false => (match ti.ks with
        | [k] => ∃ x : k.Den, resX tbl o hout (i + 1) xs fun vs cs => K (some (k.enc x) :: vs) ((false, [k.lv x]) :: cs)
        | _ => False))
    | none => False)
  | i, .row rt :: xs, K => (match lk o (RB + i), hout (RB + i) with
    | some j, some _ => resX tbl o hout (i + 1) xs fun vs cs => K (none :: vs) ((false, [rt.lv j]) :: cs)
    | _, _ => False)
  | i, .adr _ _ :: xs, K => (match lk o (RB + i), hout (RB + i) with
    | some j, some _ => resX tbl o hout (i + 1) xs fun vs cs => K (none :: vs) ((false, [.adr j 0]) :: cs)
    | _, _ => False)
def svRes : List (Bool × List LV) → SV
  | [(true, cs)] => .g cs
  | [(false, [x])] => .l x
  | cs => .t cs
/-- Is there a variable for this row? -/
def hasRow (j : Nat) (rt : RT) : List LI → Bool
  | [] => false
  | .row u rt' :: is => match Nat.beq u j with | true => decide (rt' = rt) | false => hasRow j rt is
  | _ :: is => hasRow j rt is
/-- Slices of the call's own that are handed over have variables. -/
def okArgsX (is : List LI) : Nat → List XA → Bool
  | _, [] => true
  | j, .row rt :: as => match hasRow (PB + j) rt is with | true => okArgsX is (j + 1) as | false => false
  | j, _ :: as => okArgsX is (j + 1) as
/-- Blocks that must stay do. -/
def okFx (fx : List Nat) (blks : List (Nat × TypeId × Nat)) (hid : Nat → Option HB) (m o : List (Nat × Nat)) (hout : Nat → Option HB) : Bool := allB (fun j => match bk o j with
  | some _ => stays blks hid m o hout j
  | none => true) fx
/-- A call to which own things are handed over. -/
def evX (cx : Cx) (f : FuncId) (sig : XS) (fops : List Operand) (args : St → Option (List SV)) (dst : Option Nat) (S : St) (R : Hp) (K : St → Hp → Prop) : Prop :=
  frzOps 40 fops S R fun S R => match args S with
   | none => False
   | some svs =>
    match argRoots 0 sig.args svs with
    | none => False
    | some m0 => match asKids S.hid sig.kids m0 with
      | none => False
      | some m1 => match canonX (asRows S.hid sig.ins m1) S.hid (argEnv PB svs) sig.inB sig.ins with
        | none => False
        | some d => match okOwn S (asRows S.hid sig.ins m1) && okNames (outM sig (asRows S.hid sig.ins m1) dst) && okFree S.hid (asRows S.hid sig.ins m1) (outM sig (asRows S.hid sig.ins m1) dst) && okArgsX sig.ins 0 sig.args with
          | false => False
          | true => CallsX cx.P f sig (argSVs 0 sig.args svs) d R fun rs d' R' =>
            match okFx cx.fx sig.inB S.hid (asRows S.hid sig.ins m1) (outM sig (asRows S.hid sig.ins m1) dst) (objX sig.outB sig.outs d') with
            | false => False
            | true => resX cx.tbl (outM sig (asRows S.hid sig.ins m1) dst) (objX sig.outB sig.outs d') 0 sig.res fun vs cs => rs = vs ∧
              K ((afterX sig.inB S (asRows S.hid sig.ins m1) (outM sig (asRows S.hid sig.ins m1) dst) (objX sig.outB sig.outs d')).put dst (svRes cs)) R'
/-- What is called: a function, or a function value that this call made. -/
def calleeOf (env : Nat → SV) : Operand → Option (FuncId × List (Nat × Nat))
  | .func f => some (f, [])
  | .tmp t => match env t with
    | .l (.clo f cap) => some (f, cap)
    | _ => none
  | _ => none
def capSVs (cap : List (Nat × Nat)) : List SV := cap.map fun p => .l (.adr p.1 p.2)
def argsX (f : FuncId) (x : Operand) (args : List Operand) (S : St) : Option (List SV) := match calleeOf S.env x with
  | some (g, cap) => (match Nat.beq g f with | true => some (args.map (opd S.env) ++ capSVs cap) | false => none)
  | none => none
/-- What an operation comes to. -/
def ev1 (cx : Cx) (o : Oper) (S : St) (R : Hp) (K : St → Hp → Prop) (Kp : List PanicEntry → Hp → Prop) : Prop :=
  match o.op with
  | .buildSlice _ _ parts => frzOps 40 (parts.toList.map (·.2)) S R fun S R => evP cx o S.env S.hid R fun v h => K (S.behind o.dst v h) R
  | .store t a x => match opd S.env a with
    | .l (.adre _ _ _ _) => frzOps 40 [x] S R fun S R => typeT cx t fun ti => writeAt S (opd S.env a) ti (opd S.env x) fun S' => K (S'.put o.dst (.l .no)) R
    | a => typeT cx t fun ti => writeAt S a ti (opd S.env x) fun S' => K (S'.put o.dst (.l .no)) R
  | .slice t x none hi none => match opd S.env x with
    | .l (.row id) => elemOfT cx t fun _ _ => evTrunc S id (hi.map (opd S.env)) fun v S' => K (S'.put o.dst v) R
    | _ => evP cx o S.env S.hid R fun v h => K (S.behind o.dst v h) R
  | .mapUpdate t m k x => evUpdate cx S t (opd S.env m) (opd S.env k) (opd S.env x) fun S' => K (S'.put o.dst (.l .no)) R
  | .panic x => match opd S.env x with
    | .l (.ifc (some y)) => Kp [{ v := .iface y.1 y.2, recovered := false }] R
    | _ => False
  | .call c => match c.callee with
    | .builtin b => match b, c.args.toList, c.argTypes.toList with
      | .append, [x, y], [t, u] => match opd S.env x with
        | .l (.row _) => evAppend cx S R t u (opd S.env x) (opd S.env y) fun v S' R' => K (S'.put o.dst v) R'
        | _ => evP cx o S.env S.hid R fun v h => K (S.behind o.dst v h) R
      | .copy, [x, y], t :: _ => evCopy cx S R t (opd S.env x) (opd S.env y) fun v S' R' => K (S'.put o.dst v) R'
      | _, _, _ => evP cx o S.env S.hid R fun v h => K (S.behind o.dst v h) R
    | .value x => match calleeOf S.env x with
      | none => False
      | some (f, cap) => match cx.xs f with
        | some sig => evX cx f sig (frzArgs sig.args c.args.toList) (argsX f x c.args.toList) o.dst S R K
        | none => match cap with
          | [] => frzOps 40 c.args.toList S R fun S R => match pureSs (c.args.toList.map (opd S.env)) with
            | some vs => CallsR cx.P f vs.toArray R fun e R' => retK cx.tbl (cx.rts f) e fun v => K (S.put o.dst v) R'
            | none => False
          | _ :: _ => False
    | _ => False
  | _ => evP cx o S.env S.hid R fun v h => K (S.behind o.dst v h) R

end Go.KE

/- The engine, part D: a region's operations, loops, code. -/
namespace Go.KE
open Go.RowKit (Below)

def St.lit (S : St) (t : Nat) (x : LV) : St := { S with env := fun u => match Nat.beq u t with | true => .l x | false => S.env u }
def okDst (n : Nat) : Option Nat → Bool
  | some d => Nat.blt d n
  | none => true
def guardT (ops : List Oper) (j : Nat) : Option Nat := match ops[j]? with
  | some o => o.dst
  | none => none

def guardTs (ops : List Oper) : List Oper → List Nat
  | [] => []
  | o :: os => match o.guard with
    | some (j, _) => (match guardT ops j with | some t => t :: guardTs ops os | none => guardTs ops os)
    | none => guardTs ops os
/-- A truth value on which other operations hang is told apart where it is made. -/
def splitAt (gts : List Nat) (d : Option Nat) (S : St) (K : St → Prop) : Prop := match d with
  | none => K S
  | some d => match memB d gts with
    | false => K S
    | true => match S.env d with
      | .l (.bool q) => (q = true → K (S.lit d .tt)) ∧ (q = false → K (S.lit d .ff))
      | _ => K S
/-- In a region that draws its order: no slice of the call's own is handed out. -/
def ev1d (cx : Cx) (o : Oper) (S : St) (R : Hp) (K : St → Hp → Prop) (Kp : List PanicEntry → Hp → Prop) : Prop :=
  match classOf cx.xs o with
  | 4 => ev1 cx o S R K Kp
  | 3 => match o.op with
    | .call c => match c.callee with
      | .value (.func f) => match pureSs (c.args.toList.map (opd S.env)) with
        | some vs => CallsR cx.P f vs.toArray R fun e R' => retK cx.tbl (cx.rts f) e fun v => K (S.put o.dst v) R'
        | none => False
      | _ => False
    | _ => False
  | _ => evP cx o S.env S.hid R fun v h => K (S.behind o.dst v h) R
/-- One operation of a region. -/
def evOp (cx : Cx) (ops : List Oper) (gts : List Nat) (draw : Bool) (o : Oper) (S : St) (R : Hp) (K : St → Hp → Prop) (Kp : List PanicEntry → Hp → Prop) : Prop :=
  match okDst cx.n o.dst with
  | false => False
  | true => match o.guard with
    | none => (match draw with | true => ev1d cx o | false => ev1 cx o) S R (fun S' R' => splitAt gts o.dst S' fun S' => K S' R') Kp
    | some (j, want) => match guardT ops j with
      | none => False
      | some gt => match S.env gt with
        | .l .tt => (match want with
          | true => (match draw with | true => ev1d cx o | false => ev1 cx o) S R (fun S' R' => splitAt gts o.dst S' fun S' => K S' R') Kp
          | false => K (S.put o.dst (.l .und)) R)
        | .l .ff => (match want with
          | false => (match draw with | true => ev1d cx o | false => ev1 cx o) S R (fun S' R' => splitAt gts o.dst S' fun S' => K S' R') Kp
          | true => K (S.put o.dst (.l .und)) R)
        | .l .und => K (S.put o.dst (.l .und)) R
        | _ => False
/-- A region's operations, one behind the other. -/
def evOps (cx : Cx) (ops : List Oper) (gts : List Nat) (draw : Bool) : List Nat → St → Hp → (St → Hp → Prop) → (List PanicEntry → Hp → Prop) → Prop
  | [], S, R, K, _ => K S R
  | i :: rest, S, R, K, Kp => match ops[i]? with
    | none => False
    | some o => evOp cx ops gts draw o S R (fun S' R' => evOps cx ops gts draw rest S' R' K Kp) Kp

def depsOf (ops : List Oper) (i : Nat) : List Nat := match ops[i]? with
  | some o => o.after.toList.filterMap fun e => match Region.binds .any e with | true => some e.on | false => none
  | none => []
def anyB (f : Nat → Bool) : List Nat → Bool
  | [] => false
  | x :: xs => match f x with | true => true | false => anyB f xs
/-- Must x have been done ahead of i? -/
def isAnc (ops : List Oper) : Nat → Nat → Nat → Bool
  | 0, _, _ => false
  | n + 1, x, i => anyB (fun d => match Nat.beq d x with | true => true | false => isAnc ops n x d) (depsOf ops i)
def classI (xs : FuncId → Option XS) (ops : List Oper) (i : Nat) : Nat := match ops[i]? with
  | some o => classOf xs o
  | none => 4
def firstB (f : Nat → Bool) : List Nat → Option Nat
  | [] => none
  | x :: xs => match f x with | true => some x | false => firstB f xs
def dropB (i : Nat) : List Nat → List Nat
  | [] => []
  | x :: xs => match Nat.beq x i with | true => xs | false => x :: dropB i xs
/-- The order in which a region that draws is looked at: what only reads comes early. -/
def canonO (xs : FuncId → Option XS) (ops : List Oper) : Nat → List Nat → List Nat
  | 0, _ => []
  | n + 1, left =>
    let ready := fun i => allB (fun d => !memB d left) (depsOf ops i)
    match firstB (fun i => ready i && Nat.ble (classI xs ops i) 1) left with
    | some i => i :: canonO xs ops n (dropB i left)
    | none => match firstB (fun i => ready i && Nat.ble (classI xs ops i) 2) left with
      | some i => i :: canonO xs ops n (dropB i left)
      | none => match firstB ready left with
        | some i => i :: canonO xs ops n (dropB i left)
        | none => []
def tmpsOf : List Operand → List Nat
  | [] => []
  | .tmp t :: xs => t :: tmpsOf xs
  | _ :: xs => tmpsOf xs
def looks (ops : List Oper) (o : Oper) : List Nat := match o.guard with
  | some (j, _) => (match guardT ops j with | some t => t :: tmpsOf o.op.operands.toList | none => tmpsOf o.op.operands.toList)
  | none => tmpsOf o.op.operands.toList
def apartB (ops : List Oper) (x y : Oper) : Bool :=
  (match x.dst with
    | some d => !memB d (looks ops y) && (match y.dst with | some e => !Nat.beq d e | none => true)
    | none => true) &&
  (match y.dst with
    | some d => !memB d (looks ops x)
    | none => true)
/-- An operation that hands a value on; one that stores. -/
def handsOn (o : Oper) : Bool := match o.op with
  | .move _ | .assign _ | .extract _ _ => true
  | _ => false
def isStore (o : Oper) : Bool := match o.op with
  | .store _ _ _ => true
  | _ => false
/-- May x, which comes first in our order, come behind y as well? -/
def okPair (xs : FuncId → Option XS) (ops : List Oper) (x y : Nat) : Bool := match ops[x]?, ops[y]? with
  | some a, some b => ((Nat.ble (classOf xs a) 2 && Nat.ble (classOf xs b) 3) || (handsOn a && isStore b)) && apartB ops a b
  | _, _ => false
def okOrder (xs : FuncId → Option XS) (ops : List Oper) (n : Nat) : List Nat → Bool
  | [] => true
  | x :: l => match allB (fun y => isAnc ops n x y || okPair xs ops x y) l && allB (fun d => Nat.blt d ops.length && !Nat.beq d x && !memB d l) (depsOf ops x) with | true => okOrder xs ops n l | false => false
/-- Is it a list of all of them? -/
def okList (n : Nat) (l : List Nat) : Bool := Nat.beq l.length n && allB (fun i => memB i l) (List.range n) && allB (fun i => Nat.blt i n) l && nodupB l

/-- The slots that code writes. -/
def assigned : Code → List Nat
  | .region _ ops _ => ops.toList.filterMap (·.dst)
  | .seq a b => assigned a ++ assigned b
  | .cond _ a b => assigned a ++ assigned b
  | .block _ b => assigned b
  | .loop b => assigned b
  | _ => []
/-- What may be bound anew in a loop's round. -/
def anewX (S : St) (h : LH) (asg : List Nat) (j : Nat) : Bool :=
  match S.anew j with
  | false => false
  | true => match isRowOf j h.items with
    | true => true
    | false => match memB j asg || memB j (srcs S h.items) with
      | true => true
      | false => match S.hid j with | none => true | some _ => false
def headX (S : St) (h : LH) (asg : List Nat) (x : LTup h.items) : St :=
  { env := fun t => envX (match memB t asg with
      | true => .l .no
      | false => match (S.env t).saysP (anewX S h asg) with | true => .l .no | false => S.env t) t h.items x
    hid := fun j => rowX (match blkOf j h.blks with
      | some (T, n) => some (.cells T (cellsX j h.items x 0 n))
      | none => match memB j asg || memB j (srcs S h.items) with
        | true => none
        | false => match S.hid j with
          | some (.cells T cs) => some (.cells T (cs.map fun c => match c.saysP (anewX S h asg) with | true => .no | false => c))
          | some y => (match isRowOf j h.items with | true => none | false => some y)
          | none => none) j h.items x
    own := fun j => match blkOf j h.blks with | some _ => true | none => anewX S h asg j && S.own j
    anew := anewX S h asg }
/-- Do a loop's blocks and slices fit the state in front of it? -/
def okBlks (S : St) (asg : List Nat) : List (Nat × TypeId × Nat) → Bool
  | [] => true
  | (u, T, n) :: bs => match S.own u && !memB u asg with
    | false => false
    | true => match S.hid u with
      | some (.cells T' cs) => match Nat.beq T' T && Nat.beq cs.length n with | true => okBlks S asg bs | false => false
      | _ => false
/-- What a loop writes may be bound anew. -/
def okAsg (S : St) (asg : List Nat) : Bool := allB (fun j => match S.anew j with | true => true | false => match S.hid j with | none => true | some _ => false) asg
def okEnd (S : St) : List (Nat × TypeId × Nat) → Bool
  | [] => true
  | (u, T, n) :: bs => match S.hid u with
      | some (.cells T' cs) => match Nat.beq T' T && Nat.beq cs.length n with | true => okEnd S bs | false => false
      | _ => false
def St.back (S' S : St) : St := { S' with own := S.own, anew := S.anew }
def firstR : Code → Nat
  | .region id _ _ => id
  | .seq a _ => firstR a
  | .block _ b => firstR b
  | .cond _ a _ => firstR a
  | .loop b => firstR b
  | _ => 0

def evC (cx : Cx) : Code → (Exit → St → Hp → Prop) → St → Hp → Prop
  | .skip, K, S, R => K .normal S R
  | .exit id, K, S, R => K (.exit id) S R
  | .ret, K, S, R => K .ret S R
  | .seq a b, K, S, R => evC cx a (fun e S R => match e with
    | .normal => evC cx b K S R
    | .exit i => K (.exit i) S R
    | .ret => K .ret S R
    | .panic c => K (.panic c) S R
    | _ => False) S R
  | .cond c a b, K, S, R => match c with
    | .tmp t => match S.env t with
      | .l .tt => evC cx a K S R
      | .l .ff => evC cx b K S R
      | .l (.bool q) => (q = true → evC cx a K (S.lit t .tt) R) ∧ (q = false → evC cx b K (S.lit t .ff) R)
      | _ => False
    | .const (.bool true) => evC cx a K S R
    | .const (.bool false) => evC cx b K S R
    | _ => False
  | .block id b, K, S, R => evC cx b (fun e S R => match e with
    | .normal => K .normal S R
    | .exit i => match Nat.beq i id with | true => K .normal S R | false => K (.exit i) S R
    | .ret => K .ret S R
    | .panic c => K (.panic c) S R
    | _ => False) S R
  | .region _ ops draw, K, S, R => match draw with
    | false => evOps cx ops.toList (guardTs ops.toList ops.toList) false (List.range ops.toList.length) S R (K .normal) fun ch R => K (.panic ch) S R
    | true => match okList ops.toList.length (canonO cx.xs ops.toList ops.toList.length (List.range ops.toList.length)) && okOrder cx.xs ops.toList ops.toList.length (canonO cx.xs ops.toList ops.toList.length (List.range ops.toList.length)) with
      | true => evOps cx ops.toList (guardTs ops.toList ops.toList) true (canonO cx.xs ops.toList ops.toList.length (List.range ops.toList.length)) S R (K .normal) fun ch R => K (.panic ch) S R
      | false => False
  | .loop b, K, S, R => match cx.loops (firstR b) with
    | none => False
    | some h => match okBlks S (assigned b) h.blks && okRows S h (assigned b) h.items && okSrcs S (srcs S h.items) && nodupB (rowNums h.items) && okAsg S (assigned b) && allB (fun j => !memB j cx.fx) (rowNums h.items) with
      | false => False
      | true => match getX S h.items with
        | none => False
        | some x0 => ∃ Inv : Nat → LTup h.items → Hp → Prop, (∃ n, Inv n x0 R) ∧ ∀ n x R', R.le R' → Inv n x R' → evC cx b (fun e S' R2 => match e with
          | .normal => match okEnd S' h.blks && okSrcs S' (srcs S' h.items) with
            | true => match getX S' h.items with
              | some x' => ∃ n', n' < n ∧ Inv n' x' R2
              | none => False
            | false => False
          | .exit i => K (.exit i) (S'.back S) R2
          | .ret => K .ret (S'.back S) R2
          | .panic c => K (.panic c) (S'.back S) R2
          | _ => False) (headX S h (assigned b) x) R'
  | _, _, _, _ => False

/-- What a call hands back. -/
def retVs (S : St) (R : Hp) (tbl : TypeId → Option TI) : List ResultVar → (List Value → Prop) → Prop
  | [], K => K []
  | .tmp t :: rs, K => match (S.env t).pure with
    | some v => retVs S R tbl rs fun vs => K (v :: vs)
    | none => False
  | .cell t T :: rs, K => match tbl T with
    | some ti => readAt S.hid R (S.env t) ti fun cs => match (packed ti cs).pure with
      | some v => retVs S R tbl rs fun vs => K (v :: vs)
      | none => False
    | none => False
def cellRows (S : St) : List ResultVar → Option Nat
  | [] => none
  | .tmp t :: rs => match (S.env t).rowIn with
    | some id => some id
    | none => cellRows S rs
  | .cell t _ :: rs => match S.env t with
    | .l (.adr id _) => match S.hid id with
      | some (.cells _ cs) => match rowL cs with
        | some id => some id
        | none => cellRows S rs
      | _ => cellRows S rs
    | _ => cellRows S rs
def frzRet : Nat → List ResultVar → St → Hp → (St → Hp → Prop) → Prop
  | 0, _, S, R, K => K S R
  | n + 1, rs, S, R, K => match cellRows S rs with
    | none => K S R
    | some id => frz1 S R id fun S R => frzRet n rs S R K
def evRet (cx : Cx) (rs : List ResultVar) (S : St) (R : Hp) (K : Ending → Hp → Prop) : Prop :=
  frzRet 16 rs S R fun S R => retVs S R cx.tbl rs fun vs => match vs with
    | [v] => K (.returned v) R
    | vs => K (.returned (.tuple vs.toArray)) R

def evBody (cx : Cx) (c : Code) (rs : List ResultVar) (args : List SV) (R : Hp) (K : Ending → Hp → Prop) : Prop :=
  evC cx c (fun e S R => match e with
    | .normal => evRet cx rs S R K
    | .ret => evRet cx rs S R K
    | .panic ch => K (.panicked ch) R
    | _ => False) ⟨envOf args, fun _ => none, fun _ => true, fun _ => true⟩ R

def codeOf (f : Func) : Code := match f.body with
  | some c => c
  | none => .skip
def lookL {α : Type} : List (Nat × α) → Nat → Option α
  | [], _ => none
  | (k, x) :: l, n => match Nat.beq k n with | true => some x | false => lookL l n
def lookD {α : Type} (l : List (Nat × List α)) (n : Nat) : List α := match lookL l n with
  | some x => x
  | none => []
end Go.KE

/- The engine, part E: what the state says of the world. -/
namespace Go.KE
open Go.RowKit (Below)

def UOk (P : Program) (t : TypeId) : TU → Prop
  | .int k => P.underlying t = some (.int k)
  | .bool => P.underlying t = some .bool
  | .str => P.underlying t = some .string
  | .ptr e => P.underlying t = some (.pointer e)
  | .slice e => P.underlying t = some (.slice e)
  | .map k e => P.underlying t = some (.map k e)
  | .struct fs => ∃ fields : Array Field, P.underlying t = some (.struct fields) ∧ fields.toList.map (fun f => (f.type, f.offset)) = fs
  | .ifc => ∃ ms, P.underlying t = some (.interface ms)
  | .fn => ∃ a b c, P.underlying t = some (.func a b c)
  | .arr n e => P.underlying t = some (.array n e)
  | .other => True
structure TOk (P : Program) (t : TypeId) (ti : TI) : Prop where
  info : ∃ i : TypeInfo, P.info? t = some i ∧ i.size = ti.size ∧ i.bytes = ti.bytes ∧ ∃ z, i.zero = some z ∧ z.cells = (Tup.enc ti.ks (Tup.zero ti.ks)).toArray ∧ (ti.agg = true → z = .agg z.cells) ∧ ∀ k, ti.agg = false → ti.ks = [k] → z = k.enc k.zero
  agg : ∀ w, (isAgg t).run P w = .ok ti.agg w
  ksl : ti.ks.length = ti.size
  one : ti.agg = false → ti.size = 1
  und : UOk P t ti.u
def TblOk (P : Program) (tbl : TypeId → Option TI) : Prop := ∀ t ti, tbl t = some ti → TOk P t ti

section
variable {P : Program} {t : TypeId} {ti : TI} (h : TOk P t ti) (w : World)
include h
theorem TOk.run_size : (sizeOf t).run P w = .ok ti.size w := by
  obtain ⟨i, hi, hs, _⟩ := h.info
  simp [sizeOf, typeInfo, hi, hs]
theorem TOk.run_info : ∃ i, (typeInfo t).run P w = .ok i w ∧ i.size = ti.size ∧ i.bytes = ti.bytes := by
  obtain ⟨i, hi, hs, hb, _⟩ := h.info
  exact ⟨i, by simp [typeInfo, hi], hs, hb⟩
theorem TOk.run_zero : ∃ z, (zeroValue t).run P w = .ok z w ∧ z.cells = (Tup.enc ti.ks (Tup.zero ti.ks)).toArray := by
  obtain ⟨i, hi, _, _, z, hz, hc, _⟩ := h.info
  exact ⟨z, by simp [zeroValue, typeInfo, hi, hz], hc⟩
theorem TOk.run_zero1 {k : Kd} (ha : ti.agg = false) (hk : ti.ks = [k]) : (zeroValue t).run P w = .ok (k.enc k.zero) w := by
  obtain ⟨i, hi, _, _, z, hz, _, _, hz1⟩ := h.info
  rw [← hz1 k ha hk]
  simp [zeroValue, typeInfo, hi, hz]
end
theorem run_und {P : Program} {t : TypeId} {d : TypeDesc} (h : P.underlying t = some d) (w : World) : (underlying t).run P w = .ok d w := by simp [underlying, h]

theorem flat_length (ks : List Kd) (xs : List (Tup ks)) : (flat ks xs).length = xs.length * ks.length := by
  induction xs with
  | nil => simp [flat]
  | cons x xs ih =>
    simp only [flat, List.flatMap_cons, List.length_append, Tup.enc_length, List.length_cons] at *
    rw [ih, Nat.add_mul, Nat.one_mul, Nat.add_comm]
theorem flat_append (ks : List Kd) (xs ys : List (Tup ks)) : flat ks (xs ++ ys) = flat ks xs ++ flat ks ys := by simp [flat]
theorem flat_take (ks : List Kd) (xs : List (Tup ks)) (n : Nat) : flat ks (xs.take n) = (flat ks xs).take (n * ks.length) := by
  rcases Nat.lt_or_ge n xs.length with h | h
  · conv => rhs; rw [← List.take_append_drop n xs, flat_append]
    rw [List.take_left' (by rw [flat_length, List.length_take, Nat.min_eq_left (Nat.le_of_lt h)])]
  · rw [List.take_of_length_le h, List.take_of_length_le (by rw [flat_length]; exact Nat.mul_le_mul_right _ h)]
theorem flat_drop (ks : List Kd) (xs : List (Tup ks)) (n : Nat) : flat ks (xs.drop n) = (flat ks xs).drop (n * ks.length) := by
  rcases Nat.lt_or_ge n xs.length with h | h
  · conv => rhs; rw [← List.take_append_drop n xs, flat_append]
    rw [List.drop_left' (by rw [flat_length, List.length_take, Nat.min_eq_left (Nat.le_of_lt h)])]
  · rw [List.drop_of_length_le h, List.drop_of_length_le (by rw [flat_length]; exact Nat.mul_le_mul_right _ h)]
    rfl
theorem flat_get (ks : List Kd) (xs : List (Tup ks)) (i : Nat) (x : Tup ks) (h : xs[i]? = some x) (j : Nat) (c : Value) (hc : (Tup.enc ks x)[j]? = some c) : (flat ks xs)[i * ks.length + j]? = some c := by
  induction xs generalizing i with
  | nil => simp at h
  | cons y ys ih =>
    cases i with
    | zero =>
      obtain rfl : y = x := by simpa using h
      simp only [flat, List.flatMap_cons, Nat.zero_mul, Nat.zero_add]
      have hj : j < (Tup.enc ks y).length := by
        rcases Nat.lt_or_ge j (Tup.enc ks y).length with h | h
        · exact h
        · simp [List.getElem?_eq_none h] at hc
      rw [List.getElem?_append_left hj]
      exact hc
    | succ i =>
      have := ih i (by simpa using h)
      simp only [flat, List.flatMap_cons] at *
      rw [List.getElem?_append_right (by rw [Tup.enc_length, Nat.add_mul]; omega), Tup.enc_length]
      rw [show (i + 1) * ks.length + j - ks.length = i * ks.length + j by rw [Nat.add_mul, Nat.one_mul]; omega]
      exact this

theorem LV.good.mono {A A' : Nat → Prop} {R R' : Hp} {x : LV} (h : x.good A R) (hA : ∀ id, A id → A' id) (hR : R.le R') : x.good A' R' :=
  ⟨fun id hs => hA id (h.live id hs), by
    have := h.adr
    cases x <;> first | trivial | exact ⟨this.1, this.2.mono hR⟩⟩
theorem SV.good.mono {A A' : Nat → Prop} {R R' : Hp} {x : SV} (h : x.good A R) (hA : ∀ id, A id → A' id) (hR : R.le R') : x.good A' R' := fun c hc => (h c hc).mono hA hR
theorem SV.says_leaf {x : SV} {id : Nat} (h : x.says id = true) : ∃ c ∈ x.leaves, c.says id = true := by
  cases x with
  | l x => exact ⟨x, by simp [SV.leaves], h⟩
  | g cs => simpa [SV.leaves, SV.says] using h
  | t cs =>
    simp only [SV.says, List.any_eq_true] at h
    obtain ⟨p, hp, c, hc, hs⟩ := h
    exact ⟨c, by simp only [SV.leaves, List.mem_flatMap]; exact ⟨p, hp, hc⟩, hs⟩
theorem SV.good.says {A : Nat → Prop} {R : Hp} {x : SV} (h : x.good A R) {id : Nat} (hs : x.says id = true) : A id := by
  obtain ⟨c, hc, e⟩ := SV.says_leaf hs
  exact (h c hc).live id e
theorem good_of_not {A : Nat → Prop} {R : Hp} {x : LV} (h : ∀ id, x.says id = false) (ha : x.adrOk R) : x.good A R := ⟨fun id hs => by simp [h id] at hs, ha⟩

/-- Which blocks of the caller's may be turned; which numbers keep their blocks. -/
structure Mod where
  blk : Nat → Prop
  fx : Nat → Option Nat
instance : CoeFun Mod (fun _ => Nat → Prop) := ⟨Mod.blk⟩
structure WF (w0 : World) (M0 : Mod) (w : World) : Prop where
  frame : ∀ b, b < w0.heap.size → ¬ M0 b → w.heap[b]? = w0.heap[b]?
  os : w.os = w0.os
  tape : w.tape = w0.tape
  output : w.output = w0.output
  size : w0.heap.size ≤ w.heap.size

structure Inv (w0 : World) (M0 : Mod) (R0 : Hp) (n : Nat) (dfs : List Deferred) (bs : Bs) (S : St) (R : Hp) (a : Act) (w : World) : Prop where
  size : a.tmps.size = n
  dfs : a.defers = dfs
  env : ∀ t, (S.env t).fits bs (a.tmps.getD t undef)
  hb : ∀ j h, S.hid j = some h → HBok w bs j h
  sep : ∀ j h b, S.hid j = some h → h.blk bs j = some b → R b = none ∧ (w0.heap.size ≤ b ∨ M0 b)
  dis : ∀ i j h h' b, i ≠ j → S.hid i = some h → S.hid j = some h' → h.blk bs i = some b → h'.blk bs j = some b → False
  good : ∀ t, (S.env t).good (Alive S) R
  goodc : ∀ j T cs, S.hid j = some (.cells T cs) → ∀ c ∈ cs, c.good (Alive S) R
  sees : Sees R w
  le : R0.le R
  new : ∀ b o, R b = some o → R0 b = some o ∨ w0.heap.size ≤ b ∨ M0 b
  wf : WF w0 M0 w
  fix : ∀ j b, M0.fx j = some b → n ≤ j ∧ (bs j).blk = b

theorem HBok.lt {w : World} {bs : Bs} {j : Nat} {h : HB} (hk : HBok w bs j h) {b : Nat} (hb : h.blk bs j = some b) : b < w.heap.size := by
  have key : ∀ o : Obj, w.heap[b]? = some o → b < w.heap.size := fun o e => by
    rcases Nat.lt_or_ge b w.heap.size with h | h
    · exact h
    · simp [Array.getElem?_eq_none h] at e
  cases h with
  | cells T cs =>
    obtain ⟨vs, _, h2⟩ := hk
    obtain rfl := Option.some.inj hb
    exact key _ h2
  | row rt xs =>
    cases rt with
    | sl T ks =>
      rcases hk with ⟨h1, _⟩ | ⟨b', rest, h1, _, h3, _⟩
      · simp [HB.blk, h1] at hb
      · simp [HB.blk, h1] at hb
        subst hb
        exact key _ h3
    | mp ks =>
      obtain ⟨es, clock, h2, _⟩ := hk
      obtain rfl := Option.some.inj hb
      exact key _ h2
/-- A block that stays as it is. -/
theorem HBok.keep {w w' : World} {bs : Bs} {j : Nat} {h : HB} (hk : HBok w bs j h) (hw : ∀ b, h.blk bs j = some b → w'.heap[b]? = w.heap[b]?) : HBok w' bs j h := by
  cases h with
  | cells T cs =>
    obtain ⟨vs, h1, h2⟩ := hk
    exact ⟨vs, h1, (hw _ rfl).trans h2⟩
  | row rt xs =>
    cases rt with
    | sl T ks =>
      rcases hk with h | ⟨b, rest, h1, h2, h3, h4⟩
      · exact .inl h
      · exact .inr ⟨b, rest, h1, h2, (hw _ (by simp [HB.blk, h1])).trans h3, h4⟩
    | mp ks =>
      obtain ⟨es, clock, h2, h3⟩ := hk
      exact ⟨es, clock, (hw _ rfl).trans h2, h3⟩
theorem HBok.congr {w : World} {bs bs' : Bs} {j : Nat} {h : HB} (hk : HBok w bs j h) {id : Nat} (hb : ∀ i, i ≠ id → bs' i = bs i) (hj : j ≠ id)
    (hc : ∀ T cs, h = .cells T cs → cs.any (LV.says id) = false) : HBok w bs' j h := by
  cases h with
  | cells T cs =>
    obtain ⟨vs, h1, h2⟩ := hk
    exact ⟨vs, FitsL.congr hb (hc T cs rfl) h1, by rw [hb j hj]; exact h2⟩
  | row rt xs =>
    cases rt with
    | sl T ks =>
      unfold HBok at hk ⊢
      simp only at hk ⊢
      rw [hb j hj]
      exact hk
    | mp ks =>
      unfold HBok at hk ⊢
      simp only at hk ⊢
      rw [hb j hj]
      exact hk
theorem HB.blk_congr {bs bs' : Bs} {j : Nat} (h : HB) (hb : bs' j = bs j) : h.blk bs' j = h.blk bs j := by
  cases h with
  | cells T cs => simp [HB.blk, hb]
  | row rt xs => cases rt <;> simp [HB.blk, hb]

theorem constLV_fits (bs : Bs) (v : Value) : (constLV v).fits bs v := by
  unfold constLV
  split <;> first | exact .inl rfl | exact .inr rfl
theorem constSV_fits (bs : Bs) (v : Value) : (constSV v).fits bs v := by
  unfold constSV
  split
  · rename_i cs
    refine ⟨cs.toList, ?_, by simp⟩
    generalize cs.toList = l
    induction l with
    | nil => trivial
    | cons c l ih => exact ⟨constLV_fits bs c, ih⟩
  · exact constLV_fits bs v
theorem constLV_says (id : Nat) (v : Value) : (constLV v).says id = false := by
  unfold constLV
  split <;> rfl
theorem constSV_says (id : Nat) (v : Value) : (constSV v).says id = false := by
  unfold constSV
  split
  · rename_i cs
    simp only [SV.says]
    rw [List.any_eq_false]
    intro x hx
    simp only [List.mem_map] at hx
    obtain ⟨c, _, rfl⟩ := hx
    simp [constLV_says]
  · exact constLV_says id v

section
variable {w0 : World} {M0 : Mod} {R0 : Hp} {n : Nat} {dfs : List Deferred} {bs : Bs} {S : St} {R : Hp} {a : Act} {w : World}
theorem Inv.opd (I : Inv w0 M0 R0 n dfs bs S R a w) (x : Operand) : (opd S.env x).fits bs (a.eval x) := by
  cases x with
  | tmp t => exact I.env t
  | const v => exact constSV_fits bs v
  | global g => exact .inr rfl
  | func f => exact .inr rfl
theorem constLV_good (A : Nat → Prop) (R : Hp) (v : Value) : (constLV v).good A R := good_of_not (fun id => constLV_says id v) (by unfold constLV; split <;> trivial)
theorem constSV_good (A : Nat → Prop) (R : Hp) (v : Value) : (constSV v).good A R := by
  intro c hc
  unfold constSV at hc
  split at hc
  · simp only [SV.leaves, List.mem_map] at hc
    obtain ⟨c', _, rfl⟩ := hc
    exact constLV_good A R c'
  · simp only [SV.leaves, List.mem_singleton] at hc
    subst hc
    exact constLV_good A R _
theorem good_l {A : Nat → Prop} {R : Hp} {x : LV} (h : x.good A R) : (SV.l x).good A R := by
  intro c hc
  simp only [SV.leaves, List.mem_singleton] at hc
  subst hc; exact h
theorem SV.good.l {A : Nat → Prop} {R : Hp} {x : LV} (h : (SV.l x).good A R) : x.good A R := h x (by simp [SV.leaves])
theorem Inv.opd_good (I : Inv w0 M0 R0 n dfs bs S R a w) (x : Operand) : (KE.opd S.env x).good (Alive S) R := by
  cases x with
  | tmp t => exact I.good t
  | const v => exact constSV_good _ _ v
  | global g => exact good_l (good_of_not (fun _ => rfl) trivial)
  | func f => exact good_l (good_of_not (fun _ => rfl) trivial)

theorem getD_setIfInBounds (xs : Array Value) (d t : Nat) (v : Value) (h : d < xs.size) : (xs.setIfInBounds d v).getD t undef = if t = d then v else xs.getD t undef := by
  by_cases e : t = d
  · subst e; simp [Array.getD, h]
  · simp only [if_neg e, Array.getD_eq_getD_getElem?, Array.getElem?_setIfInBounds_ne (Ne.symm e)]

theorem beq_cases (x y : Nat) : (Nat.beq x y = true ∧ x = y) ∨ (Nat.beq x y = false ∧ x ≠ y) := by
  by_cases h : x = y
  · exact .inl ⟨by rw [h]; exact Nat.beq_refl y, h⟩
  · exact .inr ⟨by rw [← Bool.not_eq_true]; simpa using h, h⟩
theorem St.put_env (S : St) (d : Nat) (x : SV) (t : Nat) : (S.put (some d) x).env t = if t = d then x else S.env t := by
  simp only [St.put]
  rcases beq_cases t d with ⟨h, e⟩ | ⟨h, e⟩ <;> simp [h, e]
theorem St.setHid_hid (S : St) (id : Nat) (h : Option HB) (j : Nat) : (S.setHid id h).hid j = if j = id then h else S.hid j := by
  simp only [St.setHid]
  rcases beq_cases j id with ⟨h, e⟩ | ⟨h, e⟩ <;> simp [h, e]

/-- A value is put into a slot. -/
theorem Inv.put (I : Inv w0 M0 R0 n dfs bs S R a w) (d : Option Nat) (x : SV) (v : Value) (hx : x.fits bs v) (hl : x.good (Alive S) R) (hd : okDst n d = true) :
    Inv w0 M0 R0 n dfs bs (S.put d x) R (a.put d v) w := by
  cases d with
  | none => exact I
  | some d =>
    have hlt : d < a.tmps.size := by rw [I.size]; simpa [okDst, Nat.blt_eq] using hd
    exact { I with
      size := by simp [Act.put, I.size]
      dfs := I.dfs
      env := fun t => by
        rw [St.put_env]
        simp only [Act.put]
        rw [getD_setIfInBounds _ _ _ _ hlt]
        split
        · exact hx
        · exact I.env t
      good := fun t => by
        rw [St.put_env]
        split
        · exact hl
        · exact I.good t }
end

end Go.KE

/- The engine, part F: operations that turn nothing: each runs as it is told. -/
namespace Go.KE
open Go.RowKit (Below)

theorem LV.fits_val {bs : Bs} {x : LV} {v : Value} (h : x.fits bs v) (hx : x ≠ .no) : v = x.conc bs := h.resolve_left hx
theorem pure_conc (bs : Bs) (x : LV) (v : Value) (h : x.pure = some v) : x.conc bs = v := by
  cases x <;> simp [LV.pure] at h <;> simp [LV.conc, h]
theorem pure_fits {bs : Bs} {x : LV} {v u : Value} (h : x.pure = some v) (hf : x.fits bs u) : u = v := by
  have := LV.fits_val hf (by rintro rfl; simp [LV.pure] at h)
  rw [this, pure_conc bs x v h]
theorem pureL_fits {bs : Bs} : ∀ {cs : List LV} {vs us : List Value}, pureL cs = some vs → FitsL bs cs us → us = vs
  | [], vs, [], h, _ => by simp [pureL] at h; exact h.symm ▸ rfl
  | [], _, _ :: _, _, h => h.elim
  | _ :: _, _, [], _, h => h.elim
  | c :: cs, vs, u :: us, h, hf => by
    simp only [pureL] at h
    split at h
    · rename_i v vs' h1 h2
      obtain rfl := Option.some.inj h
      rw [pure_fits h1 hf.1, pureL_fits h2 hf.2]
    · simp at h
theorem pureS_fits {bs : Bs} {x : SV} {v u : Value} (h : x.pure = some v) (hf : x.fits bs u) : u = v := by
  cases x with
  | l x => exact pure_fits h hf
  | g cs =>
    simp only [SV.pure] at h
    split at h
    · rename_i vs hv
      obtain rfl := Option.some.inj h
      obtain ⟨us, h1, rfl⟩ := hf
      rw [pureL_fits hv h1]
    · simp at h
  | t cs => simp [SV.pure] at h
theorem pure_says {x : LV} {v : Value} (h : x.pure = some v) (id : Nat) : x.says id = false := by
  cases x <;> simp [LV.pure] at h <;> rfl
theorem lv_says (k : Kd) (d : k.Den) (id : Nat) : (k.lv d).says id = false := by cases k <;> rfl
theorem lvs_says : ∀ (ks : List Kd) (x : Tup ks) (id : Nat), (Tup.lvs ks x).any (LV.says id) = false
  | [], _, _ => rfl
  | [k], x, id => by simp [Tup.lvs, lv_says]
  | k :: k' :: ks, x, id => by simp only [Tup.lvs, List.any_cons, lv_says, Bool.false_or]; exact lvs_says (k' :: ks) x.2 id
theorem zlv_says (k : Kd) (id : Nat) : k.zlv.says id = false := by cases k <;> rfl
theorem zlvs_says (ks : List Kd) (id : Nat) : (ks.map Kd.zlv).any (LV.says id) = false := by
  rw [List.any_eq_false]
  intro x hx
  obtain ⟨k, _, rfl⟩ := List.mem_map.1 hx
  simp [zlv_says]
theorem zlv_conc (bs : Bs) (k : Kd) : k.zlv.conc bs = k.enc k.zero := by cases k <;> rfl
theorem zlvs_fits (bs : Bs) : ∀ (ks : List Kd), FitsL bs (ks.map Kd.zlv) (Tup.enc ks (Tup.zero ks))
  | [] => trivial
  | [k] => ⟨.inr (zlv_conc bs k).symm, trivial⟩
  | k :: k' :: ks => ⟨.inr (zlv_conc bs k).symm, zlvs_fits bs (k' :: ks)⟩
theorem lvs_fits (bs : Bs) (ks : List Kd) (x : Tup ks) : FitsL bs (Tup.lvs ks x) (Tup.enc ks x) := by
  have := FitsL.conc bs (Tup.lvs ks x)
  rwa [Tup.lvs_conc] at this
theorem of_fits {bs : Bs} : ∀ {ks : List Kd} {cs : List LV} {x : Tup ks} {us : List Value}, Tup.of ks cs = some x → FitsL bs cs us → us = Tup.enc ks x := by
  intro ks cs x us h hf
  have hc := Tup.of_conc bs ks cs x h
  rw [← hc]
  have hno : ∀ (ks : List Kd) (cs : List LV) (x : Tup ks), Tup.of ks cs = some x → ∀ c ∈ cs, c ≠ .no := by
    intro ks
    induction ks with
    | nil => intro cs x h c hc; cases cs with | nil => simp at hc | cons _ _ => simp [Tup.of] at h
    | cons k ks ih =>
      intro cs x h c hc e
      subst e
      cases ks with
      | nil =>
        cases cs with
        | nil => simp at hc
        | cons y ys => cases ys with
          | nil => simp at hc; subst hc; simp only [Tup.of] at h; cases k <;> simp [LV.den] at h
          | cons _ _ => simp [Tup.of] at h
      | cons k' ks =>
        cases cs with
        | nil => simp at hc
        | cons y ys => cases ys with
          | nil => simp [Tup.of] at h
          | cons z zs =>
            simp only [Tup.of] at h
            split at h
            · rename_i d ds h1 h2
              rcases List.mem_cons.1 hc with e | e
              · subst e; cases k <;> simp [LV.den] at h1
              · exact ih (z :: zs) ds h2 .no e rfl
            · simp at h
  have := hno ks cs x h
  clear h hc hno
  induction cs generalizing us with
  | nil => cases us with | nil => rfl | cons _ _ => exact hf.elim
  | cons c cs ih =>
    cases us with
    | nil => exact hf.elim
    | cons u us =>
      rw [List.map_cons, LV.fits_val hf.1 (this c (by simp)), ih (us := us) hf.2 (fun c hc => this c (by simp [hc]))]

/-- What an operation that turns nothing leaves. -/
def updB (bs : Bs) (m : Nat) (bd : Bd) : Bs := fun j => if j = m then bd else bs j
theorem updB_same (bs : Bs) (m : Nat) (bd : Bd) : updB bs m bd m = bd := by simp [updB]
theorem updB_ne (bs : Bs) (m : Nat) (bd : Bd) : ∀ j, j ≠ m → updB bs m bd j = bs j := fun j h => by simp [updB, h]
structure OutN (S : St) (bs : Bs) (R : Hp) (m : Nat) (bd : Bd) (w : World) (sv : SV) (hb : HB) (v : Value) (w' : World) : Prop where
  free : S.hid m = none
  below : Below w.heap.size w w'
  ok : HBok w' (updB bs m bd) m hb
  fresh : ∀ b, hb.blk (updB bs m bd) m = some b → w.heap.size ≤ b
  fits : sv.fits (updB bs m bd) v
  good : sv.good (fun id => id = m ∨ Alive S id) R
  inner : ∀ T cs, hb = .cells T cs → ∀ c ∈ cs, c.good (Alive S) R
def Out (S : St) (bs : Bs) (R : Hp) (d : Option Nat) (w : World) (sv : SV) (hbo : Option HB) (v : Value) (w' : World) : Prop := match hbo with
  | none => w' = w ∧ sv.fits bs v ∧ sv.good (Alive S) R
  | some hb => ∃ m bd, d = some m ∧ OutN S bs R m bd w sv hb v w'

theorem WF.below {w0 w w' : World} {M0 : Mod} (h : WF w0 M0 w) (hb : Below w.heap.size w w') : WF w0 M0 w' :=
  ⟨fun b h1 h2 => (hb.block b (Nat.lt_of_lt_of_le h1 h.size)).trans (h.frame b h1 h2), hb.os.trans h.os, hb.tape.trans h.tape, hb.output.trans h.output, Nat.le_trans h.size hb.size⟩
theorem Sees.below {R : Hp} {w w' : World} (h : Sees R w) (hb : Below w.heap.size w w') : Sees R w' := fun b o e => by
  have := h b o e
  have hlt : b < w.heap.size := by
    rcases Nat.lt_or_ge b w.heap.size with h | h
    · exact h
    · simp [Array.getElem?_eq_none h] at this
  exact (hb.block b hlt).trans this

section
variable {w0 : World} {M0 : Mod} {R0 : Hp} {n : Nat} {dfs : List Deferred} {bs : Bs} {S : St} {R : Hp} {a : Act} {w : World}
theorem Inv.behind (I : Inv w0 M0 R0 n dfs bs S R a w) {d : Option Nat} {sv : SV} {hbo : Option HB} {v : Value} {w' : World} (hd : okDst n d = true) (h : Out S bs R d w sv hbo v w') :
    ∃ bs', Inv w0 M0 R0 n dfs bs' (S.behind d sv hbo) R (a.put d v) w' := by
  cases hbo with
  | none =>
    obtain ⟨rfl, h1, h2⟩ := h
    exact ⟨bs, I.put d sv v h1 h2 hd⟩
  | some hb =>
    obtain ⟨m, bd, rfl, o⟩ := h
    have hup := updB_ne bs m bd
    have hsay : ∀ t, (S.env t).says m = false := fun t => by
      rw [← Bool.not_eq_true]
      exact fun e => (I.good t).says e o.free
    have hsayc : ∀ j T cs, S.hid j = some (.cells T cs) → cs.any (LV.says m) = false := fun j T cs hj => by
      rw [List.any_eq_false]
      exact fun c hc e => (I.goodc j T cs hj c hc).live m e o.free
    have hne : ∀ j h, S.hid j = some h → j ≠ m := fun j h hj e => by rw [e, o.free] at hj; cases hj
    have alive' : ∀ id, Alive S id → Alive (S.setHid m (some hb)) id := fun id h => by
      unfold Alive
      rw [St.setHid_hid]
      split
      · simp
      · exact h
    have J : Inv w0 M0 R0 n dfs (updB bs m bd) (S.setHid m (some hb)) R a w' := {
      size := I.size
      dfs := I.dfs
      env := fun t => SV.fits_congr hup (hsay t) (I.env t)
      hb := fun j h hj => by
        rw [St.setHid_hid] at hj
        split at hj
        · rename_i e
          subst e
          obtain rfl := Option.some.inj hj
          exact o.ok
        · rename_i e
          refine ((I.hb j h hj).keep fun b hb => o.below.block b ((I.hb j h hj).lt hb)).congr hup e fun T cs hc => ?_
          subst hc
          exact hsayc j T cs hj
      sep := fun j h b hj hb' => by
        rw [St.setHid_hid] at hj
        split at hj
        · rename_i e
          subst e
          obtain rfl := Option.some.inj hj
          have hge := o.fresh b hb'
          refine ⟨?_, .inl (Nat.le_trans I.wf.size hge)⟩
          cases hr : R b with
          | none => rfl
          | some ob =>
            have := I.sees b ob hr
            rw [Array.getElem?_eq_none hge] at this
            cases this
        · rename_i e
          exact I.sep j h b hj (by rw [← HB.blk_congr h (hup j e)]; exact hb')
      dis := fun i j h h' b hij hi hj hbi hbj => by
        rw [St.setHid_hid] at hi hj
        split at hi <;> split at hj
        · rename_i e1 e2; exact hij (e1.trans e2.symm)
        · rename_i e1 e2
          subst e1
          obtain rfl := Option.some.inj hi
          have := (I.hb j h' hj).lt (by rw [← HB.blk_congr h' (hup j e2)]; exact hbj)
          have := o.fresh b hbi
          omega
        · rename_i e1 e2
          subst e2
          obtain rfl := Option.some.inj hj
          have := (I.hb i h hi).lt (by rw [← HB.blk_congr h (hup i e1)]; exact hbi)
          have := o.fresh b hbj
          omega
        · rename_i e1 e2
          exact I.dis i j h h' b hij hi hj (by rw [← HB.blk_congr h (hup i e1)]; exact hbi) (by rw [← HB.blk_congr h' (hup j e2)]; exact hbj)
      good := fun t => (I.good t).mono alive' (Hp.le.refl R)
      goodc := fun j T cs hj c hc => by
        rw [St.setHid_hid] at hj
        split at hj
        · exact (o.inner T cs (Option.some.inj hj) c hc).mono alive' (Hp.le.refl R)
        · exact (I.goodc j T cs hj c hc).mono alive' (Hp.le.refl R)
      sees := I.sees.below o.below
      le := I.le
      new := I.new
      wf := I.wf.below o.below
      fix := fun j b h => by
        obtain ⟨h1, h3⟩ := I.fix j b h
        have hm : m < n := by simpa [okDst, Nat.blt_eq] using hd
        exact ⟨h1, by rw [updB_ne bs m bd j (by omega)]; exact h3⟩ }
    refine ⟨updB bs m bd, ?_⟩
    show Inv w0 M0 R0 n dfs (updB bs m bd) ((S.setHid m (some hb)).put (some m) sv) R (a.put (some m) v) w'
    refine J.put (some m) sv v o.fits (o.good.mono (fun id h => ?_) (Hp.le.refl R)) hd
    rcases h with rfl | h
    · unfold Alive
      rw [St.setHid_hid, if_pos rfl]
      simp
    · exact alive' id h
end

end Go.KE

/- The engine, part G: reading. -/
namespace Go.KE
open Go.RowKit (Below)

theorem add_none (b o j : Nat) : (⟨b, o, none⟩ : Addr).add j = ⟨b, o + j, none⟩ := by
  unfold Addr.add
  split
  · rename_i h; subst h; rfl
  · rfl
theorem addr_eta {ad : Addr} (h : ad.spot = none) : ad = ⟨ad.block, ad.off, none⟩ := by cases ad; simp_all
theorem cell_of {w : World} {b : Nat} {arr : Array Value} {T : TypeId} {fr : Nat × Nat} (h : w.heap[b]? = some (.cells arr T fr)) (o : Nat) : w.cell? ⟨b, o, none⟩ = arr[o]? := by
  simp [World.cell?, h]
theorem sized_iff {m : Nat} {cs : List LV} {K : List LV → Prop} (h : sized m cs K) : cs.length = m ∧ K cs := by
  unfold sized at h
  rcases beq_cases cs.length m with ⟨e, e'⟩ | ⟨e, _⟩
  · rw [e] at h; exact ⟨e', h⟩
  · rw [e] at h; exact h.elim
theorem typeT_iff {cx : Cx} {t : TypeId} {K : TI → Prop} (h : typeT cx t K) : ∃ ti, cx.tbl t = some ti ∧ K ti := by
  unfold typeT at h
  split at h
  · rename_i ti e; exact ⟨ti, e, h⟩
  · exact h.elim
theorem elemOfT_iff {cx : Cx} {t : TypeId} {K : TypeId → TI → Prop} (h : elemOfT cx t K) : ∃ ti e te, cx.tbl t = some ti ∧ ti.u = .slice e ∧ cx.tbl e = some te ∧ K e te := by
  unfold elemOfT at h
  split at h
  · rename_i ti e0
    split at h
    · rename_i e e1
      split at h
      · rename_i te e2; exact ⟨ti, e, te, e0, e1, e2, h⟩
      · exact h.elim
    · exact h.elim
  · exact h.elim
theorem fieldOfT_iff {cx : Cx} {t : TypeId} {f : Nat} {K : List Kd → TI → Nat → Prop} (h : fieldOfT cx t f K) :
    ∃ ti fs ft off tf, cx.tbl t = some ti ∧ ti.u = .struct fs ∧ fs[f]? = some (ft, off) ∧ cx.tbl ft = some tf ∧ 1 ≤ tf.size ∧ K ti.ks tf off := by
  unfold fieldOfT at h
  split at h
  · rename_i ti e0
    split at h
    · rename_i fs e1
      split at h
      · rename_i ft off e2
        split at h
        · rename_i tf e3
          split at h
          · rename_i e4; exact ⟨ti, fs, ft, off, tf, e0, e1, e2, e3, Nat.le_of_ble_eq_true e4, h⟩
          · exact h.elim
        · exact h.elim
      · exact h.elim
    · exact h.elim
  · exact h.elim
theorem TOk.slice {P : Program} {t : TypeId} {ti : TI} {e : TypeId} (h : TOk P t ti) (hu : ti.u = .slice e) : P.underlying t = some (.slice e) := by
  have := h.und; rw [hu] at this; exact this

theorem lies_block {w : World} {b : Nat} {arr : Array Value} {T : TypeId} {fr : Nat × Nat} (h : w.heap[b]? = some (.cells arr T fr)) (off : Nat) (vs : List Value)
    (hv : ∀ j c, vs[j]? = some c → arr[off + j]? = some c) : ∀ j c, vs[j]? = some c → w.cell? ((⟨b, off, none⟩ : Addr).add j) = some c := fun j c hc => by
  rw [add_none, cell_of h]
  exact hv j c hc

theorem good_lvs (A : Nat → Prop) (R : Hp) : ∀ (ks : List Kd) (x : Tup ks), ∀ c ∈ Tup.lvs ks x, c.good A R := by
  have one : ∀ (k : Kd) (d : k.Den), (k.lv d).good A R := fun k d => good_of_not (fun id => lv_says k d id) (by cases k <;> trivial)
  intro ks
  induction ks with
  | nil => intro x c hc; simp [Tup.lvs] at hc
  | cons k ks ih =>
    cases ks with
    | nil => intro x c hc; simp only [Tup.lvs, List.mem_singleton] at hc; subst hc; exact one k x
    | cons k' ks =>
      intro x c hc
      simp only [Tup.lvs, List.mem_cons] at hc
      rcases hc with rfl | hc
      · exact one k x.1
      · exact ih x.2 c (by simpa using hc)
theorem zlv_good (A : Nat → Prop) (R : Hp) (k : Kd) : k.zlv.good A R := good_of_not (fun id => zlv_says k id) (by cases k <;> trivial)
theorem good_sub {A : Nat → Prop} {R : Hp} {cs : List LV} (h : ∀ c ∈ cs, c.good A R) (off len : Nat) : ∀ c ∈ (cs.drop off).take len, c.good A R := fun c hc => h c (List.mem_of_mem_drop (List.mem_of_mem_take hc))
theorem rcells_lies {R : Hp} {w : World} (hs : Sees R w) {b o : Nat} {cs : List Value} (h : RCells R b o cs) (off : Nat) (vs : List Value) (hv : ∀ j c, vs[j]? = some c → cs[off + j]? = some c) :
    ∀ j c, vs[j]? = some c → w.cell? ((⟨b, o + off, none⟩ : Addr).add j) = some c := by
  obtain ⟨arr, T, fr, h1, h2⟩ := h
  refine lies_block (hs b _ h1) (o + off) vs fun j c hc => ?_
  rw [Nat.add_assoc]
  exact h2 _ c (hv j c hc)
theorem take_drop_get {cs : List Value} (off len j : Nat) {c : Value} (h : ((cs.drop off).take len)[j]? = some c) : cs[off + j]? = some c := by
  rw [List.getElem?_take] at h
  split at h
  · rwa [List.getElem?_drop] at h
  · cases h

section
variable {w0 : World} {M0 : Mod} {R0 : Hp} {n : Nat} {dfs : List Deferred} {bs : Bs} {S : St} {R : Hp} {a : Act} {w : World}
theorem Inv.readAt (I : Inv w0 M0 R0 n dfs bs S R a w) {x : SV} {v : Value} {ti : TI} {K : List LV → Prop} (hk : ti.ks.length = ti.size) (hf : x.fits bs v) (hg : x.good (Alive S) R) (h : readAt S.hid R x ti K) :
    ∃ cs vs, K cs ∧ FitsL bs cs vs ∧ vs.length = ti.size ∧ (∃ ad, v = .pointer (some ad) ∧ ∀ j c, vs[j]? = some c → w.cell? (ad.add j) = some c) ∧ ∀ c ∈ cs, c.good (Alive S) R := by
  unfold KE.readAt at h
  split at h
  · -- a block of the call's own
    rename_i id off
    split at h
    · rename_i T cs e
      obtain ⟨hl, hK⟩ := sized_iff h
      obtain ⟨vs, h1, h2⟩ := I.hb id _ e
      have hv := LV.fits_val hf (by simp)
      refine ⟨_, (vs.drop off).take ti.size, hK, (h1.drop off).take _, ?_, ⟨⟨(bs id).blk, off, none⟩, hv, ?_⟩, good_sub (I.goodc id T cs e) _ _⟩
      · rw [((h1.drop off).take _).length]; exact hl
      · exact lies_block h2 off _ fun j c hc => by simpa using take_drop_get off ti.size j hc
    · exact h.elim
  · -- read alone
    rename_i ad ks y off
    obtain ⟨hl, hK⟩ := sized_iff h
    have hv := LV.fits_val hf (by simp)
    obtain ⟨hsp, hr⟩ := hg.l.adr
    refine ⟨_, ((Tup.enc ks y).drop off).take ti.size, hK, ((lvs_fits bs ks y).drop off).take _, ?_, ⟨⟨ad.block, ad.off + off, none⟩, hv, ?_⟩, good_sub (good_lvs _ _ ks y) _ _⟩
    · rw [(((lvs_fits bs ks y).drop off).take _).length]; exact hl
    · exact rcells_lies I.sees hr off _ fun j c hc => take_drop_get off ti.size j hc
  · -- an element of a slice of the call's own
    rename_i id ix off esz
    split at h
    · rename_i T ks xs e
      rcases beq_cases ks.length esz with ⟨e1, e2⟩ | ⟨e1, _⟩
      · rw [e1] at h
        obtain ⟨y, hy, hz⟩ := h
        obtain ⟨hl, hK⟩ := sized_iff hz
        have hv := LV.fits_val hf (by simp)
        rcases I.hb id _ e with ⟨_, h0⟩ | ⟨b, rest, h1, h2, h3, h4, h5⟩
        · rw [h0] at hy; simp at hy
        · refine ⟨_, ((Tup.enc ks y).drop off).take ti.size, hK, ((lvs_fits bs ks y).drop off).take _, ?_, ⟨⟨b, ix * esz + off, none⟩, ?_, ?_⟩, good_sub (good_lvs _ _ ks y) _ _⟩
          · rw [(((lvs_fits bs ks y).drop off).take _).length]; exact hl
          · rw [hv]; simp [LV.conc, h1, ptAd]
          · refine lies_block h3 _ _ fun j c hc => ?_
            have := flat_get ks xs ix y hy (off + j) c (take_drop_get off ti.size j hc)
            have hlt : ix * ks.length + (off + j) < (flat ks xs).length := by
              rcases Nat.lt_or_ge (ix * ks.length + (off + j)) (flat ks xs).length with h | h
              · exact h
              · rw [List.getElem?_eq_none h] at this; cases this
            subst e2
            rw [Nat.add_assoc]
            simp only [List.getElem?_toArray]
            rw [List.getElem?_append_left hlt]
            exact this
      · rw [e1] at h; exact h.elim
    · exact h.elim
  · -- a pointer to what is read alone
    rename_i p
    obtain ⟨y, ⟨ad, rfl, hsp, hr⟩, hK⟩ := h
    have hv := LV.fits_val hf (by simp)
    refine ⟨_, Tup.enc ti.ks y, hK, lvs_fits bs ti.ks y, by rw [Tup.enc_length, hk], ⟨ad, hv, ?_⟩, good_lvs _ _ _ y⟩
    rw [addr_eta hsp]
    exact rcells_lies I.sees hr 0 _ fun j c hc => by simpa using hc
  · exact h.elim
theorem packed_fits {ti : TI} {cs : List LV} {vs : List Value} (hf : FitsL bs cs vs) (hl : vs.length = ti.size) (h1 : ti.agg = false → ti.size = 1) :
    (packed ti cs).fits bs (if ti.agg = true then .agg vs.toArray else vs.getD 0 undef) := by
  unfold packed
  cases h : ti.agg with
  | true => exact ⟨vs, hf, rfl⟩
  | false =>
    rw [h1 h] at hl
    obtain ⟨v, rfl⟩ := List.length_eq_one_iff.1 hl
    obtain ⟨c, rfl⟩ := List.length_eq_one_iff.1 hf.length.symm
    exact hf.1
theorem packed_good {ti : TI} {cs : List LV} {A : Nat → Prop} (h : ∀ c ∈ cs, c.good A R) : (packed ti cs).good A R := by
  unfold packed
  split
  · exact h
  · split
    · exact good_l (h _ (by simp))
    · exact good_l (good_of_not (fun _ => rfl) trivial)
theorem Inv.load (I : Inv w0 M0 R0 n dfs bs S R a w) {P : Program} {t : TypeId} {x : SV} {v : Value} {ti : TI} {K : List LV → Prop} (ht : TOk P t ti) (hf : x.fits bs v) (hg : x.good (Alive S) R) (h : KE.readAt S.hid R x ti K) :
    ∃ cs u, (Instr.loadAt t v).run P w = .ok u w ∧ K cs ∧ (packed ti cs).fits bs u ∧ (packed ti cs).good (Alive S) R := by
  obtain ⟨cs, vs, hK, hfl, hl, ⟨ad, rfl, hc⟩, hgd⟩ := I.readAt ht.ksl hf hg h
  refine ⟨cs, _, ?_, hK, packed_fits hfl hl ht.one, packed_good hgd⟩
  simp only [Instr.loadAt, Instr.sureAddr, loadVar, Sem.run_bind, Sem.run_pure, Result.andThen_ok, ht.agg]
  cases hag : ti.agg with
  | true =>
    simp only [if_true, Sem.run_bind, ht.run_size, Result.andThen_ok]
    rw [← hl, run_loadCells_list w ad vs hc]
    rfl
  | false =>
    have h1 := ht.one hag
    rw [h1] at hl
    match vs, hl with
    | [u], _ =>
      have := hc 0 u rfl
      simp only [Addr.add, if_true] at this
      simp [run_load, this]
end
end Go.KE

/- The engine, part H: sums and tests. -/
namespace Go.KE
open Go.RowKit (Below)

theorem isSl_und {cx : Cx} (hT : TblOk cx.P cx.tbl) {t : TypeId} (h : isSl cx t = true) : ∃ e, cx.P.underlying t = some (.slice e) := by
  unfold isSl at h
  split at h
  · rename_i ti e
    have := (hT t ti e).und
    split at h
    · rename_i e' hu; rw [hu] at this; exact ⟨e', this⟩
    · cases h
  · cases h
theorem isStr_und {cx : Cx} (hT : TblOk cx.P cx.tbl) {t : TypeId} (h : isStr cx t = true) : cx.P.underlying t = some .string := by
  unfold isStr at h
  split at h
  · rename_i ti e
    have := (hT t ti e).und
    split at h
    · rename_i hu; rw [hu] at this; exact this
    · cases h
  · cases h
theorem isPt_und {cx : Cx} (hT : TblOk cx.P cx.tbl) {t : TypeId} (h : isPt cx t = true) : ∃ e, cx.P.underlying t = some (.pointer e) := by
  unfold isPt at h
  split at h
  · rename_i ti e
    have := (hT t ti e).und
    split at h
    · rename_i e' hu; rw [hu] at this; exact ⟨e', this⟩
    · cases h
  · cases h
theorem isIfc_und {cx : Cx} (hT : TblOk cx.P cx.tbl) {t : TypeId} (h : isIfc cx t = true) : ∃ ms, cx.P.underlying t = some (.interface ms) := by
  unfold isIfc at h
  split at h
  · rename_i ti e
    have := (hT t ti e).und
    split at h
    · rename_i hu; rw [hu] at this; exact this
    · cases h
  · cases h
theorem isBool_und {cx : Cx} (hT : TblOk cx.P cx.tbl) {t : TypeId} (h : isBool cx t = true) : cx.P.underlying t = some .bool := by
  unfold isBool at h
  split at h
  · rename_i ti e
    have := (hT t ti e).und
    split at h
    · rename_i hu; rw [hu] at this; exact this
    · cases h
  · cases h

/-- The run of a test or a sum. -/
def bin (op : BinOp) (t : TypeId) (x y : Operand) (a b : Value) : Sem Value := do eqGuard op t x y a b; binOp op t a b
theorem run_eqGuard {P : Program} {w : World} (op : BinOp) (t : TypeId) (x y : Operand) (a b : Value) (h1 : a ≠ .nilIface ∨ b ≠ .nilIface) (h2 : (∀ cs, a ≠ .agg cs) ∨ (∀ cs, b ≠ .agg cs)) : (eqGuard op t x y a b).run P w = .ok () w := by
  unfold eqGuard
  cases op <;> simp only [Bool.not_true, Bool.not_false, if_true, Sem.run_pure, Bool.false_eq_true, if_false]
  all_goals first | rfl | skip
  all_goals
    split
    · rcases h1 with h | h <;> exact absurd rfl h
    · rcases h2 with h | h <;> exact absurd rfl (h _)
    · rfl
theorem run_eqlOnly {P : Program} {w : World} {op : BinOp} {t : TypeId} {x y : Operand} {a b : Value} {q : Bool} {K : SV → Prop} (hg : (eqGuard op t x y a b).run P w = .ok () w)
    (he : (binOp .eql t a b).run P w = .ok (.bool q) w) (hn : (binOp .neq t a b).run P w = .ok (.bool !q) w) (h : eqlOnly op q K) :
    ∃ sv v, (bin op t x y a b).run P w = .ok v w ∧ K (.l sv) ∧ (∀ bs, sv.fits bs v) ∧ ∀ A R, sv.good A R := by
  unfold eqlOnly at h
  split at h
  · exact ⟨.bool q, .bool q, by simp only [bin, Sem.run_bind, hg, Result.andThen_ok, he], h, fun _ => .inr rfl, fun _ _ => good_of_not (fun _ => rfl) trivial⟩
  · exact ⟨.bool (!q), .bool !q, by simp only [bin, Sem.run_bind, hg, Result.andThen_ok, hn], h, fun _ => .inr rfl, fun _ _ => good_of_not (fun _ => rfl) trivial⟩
  · exact h.elim
theorem run_equal_step {P : Program} {w : World} (t : TypeId) (x y : Value) (q : Bool) (h : (Op.equalIn (9999 + 1) t x y).run P w = .ok q w) : (Op.equal t x y).run P w = .ok q w := h
theorem run_eq_sl {P : Program} {w : World} {t e : TypeId} (a : Option Addr) (l c : Nat) (h : P.underlying t = some (.slice e)) : (Op.equal t (.slice a l c) (.slice none 0 0)).run P w = .ok a.isNone w := by
  refine run_equal_step t _ _ _ ?_
  rw [Op.equalIn]
  cases a <;> simp [run_und h]
theorem run_eq_ifc {P : Program} {w : World} {t : TypeId} {ms : Array (String × TypeId)} (v : Option (TypeId × Value)) (h : P.underlying t = some (.interface ms)) : (Op.equal t (ifcV v) .nilIface).run P w = .ok v.isNone w := by
  refine run_equal_step t _ _ _ ?_
  rw [Op.equalIn]
  cases v <;> simp [run_und h, ifcV]
theorem run_eq_bool {P : Program} {w : World} {t : TypeId} (p q : Bool) (h : P.underlying t = some .bool) : (Op.equal t (.bool p) (.bool q)).run P w = .ok (p == q) w := by
  refine run_equal_step t _ _ _ ?_
  rw [Op.equalIn]
  simp [run_und h]
theorem asBool_fits {bs : Bs} {x : LV} {q : Bool} {v : Value} (h : x.asBool = some q) (hf : x.fits bs v) : v = .bool q := by
  cases x <;> simp [LV.asBool] at h <;> subst h <;> exact (LV.fits_val hf (by simp)).trans rfl
theorem evBin_sound {cx : Cx} (hT : TblOk cx.P cx.tbl) {w : World} {bs : Bs} {op : BinOp} {t : TypeId} (xo yo : Operand) {x y : SV} {a b : Value} {K : SV → Prop} (hx : x.fits bs a) (hy : y.fits bs b)
    (hc : y = .l (.ifc none) → ∃ v, yo = .const v) (h : evBin cx t op x y K) :
    ∃ sv v, (bin op t xo yo a b).run cx.P w = .ok v w ∧ K (.l sv) ∧ (∀ bs, sv.fits bs v) ∧ ∀ A R, sv.good A R := by
  have done : ∀ (sv : LV) (v : Value), (bin op t xo yo a b).run cx.P w = .ok v w → K (.l sv) → (∀ bs, sv.conc bs = v) → (∀ id, sv.says id = false) → (∀ R, sv.adrOk R) →
      ∃ sv v, (bin op t xo yo a b).run cx.P w = .ok v w ∧ K (.l sv) ∧ (∀ bs, sv.fits bs v) ∧ ∀ A R, sv.good A R :=
    fun sv v h1 h2 h3 h4 h5 => ⟨sv, v, h1, h2, fun bs => .inr (h3 bs).symm, fun A R => good_of_not h4 (h5 R)⟩
  unfold evBin at h
  split at h
  · -- integers
    rename_i k m k' n
    obtain rfl := LV.fits_val hx (by simp)
    obtain rfl := LV.fits_val hy (by simp)
    have hg : (eqGuard op t xo yo (.int k m) (.int k' n)).run cx.P w = .ok () w := run_eqGuard op t xo yo _ _ (.inl (by simp)) (.inl (by simp))
    cases op <;> simp only at h
    case shl => exact done _ _ (by simp only [LV.conc, bin, Sem.run_bind, hg, Result.andThen_ok, binOp, Op.shift, if_neg (show ¬ n < 0 by omega), Sem.run_pure]) h.2 (fun _ => rfl) (fun _ => rfl) (fun _ => trivial)
    case shr => exact done _ _ (by simp only [LV.conc, bin, Sem.run_bind, hg, Result.andThen_ok, binOp, Op.shift, if_neg (show ¬ n < 0 by omega), Sem.run_pure]) h.2 (fun _ => rfl) (fun _ => rfl) (fun _ => trivial)
    all_goals (split at h; case isFalse => exact h.elim)
    all_goals (rename_i hk; subst hk)
    all_goals first
      | exact h.elim
      | (have hn := h.1
         exact done _ _ (by simp only [LV.conc, bin, Sem.run_bind, hg, Result.andThen_ok, binOp, ne_eq, not_true_eq_false, if_false, Op.intDiv, if_neg hn, Sem.run_pure]) h.2 (fun _ => rfl) (fun _ => rfl) (fun _ => trivial))
      | exact done _ _ (by simp only [LV.conc, bin, Sem.run_bind, hg, Result.andThen_ok, binOp, ne_eq, not_true_eq_false, if_false, Op.intArith, Op.intBits, Op.intCmp, Sem.run_pure]) h (fun _ => rfl) (fun _ => rfl) (fun _ => trivial)
  · -- texts
    rename_i s u
    obtain rfl := LV.fits_val hx (by simp)
    obtain rfl := LV.fits_val hy (by simp)
    have hg : (eqGuard op t xo yo (.string s) (.string u)).run cx.P w = .ok () w := run_eqGuard op t xo yo _ _ (.inl (by simp)) (.inl (by simp))
    split at h
    · have h1 := h.1
      exact done _ _ (by simp only [LV.conc, bin, Sem.run_bind, hg, Result.andThen_ok, binOp, run_string_add_sum w s u h1]) h.2 (fun _ => rfl) (fun _ => rfl) (fun _ => trivial)
    all_goals first
      | exact h.elim
      | exact done _ _ (by simp only [LV.conc, bin, Sem.run_bind, hg, Result.andThen_ok, binOp, Op.stringOp, Sem.run_pure, sEq, sLt]) h (fun _ => rfl) (fun _ => rfl) (fun _ => trivial)
  · -- a slice against nil
    rename_i s
    obtain rfl := LV.fits_val hx (by simp)
    obtain rfl := LV.fits_val hy (by simp)
    split at h
    · rename_i hs
      obtain ⟨e, hu⟩ := isSl_und hT hs
      exact run_eqlOnly (run_eqGuard op t xo yo _ _ (.inl (by simp [LV.conc, Sl.val])) (.inl (by simp [LV.conc, Sl.val])))
        (by simp only [LV.conc, Sl.val, binOp, Sem.run_bind, run_eq_sl s.a s.len s.cap hu, Result.andThen_ok, Sem.run_pure])
        (by simp only [LV.conc, Sl.val, binOp, Sem.run_bind, run_eq_sl s.a s.len s.cap hu, Result.andThen_ok, Sem.run_pure]) h
    · exact h.elim
  · -- a pointer against nil
    rename_i p p'
    split at h
    · obtain rfl := LV.fits_val hx (by simp)
      obtain rfl := LV.fits_val hy (by simp)
      split at h
      · rename_i hs
        obtain ⟨e, hu⟩ := isPt_und hT hs
        have hu' : cx.P.underlying t = some (.pointer (cx.P.pointee t)) := by simp [Program.pointee, hu]
        exact run_eqlOnly (run_eqGuard op t xo yo _ _ (.inl (by simp [LV.conc])) (.inl (by simp [LV.conc])))
          (by simp only [LV.conc]; rw [run_eql_pointer_nil w t p hu'])
          (by simp only [LV.conc]; rw [run_neq_pointer_nil w t p hu']) h
      · exact h.elim
    · exact h.elim
  · -- an interface against nil
    rename_i v u
    split at h
    · obtain rfl := LV.fits_val hx (by simp)
      obtain rfl := LV.fits_val hy (by simp)
      split at h
      · rename_i hs
        obtain ⟨ms, hu⟩ := isIfc_und hT hs
        obtain ⟨cv, rfl⟩ := hc rfl
        have he := run_eq_ifc (P := cx.P) (w := w) v hu
        cases v with
        | none =>
          simp only [ifcV] at he
          exact run_eqlOnly (by simp only [LV.conc, ifcV, eqGuard]; cases op <;> simp) (by simp only [LV.conc, ifcV, binOp, Sem.run_bind, he, Result.andThen_ok, Sem.run_pure])
            (by simp only [LV.conc, ifcV, binOp, Sem.run_bind, he, Result.andThen_ok, Sem.run_pure]) h
        | some z =>
          simp only [ifcV] at he
          exact run_eqlOnly (run_eqGuard op t xo _ _ _ (.inl (by simp [LV.conc, ifcV])) (.inl (by simp [LV.conc, ifcV]))) (by simp only [LV.conc, ifcV, binOp, Sem.run_bind, he, Result.andThen_ok, Sem.run_pure])
            (by simp only [LV.conc, ifcV, binOp, Sem.run_bind, he, Result.andThen_ok, Sem.run_pure]) h
      · exact h.elim
    · exact h.elim
  · -- structs
    rename_i cs ds
    split at h
    · rename_i vs us e1 e2
      obtain ⟨q, ⟨hq1, hq2⟩, h⟩ := h
      obtain ⟨vs', f1, rfl⟩ := hx
      obtain ⟨us', f2, rfl⟩ := hy
      obtain rfl := pureL_fits e1 f1
      obtain rfl := pureL_fits e2 f2
      exact run_eqlOnly (run_eqGuard_agg w op t xo yo _ _ hq1) (by rw [run_eql_struct, hq2]; rfl) (by rw [run_neq_struct, hq2]; rfl) h
    · exact h.elim
  · -- truth values
    rename_i x' y' _ _ _ _ _
    split at h
    · rename_i q q' e1 e2
      split at h
      · rename_i hs
        have hu := isBool_und hT hs
        obtain rfl := asBool_fits e1 hx
        obtain rfl := asBool_fits e2 hy
        exact run_eqlOnly (run_eqGuard op t xo yo _ _ (.inl (by simp)) (.inl (by simp)))
          (by simp only [binOp, Sem.run_bind, run_eq_bool q q' hu, Result.andThen_ok, Sem.run_pure]) (by simp only [binOp, Sem.run_bind, run_eq_bool q q' hu, Result.andThen_ok, Sem.run_pure]) h
      · exact h.elim
    · exact h.elim
  · exact h.elim
theorem evUn_sound {P : Program} {w : World} {bs : Bs} {op : UnOp} {x : SV} {a : Value} {K : SV → Prop} (hx : x.fits bs a) (h : evUn op x K) :
    ∃ sv v, (Op.unary op a).run P w = .ok v w ∧ K (.l sv) ∧ (∀ bs, sv.fits bs v) ∧ ∀ A R, sv.good A R := by
  unfold evUn at h
  split at h
  all_goals first
    | exact h.elim
    | (obtain rfl := LV.fits_val hx (by simp)
       refine ⟨_, _, ?_, h, fun _ => .inr rfl, fun _ _ => good_of_not (fun _ => rfl) trivial⟩
       simp [LV.conc, Op.unary, Op.intArith, Op.intBits])
end Go.KE
