/- A checker for the code of a function that writes nothing that was there, and its soundness: part 5. -/
import Derived.Test.YthobhcbaddcbgaaDoorK4
/- The engine, part 2O: a body to which own things are handed over. -/
namespace Go.KE
open Go.RowKit (Below)

def rvSV (S : St) : ResultVar → SV
  | .tmp t => S.env t
  | .cell _ _ => .l .no
def pureVars : List ResultVar → List XR → List ResultVar
  | r :: rs, .pure _ :: xs => r :: pureVars rs xs
  | _ :: rs, _ :: xs => pureVars rs xs
  | _, _ => []
def retXs (S : St) (R : Hp) (tbl : TypeId → Option TI) : List ResultVar → List XR → (List (Option Value) → Prop) → Prop
  | [], [], K => K []
  | .tmp t :: rs, .pure _ :: xs, K => match (S.env t).pure with
    | some v => retXs S R tbl rs xs fun vs => K (some v :: vs)
    | none => False
  | .cell t T :: rs, .pure _ :: xs, K => match tbl T with
    | some ti => readAt S.hid R (S.env t) ti fun cs => match (packed ti cs).pure with
      | some v => retXs S R tbl rs xs fun vs => K (some v :: vs)
      | none => False
    | none => False
  | .tmp _ :: rs, .row _ :: xs, K => retXs S R tbl rs xs fun vs => K (none :: vs)
  | .tmp _ :: rs, .adr _ _ :: xs, K => retXs S R tbl rs xs fun vs => K (none :: vs)
  | _, _, _ => False
def resRoots : Nat → List XR → List SV → Option (List (Nat × Nat))
  | _, [], [] => some []
  | j, .pure _ :: xs, _ :: vs => resRoots (j + 1) xs vs
  | j, .row rt :: xs, .l x :: vs => match rowSrc rt x with
    | some (some id) => (match resRoots (j + 1) xs vs with
      | some m => some ((RB + j, id) :: m)
      | none => none)
    | some none => resRoots (j + 1) xs vs
    | none => none
  | j, .adr _ _ :: xs, .l (.adr id o) :: vs => match Nat.beq o 0, resRoots (j + 1) xs vs with
    | true, some m => some ((RB + j, id) :: m)
    | _, _ => none
  | _, _, _ => none
def selfNames : List (Nat × TypeId × Nat) → List (Nat × Nat)
  | [] => []
  | (u, _, _) :: bs => (u, u) :: selfNames bs
/-- What stays must keep its name. -/
def okStay (m : List (Nat × Nat)) : List (Nat × TypeId × Nat) → Bool
  | [] => true
  | (u, _, _) :: bs => match (match lk m u with | some i => Nat.beq i u | none => true) with | true => okStay m bs | false => false
def okRes (is : List LI) : Nat → List XR → Bool
  | _, [] => true
  | j, .row rt :: xs => match hasRow (RB + j) rt is with | true => okRes is (j + 1) xs | false => false
  | j, _ :: xs => okRes is (j + 1) xs
def evEndX (cx : Cx) (sig : XS) (rs : List ResultVar) (S : St) (R : Hp) (K : List (Option Value) → LTup sig.outs → Hp → Prop) : Prop :=
  frzRet 16 (pureVars rs sig.res) S R fun S R => retXs S R cx.tbl rs sig.res fun vs =>
    match resRoots 0 sig.res (rs.map (rvSV S)) with
    | none => False
    | some m0 => match asKids S.hid sig.okids (selfNames (argBlks 0 sig.args) ++ m0) with
      | none => False
      | some m1 => match okStay (asRows S.hid sig.outs m1) sig.inB && okRes sig.outs 0 sig.res with
        | false => False
        | true => match canonX (asRows S.hid sig.outs m1) S.hid (argEnv RB (rs.map (rvSV S))) sig.outB sig.outs with
          | none => False
          | some d => K vs d R
def evBodyX (cx : Cx) (c : Code) (rs : List ResultVar) (sig : XS) (svs : List SV) (d : LTup sig.ins) (R : Hp) (K : List (Option Value) → LTup sig.outs → Hp → Prop) : Prop :=
  match allB (fun p => Nat.ble cx.n p && memB p cx.fx) (sig.inB.map (·.1)) with
  | false => False
  | true => evC cx c (fun e S R => match e with
    | .normal => evEndX cx sig rs S R K
    | .ret => evEndX cx sig rs S R K
    | _ => False) ⟨envOf svs, objX sig.inB sig.ins d, fun _ => true, fun _ => true⟩ R
section
variable {w0 : World} {M0 : Mod} {R0 : Hp} {n : Nat} {dfs : List Deferred} {bs : Bs} {S S' : St} {R : Hp} {a : Act} {w : World}
/-- The values of the results, told by the state. -/
def resOk (bs : Bs) (S : St) : List ResultVar → List XR → List (Option Value) → List Value → Prop
  | [], [], [], us => us = []
  | _ :: rs, .pure _ :: xs, some v :: vs, u :: us => u = v ∧ resOk bs S rs xs vs us
  | r :: rs, .row _ :: xs, none :: vs, u :: us => (rvSV S r).fits bs u ∧ resOk bs S rs xs vs us
  | r :: rs, .adr _ _ :: xs, none :: vs, u :: us => (rvSV S r).fits bs u ∧ resOk bs S rs xs vs us
  | _, _, _, _ => False
theorem retXs_sound (I : Inv w0 M0 R0 n dfs bs S R a w) {P : Program} {tbl : TypeId → Option TI} (hT : TblOk P tbl) : ∀ (rs : List ResultVar) (xs : List XR) {K : List (Option Value) → Prop}, retXs S R tbl rs xs K → ∃ us vs, (rs.mapM (resOne a.tmps)).run P w = .ok us w ∧ resOk bs S rs xs vs us ∧ K vs
  | [], [], K, h => ⟨[], [], rfl, rfl, h⟩
  | .tmp t :: rs, .pure _ :: xs, K, h => by
    simp only [retXs] at h
    split at h
    · rename_i v hv
      obtain ⟨us, vs, h1, h2, h3⟩ := retXs_sound I hT rs xs h
      refine ⟨v :: us, some v :: vs, ?_, ⟨rfl, h2⟩, h3⟩
      have := pureS_fits hv (I.env t)
      rw [List.mapM_cons]
      simp only [resOne, this, Sem.run_bind, Sem.run_pure, Result.andThen_ok, h1]
    · exact h.elim
  | .cell t T :: rs, .pure _ :: xs, K, h => by
    simp only [retXs] at h
    split at h
    · rename_i ti hti
      have hTT := hT T ti hti
      obtain ⟨cs0, vs0, _, _, _, ⟨ad, had, _⟩, _⟩ := I.readAt hTT.ksl (I.env t) (I.good t) h
      obtain ⟨cs, u, r1, r2, r3, _⟩ := I.load hTT (I.env t) (I.good t) h
      split at r2
      · rename_i v hv
        obtain ⟨us, vs, h1, h2, h3⟩ := retXs_sound I hT rs xs r2
        have hu := pureS_fits hv r3
        subst hu
        refine ⟨u :: us, some u :: vs, ?_, ⟨rfl, h2⟩, h3⟩
        rw [List.mapM_cons]
        have hl : (resOne a.tmps (.cell t T)).run P w = .ok u w := by
          rw [had] at r1
          simp only [Instr.loadAt, Instr.sureAddr, Sem.run_bind, Sem.run_pure, Result.andThen_ok] at r1
          simp only [resOne, had, asAddr, Sem.run_bind, Sem.run_pure, Result.andThen_ok, r1]
        simp only [Sem.run_bind, hl, Sem.run_pure, Result.andThen_ok, h1]
      · exact r2.elim
    · exact h.elim
  | .tmp t :: rs, .row _ :: xs, K, h => by
    simp only [retXs] at h
    obtain ⟨us, vs, h1, h2, h3⟩ := retXs_sound I hT rs xs h
    refine ⟨a.tmps.getD t undef :: us, none :: vs, ?_, ⟨I.env t, h2⟩, h3⟩
    rw [List.mapM_cons]
    simp only [resOne, Sem.run_bind, Sem.run_pure, Result.andThen_ok, h1]
  | .tmp t :: rs, .adr _ _ :: xs, K, h => by
    simp only [retXs] at h
    obtain ⟨us, vs, h1, h2, h3⟩ := retXs_sound I hT rs xs h
    refine ⟨a.tmps.getD t undef :: us, none :: vs, ?_, ⟨I.env t, h2⟩, h3⟩
    rw [List.mapM_cons]
    simp only [resOne, Sem.run_bind, Sem.run_pure, Result.andThen_ok, h1]
  | .cell _ _ :: _, .row _ :: _, K, h => by simp [retXs] at h
  | .cell _ _ :: _, .adr _ _ :: _, K, h => by simp [retXs] at h
  | [], _ :: _, K, h => by simp [retXs] at h
  | .tmp _ :: _, [], K, h => by simp [retXs] at h
  | .cell _ _ :: _, [], K, h => by simp [retXs] at h
end
end Go.KE

/- The engine, part 2P: a body to which own things are handed over: the contract. -/
namespace Go.KE
open Go.RowKit (Below)

theorem objX_cells {blks : List (Nat × TypeId × Nat)} {is : List LI} {d : LTup is} {j : Nat} {T : TypeId} {cs : List LV} (h : objX blks is d j = some (.cells T cs)) : isRowOf j is = false ∧ ∃ n, blkOf j blks = some (T, n) := by
  have key : ∀ (is : List LI) (d : LTup is) (old : Option HB), rowX old j is d = some (.cells T cs) → isRowOf j is = false ∧ old = some (.cells T cs) := by
    intro is
    induction is with
    | nil => intro d old h; exact ⟨rfl, h⟩
    | cons i is ih =>
      intro d old h
      cases i with
      | tmp u k => rw [rowX_tmp] at h; exact ih _ old h
      | cell u o k => rw [rowX_cell] at h; exact ih _ old h
      | cadr u o => rw [rowX_cadr] at h; exact ih _ old h
      | cfn u o f => rw [rowX_cfn] at h; exact ih _ old h
      | row u rt =>
        rw [rowX_row] at h
        simp only [isRowOf]
        rcases beq_cases u j with ⟨e, h'⟩ | ⟨e, h'⟩
        · rw [if_pos h'] at h; cases h
        · rw [if_neg h'] at h; rw [e]; exact ih _ old h
      | crow u o rt =>
        rw [rowX_crow] at h
        simp only [isRowOf]
        rcases beq_cases (crowId u o) j with ⟨e, h'⟩ | ⟨e, h'⟩
        · rw [if_pos h'] at h; cases h
        · rw [if_neg h'] at h; rw [e]; exact ih _ old h
  obtain ⟨h1, h2⟩ := key is d _ h
  refine ⟨h1, ?_⟩
  split at h2
  · rename_i T' n e
    cases h2
    exact ⟨n, e⟩
  · cases h2
theorem blkOf_mem {j : Nat} {p : TypeId × Nat} : ∀ {l : List (Nat × TypeId × Nat)}, blkOf j l = some p → j ∈ l.map (·.1)
  | (u, T, n) :: bs, h => by
    simp only [blkOf] at h
    rcases beq_cases u j with ⟨e, rfl⟩ | ⟨e, _⟩
    · simp
    · rw [e] at h; simp only [List.map_cons, List.mem_cons]; exact .inr (blkOf_mem h)
theorem okStay_iff {m : List (Nat × Nat)} {j : Nat} : ∀ {l : List (Nat × TypeId × Nat)}, okStay m l = true → j ∈ l.map (·.1) → ∀ i, lk m j = some i → i = j
  | (u, T, n) :: bs, h, hj, i, hi => by
    simp only [okStay] at h
    split at h
    · rename_i e
      rcases List.mem_cons.1 hj with rfl | hj
      · rw [hi] at e
        exact Nat.eq_of_beq_eq_true e
      · exact okStay_iff h hj i hi
    · cases h
section
variable {w0 : World} {M0 : Mod} {R0 : Hp} {n : Nat} {dfs : List Deferred} {bs : Bs} {S S' : St} {R : Hp} {a : Act} {w : World}
theorem argEnv_good {A : Nat → Prop} {base : Nat} {xs : List SV} (h : ∀ x ∈ xs, x.good A R) (t : Nat) : (argEnv base xs t).good A R := by
  unfold argEnv
  split
  · split
    · rename_i x e
      exact (h _ (List.mem_of_getElem? e)).l
    · exact good_of_not (fun _ => rfl) trivial
  · exact good_of_not (fun _ => rfl) trivial
theorem rvSV_good (I : Inv w0 M0 R0 n dfs bs S R a w) (rs : List ResultVar) : ∀ x ∈ rs.map (rvSV S), x.good (Alive S) R := by
  intro x hx
  obtain ⟨r, _, rfl⟩ := List.mem_map.1 hx
  cases r with
  | tmp t => exact I.good t
  | cell t T => exact good_l (good_of_not (fun _ => rfl) trivial)
theorem rowSrc_lv (rt : RT) (id : Nat) : rowSrc rt (rt.lv id) = some (some id) := by cases rt <;> rfl
/-- The names of the results are in the list. -/
theorem resRoots_mem : ∀ {j : Nat} {xs : List XR} {vs : List SV} {m : List (Nat × Nat)}, resRoots j xs vs = some m → ∀ (k : Nat), (∀ rt id, xs[k]? = some (.row rt) → vs[k]? = some (.l (rt.lv id)) → (RB + (j + k), id) ∈ m) ∧ (∀ T n', xs[k]? = some (.adr T n') → ∃ id, vs[k]? = some (.l (.adr id 0)) ∧ (RB + (j + k), id) ∈ m)
  | j, [], [], m, h => fun k => ⟨fun rt id e => by simp at e, fun T n' e => by simp at e⟩
  | j, .pure _ :: xs, _ :: vs, m, h => fun k => by
    simp only [resRoots] at h
    cases k with
    | zero => exact ⟨fun rt id e => by simp at e, fun T n' e => by simp at e⟩
    | succ k =>
      have := resRoots_mem h k
      rw [show j + 1 + k = j + (k + 1) by omega] at this
      simpa using this
  | j, .row rt0 :: xs, .l x :: vs, m, h => fun k => by
    simp only [resRoots] at h
    split at h
    · rename_i id0 hs
      split at h
      · rename_i m' h'
        obtain rfl := Option.some.inj h
        cases k with
        | zero =>
          refine ⟨fun rt id e1 e => ?_, fun T n' e => by simp at e⟩
          simp only [List.getElem?_cons_zero, Option.some.injEq, XR.row.injEq, SV.l.injEq] at e1 e
          subst e1
          subst e
          rw [rowSrc_lv] at hs
          cases hs
          simp
        | succ k =>
          have := resRoots_mem h' k
          rw [show j + 1 + k = j + (k + 1) by omega] at this
          refine ⟨fun rt id e1 e2 => List.mem_cons_of_mem _ (this.1 rt id (by simpa using e1) (by simpa using e2)), fun T n' e1 => ?_⟩
          obtain ⟨id, e2, e3⟩ := this.2 T n' (by simpa using e1)
          exact ⟨id, by simpa using e2, List.mem_cons_of_mem _ e3⟩
      · cases h
    · rename_i hs
      cases k with
      | zero =>
        refine ⟨fun rt id e1 e => ?_, fun T n' e => by simp at e⟩
        simp only [List.getElem?_cons_zero, Option.some.injEq, XR.row.injEq, SV.l.injEq] at e1 e
        subst e1
        subst e
        rw [rowSrc_lv] at hs
        cases hs
      | succ k =>
        have := resRoots_mem h k
        rw [show j + 1 + k = j + (k + 1) by omega] at this
        simpa using this
    · cases h
  | j, .adr _ _ :: xs, .l (.adr id0 o) :: vs, m, h => fun k => by
    simp only [resRoots] at h
    split at h
    · rename_i m' ho h'
      obtain rfl := Option.some.inj h
      have ho := Nat.eq_of_beq_eq_true ho
      subst ho
      cases k with
      | zero => exact ⟨fun rt id e _ => by simp at e, fun T n' _ => ⟨id0, rfl, by simp⟩⟩
      | succ k =>
        have := resRoots_mem h' k
        rw [show j + 1 + k = j + (k + 1) by omega] at this
        refine ⟨fun rt id e1 e2 => List.mem_cons_of_mem _ (this.1 rt id (by simpa using e1) (by simpa using e2)), fun T n' e1 => ?_⟩
        obtain ⟨id, e2, e3⟩ := this.2 T n' (by simpa using e1)
        exact ⟨id, by simpa using e2, List.mem_cons_of_mem _ e3⟩
    · cases h
theorem hasRow_at {S : St} {j : Nat} {rt : RT} : ∀ {is : List LI}, (rowNums is).Nodup → hasRow j rt is = true → rowAt S j is = some (LI.src S (.row j rt))
  | .tmp _ _ :: is, hn, h => hasRow_at (is := is) hn h
  | .cell _ _ _ :: is, hn, h => hasRow_at (is := is) hn h
  | .cadr _ _ :: is, hn, h => hasRow_at (is := is) hn h
  | .cfn _ _ _ :: is, hn, h => hasRow_at (is := is) hn h
  | .row u rt' :: is, hn, h => by
    simp only [rowNums, List.nodup_cons] at hn
    simp only [hasRow] at h
    simp only [rowAt]
    rcases beq_cases u j with ⟨e, rfl⟩ | ⟨e, hne⟩
    · rw [e] at h
      rw [if_pos rfl, of_decide_eq_true h]
    · rw [e] at h
      rw [if_neg hne]
      exact hasRow_at hn.2 h
  | .crow u o rt' :: is, hn, h => by
    simp only [rowNums, List.nodup_cons] at hn
    simp only [hasRow] at h
    have ih := hasRow_at (S := S) hn.2 h
    simp only [rowAt]
    split
    · rename_i e
      exact absurd (e ▸ rowAt_nums ih) hn.1
    · exact ih
/-- What a slot's row is, told by names. -/
theorem srcRow_ren {m : List (Nat × Nat)} {hid : Nat → Option HB} {venv : Nat → LV} {t : Nat} {rt : RT} {id u : Nat} (e : venv t = rt.lv id) (hb : bk m id = some u) : LI.src (subSt m hid venv) (.row t rt) = some u := by
  simp only [LI.src, subSt, e]
  cases rt <;> simp [RT.lv, LV.ren, hb, rowSrc]
theorem srcRow_nil {m : List (Nat × Nat)} {hid : Nat → Option HB} {venv : Nat → LV} {t : Nat} {rt : RT} (e : venv t = .nil) : LI.src (subSt m hid venv) (.row t rt) = none := by
  simp only [LI.src, subSt, e]
  cases rt <;> simp [LV.ren, rowSrc]
theorem okRes_iff {is : List LI} : ∀ {j : Nat} {xs : List XR}, okRes is j xs = true → ∀ (k : Nat) rt, xs[k]? = some (.row rt) → hasRow (RB + (j + k)) rt is = true
  | j, .row rt0 :: xs, h, k, rt, e => by
    simp only [okRes] at h
    split at h
    · rename_i e1
      cases k with
      | zero =>
        simp only [List.getElem?_cons_zero, Option.some.injEq, XR.row.injEq] at e
        exact e ▸ e1
      | succ k => rw [show j + (k + 1) = j + 1 + k by omega]; exact okRes_iff h k rt (by simpa using e)
    · cases h
  | j, .pure _ :: xs, h, k, rt, e => by
    simp only [okRes] at h
    cases k with
    | zero => simp at e
    | succ k => rw [show j + (k + 1) = j + 1 + k by omega]; exact okRes_iff h k rt (by simpa using e)
  | j, .adr _ _ :: xs, h, k, rt, e => by
    simp only [okRes] at h
    cases k with
    | zero => simp at e
    | succ k => rw [show j + (k + 1) = j + 1 + k by omega]; exact okRes_iff h k rt (by simpa using e)
end
end Go.KE

/- The engine, part 2Q: a body to which own things are handed over: the contract, the end. -/
namespace Go.KE
open Go.RowKit (Below)

section
variable {w0 : World} {M0 : Mod} {R0 : Hp} {n : Nat} {dfs : List Deferred} {bs : Bs} {S S' : St} {R : Hp} {a : Act} {w : World}
theorem vals_ok {bs bs' : Bs} {S : St} : ∀ {rs : List ResultVar} {xs : List XR} {vs : List (Option Value)} {us : List Value} {j : Nat}, resOk bs S rs xs vs us →
    (∀ (k : Nat) rt r, xs[k]? = some (.row rt) → rs[k]? = some r → ∀ u, (rvSV S r).fits bs u → (rt.lv (RB + (j + k))).conc bs' = u) →
    (∀ (k : Nat) T m r, xs[k]? = some (.adr T m) → rs[k]? = some r → ∀ u, (rvSV S r).fits bs u → (LV.adr (RB + (j + k)) 0).conc bs' = u) → resVals bs' j xs vs = us ∧ vs.length = xs.length
  | [], [], [], us, j, h, _, _ => ⟨h.symm, rfl⟩
  | r :: rs, .pure t :: xs, some v :: vs, u :: us, j, h, hr, ha => by
    obtain ⟨rfl, h⟩ := h
    obtain ⟨e1, e2⟩ := vals_ok (j := j + 1) h (fun k rt r' e1 e2 => by
      have := hr (k + 1) rt r' (by simpa using e1) (by simpa using e2)
      rw [show j + 1 + k = j + (k + 1) by omega]; exact this) (fun k T m r' e1 e2 => by
      have := ha (k + 1) T m r' (by simpa using e1) (by simpa using e2)
      rw [show j + 1 + k = j + (k + 1) by omega]; exact this)
    exact ⟨by simp only [resVals, e1], by simp [e2]⟩
  | r :: rs, .row rt0 :: xs, none :: vs, u :: us, j, h, hr, ha => by
    obtain ⟨h0, h⟩ := h
    obtain ⟨e1, e2⟩ := vals_ok (j := j + 1) h (fun k rt r' e1 e2 => by
      have := hr (k + 1) rt r' (by simpa using e1) (by simpa using e2)
      rw [show j + 1 + k = j + (k + 1) by omega]; exact this) (fun k T m r' e1 e2 => by
      have := ha (k + 1) T m r' (by simpa using e1) (by simpa using e2)
      rw [show j + 1 + k = j + (k + 1) by omega]; exact this)
    have := hr 0 rt0 r (by simp) (by simp) u h0
    exact ⟨by simp only [resVals, e1]; rw [show j = j + 0 from rfl, this], by simp [e2]⟩
  | r :: rs, .adr T0 m0 :: xs, none :: vs, u :: us, j, h, hr, ha => by
    obtain ⟨h0, h⟩ := h
    obtain ⟨e1, e2⟩ := vals_ok (j := j + 1) h (fun k rt r' e1 e2 => by
      have := hr (k + 1) rt r' (by simpa using e1) (by simpa using e2)
      rw [show j + 1 + k = j + (k + 1) by omega]; exact this) (fun k T m r' e1 e2 => by
      have := ha (k + 1) T m r' (by simpa using e1) (by simpa using e2)
      rw [show j + 1 + k = j + (k + 1) by omega]; exact this)
    have := ha 0 T0 m0 r (by simp) (by simp) u h0
    exact ⟨by simp only [resVals, e1]; rw [show j = j + 0 from rfl, this], by simp [e2]⟩
  | [], _ :: _, vs, us, j, h, _, _ => by cases vs <;> cases us <;> exact h.elim
  | _ :: _, [], vs, us, j, h, _, _ => by cases vs <;> cases us <;> exact h.elim
  | [], [], _ :: _, us, j, h, _, _ => by cases us <;> exact h.elim
  | _ :: _, .pure _ :: _, [], us, j, h, _, _ => by cases us <;> exact h.elim
  | _ :: _, .pure _ :: _, none :: _, us, j, h, _, _ => by cases us <;> exact h.elim
  | _ :: _, .pure _ :: _, some _ :: _, [], j, h, _, _ => h.elim
  | _ :: _, .row _ :: _, [], us, j, h, _, _ => by cases us <;> exact h.elim
  | _ :: _, .row _ :: _, some _ :: _, us, j, h, _, _ => by cases us <;> exact h.elim
  | _ :: _, .row _ :: _, none :: _, [], j, h, _, _ => h.elim
  | _ :: _, .adr _ _ :: _, [], us, j, h, _, _ => by cases us <;> exact h.elim
  | _ :: _, .adr _ _ :: _, some _ :: _, us, j, h, _, _ => by cases us <;> exact h.elim
  | _ :: _, .adr _ _ :: _, none :: _, [], j, h, _, _ => h.elim
end
end Go.KE

/- The engine, part 2R: what a body hands back of own things. -/
namespace Go.KE
open Go.RowKit (Below)

theorem asKids_sub {hid : Nat → Option HB} : ∀ {ks : List (Nat × Nat × TypeId × Nat)} {m m' : List (Nat × Nat)}, asKids hid ks m = some m' → ∀ p ∈ m, p ∈ m'
  | [], m, m', h, p, hp => by simp only [asKids, Option.some.injEq] at h; subst h; exact hp
  | (u, off, T, n) :: ks, m, m', h, p, hp => by
    simp only [asKids] at h
    split at h
    · split at h
      · split at h
        · split at h
          · exact asKids_sub h p (List.mem_cons_of_mem _ hp)
          · cases h
        · split at h
          · exact asKids_sub h p (List.mem_cons_of_mem _ hp)
          · cases h
        · cases h
      · cases h
    · cases h
theorem asRows_sub {hid : Nat → Option HB} : ∀ {is : List LI} {m : List (Nat × Nat)}, ∀ p ∈ m, p ∈ asRows hid is m
  | [], m, p, hp => hp
  | .tmp _ _ :: is, m, p, hp => asRows_sub (is := is) p hp
  | .cell _ _ _ :: is, m, p, hp => asRows_sub (is := is) p hp
  | .cadr _ _ :: is, m, p, hp => asRows_sub (is := is) p hp
  | .cfn _ _ _ :: is, m, p, hp => asRows_sub (is := is) p hp
  | .row _ _ :: is, m, p, hp => asRows_sub (is := is) p hp
  | .crow u off rt :: is, m, p, hp => by
    simp only [asRows]
    split
    · split
      · split
        · split
          · exact asRows_sub p (List.mem_cons_of_mem _ hp)
          · exact asRows_sub p hp
        · exact asRows_sub p hp
      · exact asRows_sub p hp
    · exact asRows_sub p hp
theorem resRoots_kind : ∀ {j : Nat} {xs : List XR} {vs : List SV} {m : List (Nat × Nat)}, resRoots j xs vs = some m → ∀ (k : Nat) rt, xs[k]? = some (.row rt) → (∃ id, vs[k]? = some (.l (rt.lv id))) ∨ (vs[k]? = some (.l .nil) ∧ ∃ T ks, rt = .sl T ks)
  | j, [], [], m, h, k, rt, e => by simp at e
  | j, .pure _ :: xs, _ :: vs, m, h, k, rt, e => by
    simp only [resRoots] at h
    cases k with
    | zero => simp at e
    | succ k => simpa using resRoots_kind h k rt (by simpa using e)
  | j, .row rt0 :: xs, .l x :: vs, m, h, k, rt, e => by
    simp only [resRoots] at h
    split at h
    · rename_i id0 hs
      split at h
      · rename_i m' h'
        cases k with
        | zero =>
          simp only [List.getElem?_cons_zero, Option.some.injEq, XR.row.injEq] at e
          subst e
          exact .inl ⟨id0, by rw [rowSrc_some hs]; rfl⟩
        | succ k => simpa using resRoots_kind h' k rt (by simpa using e)
      · cases h
    · rename_i hs
      cases k with
      | zero =>
        simp only [List.getElem?_cons_zero, Option.some.injEq, XR.row.injEq] at e
        subst e
        obtain ⟨rfl, hr⟩ := rowSrc_none hs
        exact .inr ⟨rfl, hr⟩
      | succ k => simpa using resRoots_kind h k rt (by simpa using e)
    · cases h
  | j, .adr _ _ :: xs, .l (.adr id0 o) :: vs, m, h, k, rt, e => by
    simp only [resRoots] at h
    split at h
    · rename_i m' ho h'
      cases k with
      | zero => simp at e
      | succ k => simpa using resRoots_kind h' k rt (by simpa using e)
    · cases h
theorem argEnv_at {base k : Nat} {xs : List SV} {x : LV} (h : xs[k]? = some (.l x)) : argEnv base xs (base + k) = x := by
  unfold argEnv
  rw [Nat.ble_eq_true_of_le (Nat.le_add_right base k)]
  simp only
  rw [Nat.add_sub_cancel_left, h]
section
variable {w0 : World} {M0 : Mod} {R0 : Hp} {n : Nat} {dfs : List Deferred} {bs : Bs} {S S' : St} {R : Hp} {a : Act} {w : World}
theorem blkOf_append {j : Nat} : ∀ {l l' : List (Nat × TypeId × Nat)}, j ∈ l'.map (·.1) → blkOf j (l ++ l') ≠ none
  | [], l', h => by
    have key : ∀ l : List (Nat × TypeId × Nat), j ∈ l.map (·.1) → blkOf j l ≠ none := by
      intro l
      induction l with
      | nil => intro h; simp at h
      | cons p ps ih =>
        obtain ⟨u, T, m⟩ := p
        intro h
        simp only [blkOf]
        rcases beq_cases u j with ⟨e, _⟩ | ⟨e, hne⟩
        · rw [e]; simp
        · rw [e]
          simp only [List.map_cons, List.mem_cons] at h
          rcases h with h | h
          · exact absurd h.symm hne
          · exact ih h
    exact key l' h
  | (u, T, m) :: ps, l', h => by
    simp only [List.cons_append, blkOf]
    split
    · simp
    · exact blkOf_append h
theorem resBlks_mem : ∀ {xs : List XR} {j k : Nat} {T : TypeId} {m : Nat}, xs[k]? = some (.adr T m) → RB + (j + k) ∈ (resBlks j xs).map (·.1)
  | [], _, _, _, _, h => by simp at h
  | .adr T' m' :: xs, j, k, T, m, h => by
    cases k with
    | zero => simp [resBlks]
    | succ k =>
      simp only [resBlks, List.map_cons, List.mem_cons]
      right
      rw [show j + (k + 1) = j + 1 + k by omega]
      exact resBlks_mem (T := T) (m := m) (by simpa using h)
  | .pure t :: xs, j, k, T, m, h => by
    cases k with
    | zero => simp at h
    | succ k =>
      simp only [resBlks]
      rw [show j + (k + 1) = j + 1 + k by omega]
      exact resBlks_mem (T := T) (m := m) (by simpa using h)
  | .row rt :: xs, j, k, T, m, h => by
    cases k with
    | zero => simp at h
    | succ k =>
      simp only [resBlks]
      rw [show j + (k + 1) = j + 1 + k by omega]
      exact resBlks_mem (T := T) (m := m) (by simpa using h)
theorem evEndX_sound (I : Inv w0 M0 R0 n dfs bs S R a w) {cx : Cx} (hT : TblOk cx.P cx.tbl) {fn : Func} {sig : XS} {K : List (Option Value) → LTup sig.outs → Hp → Prop} (h : evEndX cx sig fn.results.toList S R K) :
    ∃ S' R' bs' rs d', (results fn a.tmps).run cx.P w = .ok (oneV (resVals bs' 0 sig.res rs)) w ∧ rs.length = sig.res.length ∧ Inv w0 M0 R0 n dfs bs S' R' a w ∧ K rs d' R' ∧ ObjI w bs' (objX sig.outB sig.outs d') R' ∧
      (∀ j y b, objX sig.outB sig.outs d' j = some y → y.blk bs' j = some b → ∃ id z, S'.hid id = some z ∧ z.blk bs id = some b) ∧
      (∀ j T cs, j ∈ sig.inB.map (·.1) → objX sig.outB sig.outs d' j = some (.cells T cs) → (bs' j).blk = (bs j).blk) := by
  unfold evEndX at h
  obtain ⟨S1, R1, I1, l1, h1⟩ := frzRet_sound _ _ I h
  obtain ⟨us, vs, r1, r2, r3⟩ := retXs_sound I1 hT _ _ h1
  split at r3
  · exact r3.elim
  · rename_i m0 hm0
    split at r3
    · exact r3.elim
    · rename_i m1 hm1
      split at r3
      · exact r3.elim
      · rename_i hst
        rw [Bool.and_eq_true] at hst
        split at r3
        · exact r3.elim
        · rename_i d hd
          obtain ⟨N, bs', OI, cA, cB, cC, cD⟩ := canon I1 (argEnv_good (rvSV_good I1 fn.results.toList)) hd
          have hd' := hd
          unfold canonX at hd'
          split at hd'
          · rename_i hc
            simp only [Bool.and_eq_true] at hc
            have hsig := hc.1.1.2
            have hshape := hc.1.2
            unfold okSig at hsig
            rw [Bool.and_eq_true] at hsig
            have hnums := nodupB_iff hsig.2
            have inM : ∀ p ∈ m0, p ∈ asRows S1.hid sig.outs m1 := fun p hp => asRows_sub p (asKids_sub hm1 p (List.mem_append_right _ hp))
            have hlist : ∀ (k : Nat) r, fn.results.toList[k]? = some r → (fn.results.toList.map (rvSV S1))[k]? = some (rvSV S1 r) := fun k r e => by rw [List.getElem?_map, e]; rfl
            obtain ⟨v1, v2⟩ := vals_ok (j := 0) (bs' := bs') r2 (fun k rt r e1 e2 u hu => by
              rw [Nat.zero_add]
              have hrow := okRes_iff hst.2 k rt e1
              rw [Nat.zero_add] at hrow
              have hat := hasRow_at (S := subSt (asRows S1.hid sig.outs m1) S1.hid (rowEnv sig.outs (argEnv RB (fn.results.toList.map (rvSV S1))))) hnums hrow
              have hmem : memB (RB + k) (rowNums sig.outs) = true := memB_iff.2 (rowAt_nums hat)
              have henv : ∀ y, rvSV S1 r = .l y → rowEnv sig.outs (argEnv RB (fn.results.toList.map (rvSV S1))) (RB + k) = y := fun y hy => by
                simp only [rowEnv, hmem]
                rw [argEnv_at (x := y) (by rw [hlist k r e2, hy])]
              rcases resRoots_kind hm0 k rt e1 with ⟨id, e3⟩ | ⟨e3, T, ks, e4⟩
              · rw [hlist k r e2] at e3
                have e3' := Option.some.inj e3
                have hin := ((resRoots_mem hm0 k).1 rt id e1 (by rw [hlist k r e2, e3']))
                rw [Nat.zero_add] at hin
                have hlk := lk_of N.fst (inM _ hin)
                have hbk := bk_of N.snd (inM _ hin)
                rw [srcRow_ren (henv _ e3') hbk] at hat
                have hb := cC _ _ hat
                rw [e3'] at hu
                rw [LV.fits_val hu (rt.lv_no id)]
                exact rt.lv_conc (by rw [hb]; simp only [bsM, hlk])
              · rw [hlist k r e2] at e3
                have e3' := Option.some.inj e3
                rw [srcRow_nil (henv _ e3')] at hat
                have hb := cB _ hat
                rw [e3'] at hu
                rw [LV.fits_val hu (by simp)]
                exact RT.lv_nil e4 hb) (fun k T m r e1 e2 u hu => by
              rw [Nat.zero_add]
              obtain ⟨id, e3, hin⟩ := (resRoots_mem hm0 k).2 T m e1
              rw [Nat.zero_add] at hin
              rw [hlist k r e2] at e3
              have e3' := Option.some.inj e3
              have hlk := lk_of N.fst (inM _ hin)
              have hblk : blkOf (RB + k) sig.outB ≠ none := by
                unfold XS.outB
                refine blkOf_append ?_
                have := resBlks_mem (j := 0) e1
                rw [Nat.zero_add] at this
                exact this
              have hno : rowAt (subSt (asRows S1.hid sig.outs m1) S1.hid (rowEnv sig.outs (argEnv RB (fn.results.toList.map (rvSV S1))))) (RB + k) sig.outs = none := by
                rw [rowAt_isRow]
                cases e : isRowOf (RB + k) sig.outs with
                | false => rfl
                | true => exact absurd (okRows_row hsig.1 e).2.2 hblk
              have hb := cA _ hno
              rw [e3'] at hu
              rw [LV.fits_val hu (by simp)]
              simp only [LV.conc, hb, bsM, hlk])
            refine ⟨S1, R1, bs', vs, d, ?_, v2, I1, r3, OI, fun j y b hj hb => ?_, fun j T cs hj hc => ?_⟩
            · rw [v1]
              have := results_run r1
              rw [this]
              congr 1
            · obtain ⟨id, z, e1, e2, _⟩ := cD j y b hj hb
              exact ⟨id, z, e1, e2⟩
            · obtain ⟨hr, _⟩ := objX_cells hc
              have hb := cA j (rowAt_isRow.2 hr)
              rw [hb]
              unfold bsM
              cases hl : lk (asRows S1.hid sig.outs m1) j with
              | some id => simp only; rw [okStay_iff hst.1 hj id hl]
              | none =>
                exfalso
                obtain ⟨id, z, e1, e2, _⟩ := cD j _ _ hc rfl
                have hsh := hc
                -- the block is there, so its name is in the list
                obtain ⟨_, nn, hbk⟩ := objX_cells hc
                obtain ⟨cs', e3, _⟩ := okShape_iff hshape hbk
                simp only [subSt, hl] at e3
                cases e3
          · cases hd'
end
end Go.KE

/- The engine, part 2T: behind a call to which own things were handed over. -/
namespace Go.KE
open Go.RowKit (Below)

/-- What is not hit is worth the same. -/
theorem hit_conc {f g : Nat → Bool} {bs bs' : Bs} {x : LV} (h : x.hit f g = false) (hf : ∀ id, x.says id = true → f id = false → (bs' id).blk = (bs id).blk) (hg : ∀ id, x.says id = true → g id = false → bs' id = bs id) : x.conc bs' = x.conc bs := by
  cases x <;> try rfl
  · rename_i j o
    simp only [LV.conc]
    rw [hf j (by simp [LV.says]) h]
  · rename_i j
    simp only [LV.conc]
    rw [hg j (by simp [LV.says]) h]
  · rename_i j lo hi e
    simp only [LV.conc]
    rw [hg j (by simp [LV.says]) h]
  · rename_i j x o e
    simp only [LV.conc]
    rw [hg j (by simp [LV.says]) h]
  · rename_i j
    simp only [LV.conc]
    rw [hg j (by simp [LV.says]) h]
  · rename_i ff cap
    simp only [LV.conc]
    congr 2
    apply List.map_congr_left
    intro p hp
    simp only [LV.hit] at h
    rw [List.any_eq_false] at h
    rw [hf p.1 (by simp only [LV.says, List.any_eq_true]; exact ⟨p, hp, Nat.beq_refl _⟩) (by simpa using h p hp)]
theorem hitL_fits {f g : Nat → Bool} {bs bs' : Bs} : ∀ {cs : List LV} {vs : List Value}, cs.any (LV.hit f g) = false → (∀ c ∈ cs, ∀ id, c.says id = true → f id = false → (bs' id).blk = (bs id).blk) → (∀ c ∈ cs, ∀ id, c.says id = true → g id = false → bs' id = bs id) → FitsL bs cs vs → FitsL bs' cs vs
  | [], [], _, _, _, h => h
  | c :: cs, v :: vs, hh, hf, hg, h => by
    simp only [List.any_cons, Bool.or_eq_false_iff] at hh
    exact ⟨h.1.imp id fun e => e.trans (hit_conc hh.1 (hf c (by simp)) (hg c (by simp))).symm, hitL_fits hh.2 (fun c hc => hf c (by simp [hc])) (fun c hc => hg c (by simp [hc])) h.2⟩
  | [], _ :: _, _, _, _, h => h.elim
  | _ :: _, [], _, _, _, h => h.elim
end Go.KE

/- The engine, part 2U: the state behind a call to which own things were handed over. -/
namespace Go.KE
open Go.RowKit (Below)

def bsO (bs bs'' : Bs) (o : List (Nat × Nat)) (j : Nat) : Bd := match bk o j with
  | some u => bs'' u
  | none => bs j
theorem ren_conc_out {o : List (Nat × Nat)} (N : Names o) (bs bs'' : Bs) (x : LV) : x.ren (lk o) = .no ∨ (x.ren (lk o)).conc (bsO bs bs'' o) = x.conc bs'' := by
  have key : ∀ {j i : Nat}, lk o j = some i → bsO bs bs'' o i = bs'' j := fun {j i} h => by simp only [bsO, N.lk_bk.2 h]
  have cap : ∀ {cap cap' : List (Nat × Nat)}, renCap (lk o) cap = some cap' → cap'.map (fun x => Value.pointer (some ⟨(bsO bs bs'' o x.1).blk, x.2, none⟩)) = cap.map (fun x => Value.pointer (some ⟨(bs'' x.1).blk, x.2, none⟩)) := by
    intro cap
    induction cap with
    | nil => intro cap' h; simp only [renCap, Option.some.injEq] at h; subst h; rfl
    | cons p cs ih =>
      obtain ⟨j, off⟩ := p
      intro cap' h
      simp only [renCap] at h
      split at h
      · rename_i i cs' h1 h2
        obtain rfl := Option.some.inj h
        simp only [List.map_cons, ih h2, key h1]
      · cases h
  cases x <;> try exact .inr rfl
  · rename_i j o'
    simp only [LV.ren]
    split
    · rename_i i e; right; simp only [LV.conc, key e]
    · exact .inl rfl
  · rename_i j
    simp only [LV.ren]
    split
    · rename_i i e; right; simp only [LV.conc, key e]
    · exact .inl rfl
  · rename_i j lo hi e'
    simp only [LV.ren]
    split
    · rename_i i e; right; simp only [LV.conc, key e]
    · exact .inl rfl
  · rename_i j x o' e'
    simp only [LV.ren]
    split
    · rename_i i e; right; simp only [LV.conc, key e]
    · exact .inl rfl
  · rename_i j
    simp only [LV.ren]
    split
    · rename_i i e; right; simp only [LV.conc, key e]
    · exact .inl rfl
  · rename_i f cp
    simp only [LV.ren]
    split
    · rename_i cap' e
      right
      simp only [LV.conc, cap e]
    · exact .inl rfl
theorem renO_fits {o : List (Nat × Nat)} (N : Names o) {bs bs'' : Bs} {x : LV} {v : Value} (h : x.fits bs'' v) : (x.ren (lk o)).fits (bsO bs bs'' o) v := by
  rcases h with rfl | rfl
  · exact .inl rfl
  · exact (ren_conc_out N bs bs'' x).imp id Eq.symm
theorem renOL_fits {o : List (Nat × Nat)} (N : Names o) {bs bs'' : Bs} : ∀ {cs : List LV} {vs : List Value}, FitsL bs'' cs vs → FitsL (bsO bs bs'' o) (cs.map (LV.ren (lk o))) vs
  | [], [], h => h
  | _ :: _, _ :: _, h => ⟨renO_fits N h.1, renOL_fits N h.2⟩
  | [], _ :: _, h => h.elim
  | _ :: _, [], h => h.elim
theorem renO_says {b : Nat → Option Nat} {x : LV} {i : Nat} (h : (x.ren b).says i = true) : ∃ u, x.says u = true ∧ b u = some i := by
  have one : ∀ {j k : Nat}, b j = some k → Nat.beq k i = true → b j = some i := fun {j k} h1 h2 => by
    have := Nat.eq_of_beq_eq_true h2
    subst this
    exact h1
  have cap : ∀ {cap cap' : List (Nat × Nat)}, renCap b cap = some cap' → ∀ p ∈ cap', ∃ q ∈ cap, b q.1 = some p.1 := by
    intro cap
    induction cap with
    | nil => intro cap' h p hp; simp only [renCap, Option.some.injEq] at h; subst h; simp at hp
    | cons p cs ih =>
      obtain ⟨j, off⟩ := p
      intro cap' h q hq
      simp only [renCap] at h
      split at h
      · rename_i k cs' h1 h2
        obtain rfl := Option.some.inj h
        rcases List.mem_cons.1 hq with rfl | hq
        · exact ⟨(j, off), by simp, h1⟩
        · obtain ⟨r, hr, e⟩ := ih h2 q hq
          exact ⟨r, by simp [hr], e⟩
      · cases h
  cases x <;> try (cases h; done)
  · rename_i j o
    simp only [LV.ren] at h
    split at h
    · rename_i k e; exact ⟨j, by simp [LV.says], one e h⟩
    · cases h
  · rename_i j
    simp only [LV.ren] at h
    split at h
    · rename_i k e; exact ⟨j, by simp [LV.says], one e h⟩
    · cases h
  · rename_i j lo hi e'
    simp only [LV.ren] at h
    split at h
    · rename_i k e; exact ⟨j, by simp [LV.says], one e h⟩
    · cases h
  · rename_i j x o e'
    simp only [LV.ren] at h
    split at h
    · rename_i k e; exact ⟨j, by simp [LV.says], one e h⟩
    · cases h
  · rename_i j
    simp only [LV.ren] at h
    split at h
    · rename_i k e; exact ⟨j, by simp [LV.says], one e h⟩
    · cases h
  · rename_i f cp
    simp only [LV.ren] at h
    split at h
    · rename_i cap' e
      simp only [LV.says, List.any_eq_true] at h
      obtain ⟨p, hp, hb⟩ := h
      obtain ⟨q, hq, eq⟩ := cap e p hp
      exact ⟨q.1, by simp only [LV.says, List.any_eq_true]; exact ⟨q, hq, Nat.beq_refl _⟩, one eq hb⟩
    · cases h
end Go.KE

/- The engine, part 2V: the state behind a call to which own things were handed over: it is right. -/
namespace Go.KE
open Go.RowKit (Below)

section
variable {w0 : World} {M0 : Mod} {R0 : Hp} {n : Nat} {dfs : List Deferred} {bs : Bs} {S S' : St} {R : Hp} {a : Act} {w : World}
theorem after_hid {blks : List (Nat × TypeId × Nat)} {m o : List (Nat × Nat)} {hout : Nat → Option HB} {j : Nat} {h : HB} (e : (afterX blks S m o hout).hid j = some h) :
    (∃ u h', bk o j = some u ∧ hout u = some h' ∧ h = h'.ren (lk o)) ∨ (bk o j = none ∧ bk m j = none ∧ ∃ h', S.hid j = some h' ∧ (h = h' ∧ (∀ T cs, h ≠ .cells T cs) ∨ ∃ T cs, h' = .cells T cs ∧ h = .cells T (cs.map fun c => match c.hit (gone blks S.hid m o hout) (handed m) with | true => .no | false => c))) := by
  simp only [afterX] at e
  split at e
  · rename_i u eu
    left
    split at e
    · rename_i h' eh
      exact ⟨u, h', eu, eh, (Option.some.inj e).symm⟩
    · cases e
  · rename_i eo
    split at e
    · cases e
    · rename_i em
      right
      refine ⟨eo, em, ?_⟩
      cases hs : S.hid j with
      | none => rw [hs] at e; cases e
      | some x =>
        rw [hs] at e
        cases x with
        | cells T cs => exact ⟨_, rfl, .inr ⟨T, cs, rfl, (Option.some.inj e).symm⟩⟩
        | row rt xs => exact ⟨_, rfl, .inl ⟨(Option.some.inj e).symm, fun T' cs' e' => by have := Option.some.inj e; rw [← this] at e'; cases e'⟩⟩
/-- What a call leaves of the caller's state. -/
structure Aft (bs bs' bs'' : Bs) (S : St) (m o : List (Nat × Nat)) (blks : List (Nat × TypeId × Nat)) (hin hout : Nat → Option HB) : Prop where
  nm : Names m
  no : Names o
  free : ∀ u i, lk o u = some i → bk m i ≠ none ∨ S.hid i = none
  inD : ∀ j y b, hin j = some y → y.blk bs' j = some b → ∃ id z, S.hid id = some z ∧ z.blk bs id = some b ∧ ∃ u, lk m u = some id
  stay : ∀ id, stays blks S.hid m o hout id = true → (bsO bs bs'' o id).blk = (bs id).blk
theorem stays_alive {blks : List (Nat × TypeId × Nat)} {m o : List (Nat × Nat)} (No : Names o) {hout : Nat → Option HB} {id : Nat} (h : stays blks S.hid m o hout id = true) : (afterX blks S m o hout).hid id ≠ none := by
  unfold stays at h
  split at h
  · split at h
    · split at h
      · rename_i eo
        split at h
        · rename_i hb
          have hb := Nat.eq_of_beq_eq_true hb
          subst hb
          split at h
          · rename_i eh
            simp only [afterX]
            rw [No.lk_bk.2 eo]
            simp only [eh]
            simp
          · cases h
        · cases h
      · cases h
    · cases h
  · cases h
end
end Go.KE

/- The engine, part 2W: behind a call to which own things were handed over. -/
namespace Go.KE
open Go.RowKit (Below)

theorem hit_all {f g : Nat → Bool} {p : Nat → Prop} {x : LV} (h : x.hit f g = false) (hf : ∀ id, x.says id = true → f id = false → p id) (hg : ∀ id, x.says id = true → g id = false → p id) : ∀ id, x.says id = true → p id := by
  intro id hs
  cases x <;> first
    | (cases hs; done)
    | (have := Nat.eq_of_beq_eq_true hs; subst this; first | exact hf _ hs h | exact hg _ hs h)
    | skip
  rename_i ff cap
  simp only [LV.hit] at h
  rw [List.any_eq_false] at h
  have hs' := hs
  simp only [LV.says, List.any_eq_true] at hs'
  obtain ⟨q, hq, e⟩ := hs'
  have := Nat.eq_of_beq_eq_true e
  have hz := h q hq
  rw [this] at hz
  exact hf id hs (by simpa using hz)
theorem fitsL_via {bs bs' : Bs} : ∀ {cs : List LV} {vs : List Value}, (∀ c ∈ cs, ∀ v, c.fits bs v → c.fits bs' v) → FitsL bs cs vs → FitsL bs' cs vs
  | [], [], _, h => h
  | c :: cs, v :: vs, hs, h => ⟨hs c (by simp) v h.1, fitsL_via (fun c hc => hs c (by simp [hc])) h.2⟩
  | [], _ :: _, _, h => h.elim
  | _ :: _, [], _, h => h.elim
theorem fitsT_via {bs bs' : Bs} : ∀ {cs : List (Bool × List LV)} {vs : List Value}, (∀ p ∈ cs, ∀ c ∈ p.2, ∀ v, c.fits bs v → c.fits bs' v) → FitsT bs cs vs → FitsT bs' cs vs
  | [], [], _, h => h
  | (true, cs) :: rest, v :: vs, hs, h => ⟨let ⟨us, h1, h2⟩ := h.1; ⟨us, fitsL_via (hs (true, cs) (by simp)) h1, h2⟩, fitsT_via (fun p hp => hs p (by simp [hp])) h.2⟩
  | (false, [x]) :: rest, v :: vs, hs, h => ⟨hs (false, [x]) (by simp) x (by simp) v h.1, fitsT_via (fun p hp => hs p (by simp [hp])) h.2⟩
  | (false, []) :: rest, v :: vs, _, h => h.1.elim
  | (false, _ :: _ :: _) :: rest, v :: vs, _, h => h.1.elim
  | [], _ :: _, _, h => h.elim
  | (true, _) :: _, [], _, h => h.elim
  | (false, []) :: _, [], _, h => h.elim
  | (false, _ :: _) :: _, [], _, h => h.elim
theorem fitsS_via {bs bs' : Bs} {x : SV} {v : Value} (h : ∀ c ∈ x.leaves, ∀ v, c.fits bs v → c.fits bs' v) (hf : x.fits bs v) : x.fits bs' v := by
  cases x with
  | l x => exact h x (by simp [SV.leaves]) v hf
  | g cs => obtain ⟨us, h1, h2⟩ := hf; exact ⟨us, fitsL_via h h1, h2⟩
  | t cs =>
    obtain ⟨us, h1, h2⟩ := hf
    exact ⟨us, fitsT_via (fun p hp c hc => h c (by simp only [SV.leaves, List.mem_flatMap]; exact ⟨p, hp, hc⟩)) h1, h2⟩
section
variable {w0 : World} {M0 : Mod} {R0 : Hp} {n : Nat} {dfs : List Deferred} {bs : Bs} {S S' : St} {R : Hp} {a : Act} {w : World}
theorem after_inv (I : Inv w0 M0 R0 n dfs bs S R a w) {bs' bs'' : Bs} {m o : List (Nat × Nat)} {blks : List (Nat × TypeId × Nat)} {hin hout : Nat → Option HB} {R' : Hp} {w1 : World} (A : Aft bs bs' bs'' S m o blks hin hout)
    (OI : ObjI w1 bs'' hout R') (X : XFrame w w1 R R' bs' bs'' hin hout) (hle : R.le R') (hsees : Sees R' w1) (hfix : ∀ j b, M0.fx j = some b → (bsO bs bs'' o j).blk = (bs j).blk) :
    Inv w0 M0 R0 n dfs (bsO bs bs'' o) (afterX blks S m o hout) R' a w1 := by
  -- an id that was not handed over and is alive has no new meaning
  have free : ∀ id, bk m id = none → S.hid id ≠ none → bk o id = none := fun id hm hh => by
    cases e : bk o id with
    | none => rfl
    | some u =>
      rcases A.free u id (A.no.lk_bk.1 e) with h | h
      · exact absurd hm h
      · exact absurd h hh
  have keepS : ∀ id, bk m id = none → S.hid id ≠ none → bsO bs bs'' o id = bs id ∧ (afterX blks S m o hout).hid id ≠ none := fun id hm hh => by
    have ho := free id hm hh
    refine ⟨by simp only [bsO, ho], ?_⟩
    simp only [afterX]
    rw [ho]
    simp only
    rw [hm]
    simp only
    cases e : S.hid id with
    | none => exact absurd e hh
    | some x => cases x <;> simp
  have one : ∀ id, S.hid id ≠ none → gone blks S.hid m o hout id = false → (bsO bs bs'' o id).blk = (bs id).blk ∧ (afterX blks S m o hout).hid id ≠ none := fun id hh hg => by
    unfold gone at hg
    split at hg
    · have hs : stays blks S.hid m o hout id = true := by simpa using hg
      exact ⟨A.stay id hs, stays_alive A.no hs⟩
    · rename_i hm
      obtain ⟨h1, h2⟩ := keepS id hm hh
      exact ⟨by rw [h1], h2⟩
  have two : ∀ id, S.hid id ≠ none → handed m id = false → bsO bs bs'' o id = bs id ∧ (afterX blks S m o hout).hid id ≠ none := fun id hh hg => by
    unfold handed at hg
    split at hg
    · cases hg
    · rename_i hm
      exact keepS id hm hh
  have unhit : ∀ x : LV, x.good (Alive S) R → x.hit (gone blks S.hid m o hout) (handed m) = false → (∀ v, x.fits bs v → x.fits (bsO bs bs'' o) v) ∧ x.good (Alive (afterX blks S m o hout)) R' := fun x hx hh => by
    refine ⟨fun v hv => hv.imp id fun e => e.trans (hit_conc hh (fun id hs hg => (one id (hx.live id hs) hg).1) (fun id hs hg => (two id (hx.live id hs) hg).1)).symm, ⟨?_, (hx.mono (A' := fun _ => True) (fun _ _ => trivial) hle).adr⟩⟩
    exact hit_all hh (fun id hs hg => (one id (hx.live id hs) hg).2) (fun id hs hg => (two id (hx.live id hs) hg).2)
  have outGood : ∀ x : LV, x.good (fun id => hout id ≠ none) R' → (x.ren (lk o)).good (Alive (afterX blks S m o hout)) R' := fun x hx => ⟨fun i hs => by
    obtain ⟨u, h1, h2⟩ := renO_says hs
    have := hx.live u h1
    unfold Alive
    simp only [afterX]
    rw [A.no.lk_bk.2 h2]
    simp only
    cases e : hout u with
    | none => exact absurd e this
    | some y => simp, by
    have := hx.adr
    cases x <;> try exact this
    all_goals
      simp only [LV.ren]
      split <;> trivial⟩
  have hno : (SV.l .no).good (Alive (afterX blks S m o hout)) R' := good_l (good_of_not (fun _ => rfl) trivial)
  have old : ∀ j h, S.hid j = some h → bk m j = none → ∀ b, h.blk bs j = some b → w1.heap[b]? = w.heap[b]? := fun j h hj hm b hb => X.block b ((I.hb j h hj).lt hb) fun i y hy hyb => by
    obtain ⟨id, z, e1, e2, u, e3⟩ := A.inD i y b hy hyb
    have hne : id ≠ j := fun e => by subst e; rw [A.nm.lk_bk.2 e3] at hm; cases hm
    exact I.dis id j z h b hne e1 hj e2 hb
  have kidIn : ∀ j y b, hin j = some y → y.blk bs' j = some b → w0.heap.size ≤ b ∨ M0 b := fun j y b hj hb => by
    obtain ⟨id, z, e1, e2, _⟩ := A.inD j y b hj hb
    exact (I.sep id z b e1 e2).2
  have outB : ∀ u h' b, hout u = some h' → h'.blk bs'' u = some b → w.heap.size ≤ b ∨ ∃ id z, S.hid id = some z ∧ z.blk bs id = some b ∧ bk m id ≠ none := fun u h' b hu hb => by
    rcases X.out u h' b hu hb with h | ⟨j', y', e1, e2⟩
    · exact .inl h
    · obtain ⟨id, z, e3, e4, v, e5⟩ := A.inD j' y' b e1 e2
      exact .inr ⟨id, z, e3, e4, by rw [A.nm.lk_bk.2 e5]; simp⟩
  -- a thing behind the call: one of those that came back, or one that was not handed over
  have split : ∀ j h, (afterX blks S m o hout).hid j = some h → (∃ u h', bk o j = some u ∧ hout u = some h' ∧ h = h'.ren (lk o) ∧ bsO bs bs'' o j = bs'' u ∧ h.blk (bsO bs bs'' o) j = h'.blk bs'' u) ∨
      (bk m j = none ∧ bsO bs bs'' o j = bs j ∧ ∃ h', S.hid j = some h' ∧ h.blk (bsO bs bs'' o) j = h'.blk bs j ∧ (h = h' ∧ (∀ T cs, h ≠ .cells T cs) ∨ ∃ T cs, h' = .cells T cs ∧ h = .cells T (cs.map fun c => match c.hit (gone blks S.hid m o hout) (handed m) with | true => .no | false => c))) := fun j h e => by
    rcases after_hid e with ⟨u, h', e1, e2, rfl⟩ | ⟨eo, em, h', e1, e2⟩
    · refine .inl ⟨u, h', e1, e2, rfl, by simp only [bsO, e1], ?_⟩
      cases h' with
      | cells T cs => simp [HB.ren, HB.blk, bsO, e1]
      | row rt xs => cases rt <;> simp [HB.ren, HB.blk, bsO, e1]
    · have hb : bsO bs bs'' o j = bs j := by simp only [bsO, eo]
      refine .inr ⟨em, hb, h', e1, ?_, e2⟩
      rcases e2 with ⟨rfl, _⟩ | ⟨T, cs, rfl, rfl⟩
      · cases h with
        | cells T cs => simp [HB.blk, hb]
        | row rt xs => cases rt <;> simp [HB.blk, hb]
      · simp [HB.blk, hb]
  have masked : ∀ c : LV, c.good (Alive S) R → (∀ v, c.fits bs v → (match c.hit (gone blks S.hid m o hout) (handed m) with | true => LV.no | false => c).fits (bsO bs bs'' o) v) ∧ (match c.hit (gone blks S.hid m o hout) (handed m) with | true => LV.no | false => c).good (Alive (afterX blks S m o hout)) R' := fun c hc => by
    cases e : c.hit (gone blks S.hid m o hout) (handed m) with
    | true => exact ⟨fun v _ => .inl rfl, good_of_not (fun _ => rfl) trivial⟩
    | false => exact unhit c hc e
  have maskedL : ∀ {cs : List LV} {vs : List Value}, (∀ c ∈ cs, c.good (Alive S) R) → FitsL bs cs vs → FitsL (bsO bs bs'' o) (cs.map fun c => match c.hit (gone blks S.hid m o hout) (handed m) with | true => .no | false => c) vs := by
    intro cs
    induction cs with
    | nil => intro vs _ h; cases vs with
      | nil => trivial
      | cons => exact h.elim
    | cons c cs ih => intro vs hc h; cases vs with
      | nil => exact h.elim
      | cons v vs => exact ⟨(masked c (hc c (by simp))).1 v h.1, ih (fun c h => hc c (by simp [h])) h.2⟩
  have envHit : ∀ x : SV, x.good (Alive S) R → x.hit (gone blks S.hid m o hout) (handed m) = false → ∀ c ∈ x.leaves, c.hit (gone blks S.hid m o hout) (handed m) = false := fun x _ hh c hc => by
    cases x with
    | l x =>
      simp only [SV.leaves, List.mem_singleton] at hc
      subst hc
      exact hh
    | g cs =>
      simp only [SV.hit] at hh
      rw [List.any_eq_false] at hh
      simpa using hh c hc
    | t cs =>
      simp only [SV.hit] at hh
      rw [List.any_eq_false] at hh
      simp only [SV.leaves, List.mem_flatMap] at hc
      obtain ⟨p, hp, hc⟩ := hc
      have := hh p hp
      simp only [Bool.not_eq_true] at this
      rw [List.any_eq_false] at this
      simpa using this c hc
  exact
    { size := I.size
      dfs := I.dfs
      env := fun t => by
        simp only [afterX]
        cases e : (S.env t).hit (gone blks S.hid m o hout) (handed m) with
        | true => exact (show _ ∨ _ from .inl rfl)
        | false => exact fitsS_via (fun c hc v hv => (unhit c (I.good t c hc) (envHit _ (I.good t) e c hc)).1 v hv) (I.env t)
      hb := fun j h e => by
        rcases split j h e with ⟨u, h', e1, e2, rfl, eb, _⟩ | ⟨em, eb, h', e1, _, e2⟩
        · have := OI.hb u h' e2
          cases h' with
          | cells T cs =>
            obtain ⟨vs, g1, g2⟩ := this
            exact ⟨vs, renOL_fits A.no g1, by rw [eb]; exact g2⟩
          | row rt xs =>
            cases rt with
            | sl T ks => simp only [HB.ren]; unfold HBok at this ⊢; simp only at this ⊢; rw [eb]; exact this
            | mp ks => simp only [HB.ren]; unfold HBok at this ⊢; simp only at this ⊢; rw [eb]; exact this
        · have hk := I.hb j h' e1
          have hold := old j h' e1 em
          rcases e2 with ⟨rfl, hne⟩ | ⟨T, cs, rfl, rfl⟩
          · have := hk.keep hold
            cases h with
            | cells T cs => exact absurd rfl (hne T cs)
            | row rt xs =>
              cases rt with
              | sl T ks => unfold HBok at this ⊢; simp only at this ⊢; rw [eb]; exact this
              | mp ks => unfold HBok at this ⊢; simp only at this ⊢; rw [eb]; exact this
          · obtain ⟨vs, g1, g2⟩ := hk
            exact ⟨vs, maskedL (I.goodc j T cs e1) g1, by rw [eb]; exact (hold _ rfl).trans g2⟩
      sep := fun j h b e hb => by
        rcases split j h e with ⟨u, h', e1, e2, _, _, eb⟩ | ⟨em, _, h', e1, eb, _⟩
        · rw [eb] at hb
          refine ⟨OI.sep u h' b e2 hb, ?_⟩
          rcases outB u h' b e2 hb with h | ⟨id, z, g1, g2, _⟩
          · exact .inl (Nat.le_trans I.wf.size h)
          · exact (I.sep id z b g1 g2).2
        · rw [eb] at hb
          obtain ⟨s1, s2⟩ := I.sep j h' b e1 hb
          refine ⟨?_, s2⟩
          cases hr : R' b with
          | none => rfl
          | some ob =>
            rcases X.new b ob hr with h | h | ⟨j', y', g1, g2⟩
            · rw [s1] at h; cases h
            · have := (I.hb j h' e1).lt hb; omega
            · obtain ⟨id, z, g3, g4, v, g5⟩ := A.inD j' y' b g1 g2
              have hne : id ≠ j := fun e => by subst e; rw [A.nm.lk_bk.2 g5] at em; cases em
              exact (I.dis id j z h' b hne g3 e1 g4 hb).elim
      dis := fun i j h h' b hij ei ej hbi hbj => by
        have mix : ∀ j k h h', (∃ u h1, bk o j = some u ∧ hout u = some h1 ∧ h = h1.ren (lk o) ∧ bsO bs bs'' o j = bs'' u ∧ h.blk (bsO bs bs'' o) j = h1.blk bs'' u) → h.blk (bsO bs bs'' o) j = some b → bk m k = none → S.hid k = some h' → h'.blk bs k = some b → False := fun j k h h' ⟨u, h1, g1, g2, _, _, g3⟩ hb em ek hbk => by
          rw [g3] at hb
          rcases outB u h1 b g2 hb with hlt | ⟨id, z, g4, g5, g6⟩
          · have := (I.hb k h' ek).lt hbk; omega
          · have hne : id ≠ k := fun e => by subst e; exact g6 em
            exact I.dis id k z h' b hne g4 ek g5 hbk
        rcases split i h ei with hi | ⟨emi, _, hi', ei1, ebi, _⟩
        · rcases split j h' ej with hj | ⟨emj, _, hj', ej1, ebj, _⟩
          · obtain ⟨u, h1, g1, g2, _, _, g3⟩ := hi
            obtain ⟨v, h2, k1, k2, _, _, k3⟩ := hj
            have huv : u ≠ v := fun e => by
              subst e
              have a1 := A.no.lk_bk.1 g1
              have a2 := A.no.lk_bk.1 k1
              rw [a1] at a2
              exact hij (Option.some.inj a2)
            rw [g3] at hbi
            rw [k3] at hbj
            exact OI.dis u v h1 h2 b huv g2 k2 hbi hbj
          · rw [ebj] at hbj
            exact mix i j h hj' hi hbi emj ej1 hbj
        · rcases split j h' ej with hj | ⟨emj, _, hj', ej1, ebj, _⟩
          · rw [ebi] at hbi
            exact mix j i h' hi' hj hbj emi ei1 hbi
          · rw [ebi] at hbi
            rw [ebj] at hbj
            exact I.dis i j hi' hj' b hij ei1 ej1 hbi hbj
      good := fun t => by
        simp only [afterX]
        cases e : (S.env t).hit (gone blks S.hid m o hout) (handed m) with
        | true => exact hno
        | false => exact fun c hc => (unhit c (I.good t c hc) (envHit _ (I.good t) e c hc)).2
      goodc := fun j T cs e c hc => by
        rcases split j _ e with ⟨u, h', e1, e2, eq, _⟩ | ⟨em, eb, h', e1, _, e2⟩
        · cases h' with
          | cells T' cs' =>
            simp only [HB.ren, HB.cells.injEq] at eq
            obtain ⟨rfl, rfl⟩ := eq
            obtain ⟨c', hc', rfl⟩ := List.mem_map.1 hc
            exact outGood c' (OI.goodc u T cs' e2 c' hc')
          | row => simp [HB.ren] at eq
        · rcases e2 with ⟨_, hne⟩ | ⟨T', cs', rfl, eq⟩
          · exact absurd rfl (hne T cs)
          · simp only [HB.cells.injEq] at eq
            obtain ⟨rfl, rfl⟩ := eq
            obtain ⟨c', hc', rfl⟩ := List.mem_map.1 hc
            exact (masked c' (I.goodc j T cs' e1 c' hc')).2
      sees := hsees
      le := I.le.trans hle
      new := fun b ob e => by
        rcases X.new b ob e with h | h | ⟨j', y', g1, g2⟩
        · exact I.new b ob h
        · exact .inr (.inl (Nat.le_trans I.wf.size h))
        · exact .inr (kidIn j' y' b g1 g2)
      wf :=
        { frame := fun b hlt hno => (X.block b (Nat.lt_of_lt_of_le hlt I.wf.size) fun j y hy hyb => by
            rcases kidIn j y b hy hyb with h | h
            · omega
            · exact hno h).trans (I.wf.frame b hlt hno)
          os := X.os.trans I.wf.os
          tape := X.tape.trans I.wf.tape
          output := X.output.trans I.wf.output
          size := Nat.le_trans I.wf.size X.size }
      fix := fun j b hj => ⟨(I.fix j b hj).1, (hfix j b hj).trans (I.fix j b hj).2⟩ }
end
end Go.KE

/- The engine, part 2X: a call to which own things are handed over: the caller's side. -/
namespace Go.KE
open Go.RowKit (Below)

theorem pureS_conc {bs : Bs} {x : SV} {v : Value} (h : x.pure = some v) : x.conc bs = v := by
  cases x with
  | l x =>
    have : x.fits bs (x.conc bs) := .inr rfl
    exact pureS_fits (x := .l x) h this
  | g cs => exact pureS_fits (x := .g cs) h ⟨_, FitsL.conc bs cs, rfl⟩
  | t cs => simp [SV.pure] at h
theorem argRoots_mem : ∀ {j : Nat} {as : List XA} {vs : List SV} {m : List (Nat × Nat)}, argRoots j as vs = some m → ∀ (k : Nat), (∀ rt id, as[k]? = some (.row rt) → vs[k]? = some (.l (rt.lv id)) → (PB + (j + k), id) ∈ m) ∧ (∀ T n', as[k]? = some (.adr T n') → ∃ id, vs[k]? = some (.l (.adr id 0)) ∧ (PB + (j + k), id) ∈ m) ∧
    (∀ rt, as[k]? = some (.row rt) → (∃ id, vs[k]? = some (.l (rt.lv id))) ∨ (vs[k]? = some (.l .nil) ∧ ∃ T ks, rt = .sl T ks)) ∧ (as[k]? = some .pure ∨ as[k]? = some .frz → ∃ x v, vs[k]? = some x ∧ x.pure = some v) ∧ as.length = vs.length
  | j, [], [], m, h => fun k => ⟨fun rt id e => by simp at e, fun T n' e => by simp at e, fun rt e => by simp at e, fun e => by simp at e, rfl⟩
  | j, .pure :: as, x :: vs, m, h => fun k => by
    simp only [argRoots] at h
    split at h
    · rename_i v hv
      have len := (argRoots_mem h 0).2.2.2.2
      cases k with
      | zero => exact ⟨fun rt id e => by simp at e, fun T n' e => by simp at e, fun rt e => by simp at e, fun _ => ⟨x, v, rfl, hv⟩, by simp [len]⟩
      | succ k =>
        have := argRoots_mem h k
        rw [show j + 1 + k = j + (k + 1) by omega] at this
        simpa [len] using this
    · cases h
  | j, .frz :: as, x :: vs, m, h => fun k => by
    simp only [argRoots] at h
    split at h
    · rename_i v hv
      have len := (argRoots_mem h 0).2.2.2.2
      cases k with
      | zero => exact ⟨fun rt id e => by simp at e, fun T n' e => by simp at e, fun rt e => by simp at e, fun _ => ⟨x, v, rfl, hv⟩, by simp [len]⟩
      | succ k =>
        have := argRoots_mem h k
        rw [show j + 1 + k = j + (k + 1) by omega] at this
        simpa [len] using this
    · cases h
  | j, .row rt0 :: as, .l x :: vs, m, h => fun k => by
    simp only [argRoots] at h
    split at h
    · rename_i id0 hs
      split at h
      · rename_i m' h'
        obtain rfl := Option.some.inj h
        have len := (argRoots_mem h' 0).2.2.2.2
        cases k with
        | zero =>
          refine ⟨fun rt id e1 e => ?_, fun T n' e => by simp at e, fun rt e1 => .inl ⟨id0, ?_⟩, fun e => by simp at e, by simp [len]⟩
          · simp only [List.getElem?_cons_zero, Option.some.injEq, XA.row.injEq, SV.l.injEq] at e1 e
            subst e1
            subst e
            rw [rowSrc_lv] at hs
            cases hs
            simp
          · simp only [List.getElem?_cons_zero, Option.some.injEq, XA.row.injEq] at e1
            subst e1
            rw [rowSrc_some hs]
            rfl
        | succ k =>
          have := argRoots_mem h' k
          rw [show j + 1 + k = j + (k + 1) by omega] at this
          refine ⟨fun rt id e1 e2 => List.mem_cons_of_mem _ (this.1 rt id (by simpa using e1) (by simpa using e2)), fun T n' e1 => ?_, by simpa using this.2.2.1, by simpa using this.2.2.2.1, by simp [len]⟩
          obtain ⟨id, e2, e3⟩ := this.2.1 T n' (by simpa using e1)
          exact ⟨id, by simpa using e2, List.mem_cons_of_mem _ e3⟩
      · cases h
    · rename_i hs
      obtain ⟨rfl, hr⟩ := rowSrc_none hs
      have len := (argRoots_mem h 0).2.2.2.2
      cases k with
      | zero =>
        refine ⟨fun rt id e1 e => ?_, fun T n' e => by simp at e, fun rt e1 => .inr ⟨rfl, ?_⟩, fun e => by simp at e, by simp [len]⟩
        · simp only [List.getElem?_cons_zero, Option.some.injEq, XA.row.injEq, SV.l.injEq] at e1 e
          subst e1
          rw [e, rowSrc_lv] at hs
          cases hs
        · simp only [List.getElem?_cons_zero, Option.some.injEq, XA.row.injEq] at e1
          subst e1
          exact hr
      | succ k =>
        have := argRoots_mem h k
        rw [show j + 1 + k = j + (k + 1) by omega] at this
        simpa [len] using this
    · cases h
  | j, .adr _ _ :: as, .l (.adr id0 o) :: vs, m, h => fun k => by
    simp only [argRoots] at h
    split at h
    · rename_i m' ho h'
      obtain rfl := Option.some.inj h
      have ho := Nat.eq_of_beq_eq_true ho
      subst ho
      have len := (argRoots_mem h' 0).2.2.2.2
      cases k with
      | zero => exact ⟨fun rt id e _ => by simp at e, fun T n' _ => ⟨id0, rfl, by simp⟩, fun rt e => by simp at e, fun e => by simp at e, by simp [len]⟩
      | succ k =>
        have := argRoots_mem h' k
        rw [show j + 1 + k = j + (k + 1) by omega] at this
        refine ⟨fun rt id e1 e2 => List.mem_cons_of_mem _ (this.1 rt id (by simpa using e1) (by simpa using e2)), fun T n' e1 => ?_, by simpa using this.2.2.1, by simpa using this.2.2.2.1, by simp [len]⟩
        obtain ⟨id, e2, e3⟩ := this.2.1 T n' (by simpa using e1)
        exact ⟨id, by simpa using e2, List.mem_cons_of_mem _ e3⟩
    · cases h
def argOne (a : XA) (j : Nat) (x : SV) : SV := match a with
  | .adr _ _ => .l (.adr (PB + j) 0)
  | .row rt => .l (rt.lv (PB + j))
  | _ => x
theorem argSVs_cons (j : Nat) (a : XA) (as : List XA) (v : SV) (vs : List SV) : argSVs j (a :: as) (v :: vs) = argOne a j v :: argSVs (j + 1) as vs := by cases a <;> rfl
theorem argSVs_at : ∀ {j : Nat} {as : List XA} {vs : List SV}, as.length = vs.length → (argSVs j as vs).length = vs.length ∧ ∀ (k : Nat) a x, as[k]? = some a → vs[k]? = some x → (argSVs j as vs)[k]? = some (argOne a (j + k) x)
  | j, [], [], _ => ⟨rfl, fun k a x _ e => by simp at e⟩
  | j, a :: as, v :: vs, h => by
    obtain ⟨i1, i2⟩ := argSVs_at (j := j + 1) (as := as) (vs := vs) (by simpa using h)
    rw [argSVs_cons]
    refine ⟨by simp [i1], fun k b x ea e => ?_⟩
    cases k with
    | zero =>
      simp only [List.getElem?_cons_zero, Option.some.injEq] at e ea
      subst e
      subst ea
      rfl
    | succ k =>
      simp only [List.getElem?_cons_succ] at e ea ⊢
      rw [i2 k b x ea e, show j + 1 + k = j + (k + 1) by omega]
  | j, [], _ :: _, h => by simp at h
  | j, _ :: _, [], h => by simp at h
theorem okArgsX_iff {is : List LI} : ∀ {j : Nat} {as : List XA}, okArgsX is j as = true → ∀ (k : Nat) rt, as[k]? = some (.row rt) → hasRow (PB + (j + k)) rt is = true
  | j, .row rt0 :: as, h, k, rt, e => by
    simp only [okArgsX] at h
    split at h
    · rename_i e1
      cases k with
      | zero =>
        simp only [List.getElem?_cons_zero, Option.some.injEq, XA.row.injEq] at e
        exact e ▸ e1
      | succ k => rw [show j + (k + 1) = j + 1 + k by omega]; exact okArgsX_iff h k rt (by simpa using e)
    · cases h
  | j, .pure :: as, h, k, rt, e => by
    simp only [okArgsX] at h
    cases k with
    | zero => simp at e
    | succ k => rw [show j + (k + 1) = j + 1 + k by omega]; exact okArgsX_iff h k rt (by simpa using e)
  | j, .frz :: as, h, k, rt, e => by
    simp only [okArgsX] at h
    cases k with
    | zero => simp at e
    | succ k => rw [show j + (k + 1) = j + 1 + k by omega]; exact okArgsX_iff h k rt (by simpa using e)
  | j, .adr _ _ :: as, h, k, rt, e => by
    simp only [okArgsX] at h
    cases k with
    | zero => simp at e
    | succ k => rw [show j + (k + 1) = j + 1 + k by omega]; exact okArgsX_iff h k rt (by simpa using e)
theorem argBlks_mem : ∀ {as : List XA} {j k : Nat} {T : TypeId} {m : Nat}, as[k]? = some (.adr T m) → PB + (j + k) ∈ (argBlks j as).map (·.1)
  | [], _, _, _, _, h => by simp at h
  | .adr T' m' :: as, j, k, T, m, h => by
    cases k with
    | zero => simp [argBlks]
    | succ k =>
      simp only [argBlks, List.map_cons, List.mem_cons]
      right
      rw [show j + (k + 1) = j + 1 + k by omega]
      exact argBlks_mem (T := T) (m := m) (by simpa using h)
  | .pure :: as, j, k, T, m, h => by
    cases k with
    | zero => simp at h
    | succ k =>
      simp only [argBlks]
      rw [show j + (k + 1) = j + 1 + k by omega]
      exact argBlks_mem (T := T) (m := m) (by simpa using h)
  | .frz :: as, j, k, T, m, h => by
    cases k with
    | zero => simp at h
    | succ k =>
      simp only [argBlks]
      rw [show j + (k + 1) = j + 1 + k by omega]
      exact argBlks_mem (T := T) (m := m) (by simpa using h)
  | .row rt :: as, j, k, T, m, h => by
    cases k with
    | zero => simp at h
    | succ k =>
      simp only [argBlks]
      rw [show j + (k + 1) = j + 1 + k by omega]
      exact argBlks_mem (T := T) (m := m) (by simpa using h)
theorem blkOf_left {j : Nat} {l l' : List (Nat × TypeId × Nat)} (h : blkOf j l ≠ none) : blkOf j (l ++ l') ≠ none := by
  induction l with
  | nil => exact absurd rfl h
  | cons p ps ih =>
    obtain ⟨u, T, m⟩ := p
    simp only [List.cons_append, blkOf] at h ⊢
    split
    · simp
    · rename_i e; rw [e] at h; exact ih h
theorem rowX_of_isRow {j : Nat} : ∀ {is : List LI} (old : Option HB) (d : LTup is), isRowOf j is = true → rowX old j is d ≠ none
  | [], old, d, h => by cases h
  | .tmp _ _ :: is, old, d, h => by rw [rowX_tmp]; exact rowX_of_isRow old _ h
  | .cell _ _ _ :: is, old, d, h => by rw [rowX_cell]; exact rowX_of_isRow old _ h
  | .cadr _ _ :: is, old, d, h => by rw [rowX_cadr]; exact rowX_of_isRow old _ h
  | .cfn _ _ _ :: is, old, d, h => by rw [rowX_cfn]; exact rowX_of_isRow old _ h
  | .row u rt :: is, old, d, h => by
    rw [rowX_row]
    simp only [isRowOf] at h
    rcases beq_cases u j with ⟨e, h'⟩ | ⟨e, h'⟩
    · rw [if_pos h']; simp
    · rw [if_neg h']; rw [e] at h; exact rowX_of_isRow old _ h
  | .crow u o rt :: is, old, d, h => by
    rw [rowX_crow]
    simp only [isRowOf] at h
    rcases beq_cases (crowId u o) j with ⟨e, h'⟩ | ⟨e, h'⟩
    · rw [if_pos h']; simp
    · rw [if_neg h']; rw [e] at h; exact rowX_of_isRow old _ h
theorem rowX_of_not {j : Nat} : ∀ {is : List LI} (old : Option HB) (d : LTup is), isRowOf j is = false → rowX old j is d = old
  | [], old, d, h => rfl
  | .tmp _ _ :: is, old, d, h => by rw [rowX_tmp]; exact rowX_of_not old _ h
  | .cell _ _ _ :: is, old, d, h => by rw [rowX_cell]; exact rowX_of_not old _ h
  | .cadr _ _ :: is, old, d, h => by rw [rowX_cadr]; exact rowX_of_not old _ h
  | .cfn _ _ _ :: is, old, d, h => by rw [rowX_cfn]; exact rowX_of_not old _ h
  | .row u rt :: is, old, d, h => by
    rw [rowX_row]
    simp only [isRowOf] at h
    rcases beq_cases u j with ⟨e, h'⟩ | ⟨e, h'⟩
    · rw [e] at h; cases h
    · rw [if_neg h']; rw [e] at h; exact rowX_of_not old _ h
  | .crow u o rt :: is, old, d, h => by
    rw [rowX_crow]
    simp only [isRowOf] at h
    rcases beq_cases (crowId u o) j with ⟨e, h'⟩ | ⟨e, h'⟩
    · rw [e] at h; cases h
    · rw [if_neg h']; rw [e] at h; exact rowX_of_not old _ h
theorem objX_blk {blks : List (Nat × TypeId × Nat)} {is : List LI} (hsig : okRows S00 ⟨is, blks⟩ (rowNums is) is = true) {d : LTup is} {j : Nat} {T : TypeId} {n : Nat} (h : blkOf j blks = some (T, n)) : isRowOf j is = false ∧ objX blks is d j = some (.cells T (cellsX j is d 0 n)) := by
  have hno : isRowOf j is = false := by
    cases e : isRowOf j is with
    | false => rfl
    | true => have := (okRows_row hsig e).2.2; rw [h] at this; cases this
  refine ⟨hno, ?_⟩
  unfold objX
  rw [rowX_of_not _ _ hno, h]
section
variable {w0 : World} {M0 : Mod} {R0 : Hp} {n : Nat} {dfs : List Deferred} {bs : Bs} {S S' : St} {R : Hp} {a : Act} {w : World}
theorem okFx_iff {fx : List Nat} {blks : List (Nat × TypeId × Nat)} {hid : Nat → Option HB} {m o : List (Nat × Nat)} {hout : Nat → Option HB} (h : okFx fx blks hid m o hout = true) {j : Nat} (hj : j ∈ fx) : bk o j = none ∨ stays blks hid m o hout j = true := by
  unfold okFx at h
  rw [allB_iff] at h
  have := h j hj
  cases e : bk o j with
  | none => exact .inl rfl
  | some u => rw [e] at this; exact .inr this
/-- The results fit. -/
theorem resX_sound {tbl : TypeId → Option TI} {o : List (Nat × Nat)} (No : Names o) {hout : Nat → Option HB} {bs bs'' : Bs} {A : Nat → Prop} {R : Hp} (hA : ∀ u i, lk o u = some i → hout u ≠ none → A i) :
    ∀ {i : Nat} {xs : List XR} {K : List (Option Value) → List (Bool × List LV) → Prop}, resX tbl o hout i xs K → ∃ vs cs, K vs cs ∧ FitsT (bsO bs bs'' o) cs (resVals bs'' i xs vs) ∧ ∀ c ∈ cs, ∀ x ∈ c.2, x.good A R
  | _, [], K, h => ⟨[], [], h, trivial, fun c hc => by simp at hc⟩
  | i, .pure t :: xs, K, h => by
    simp only [resX] at h
    split at h
    · rename_i ti _
      split at h
      · obtain ⟨x, h⟩ := h
        obtain ⟨vs, cs, h1, h2, h3⟩ := resX_sound No (bs := bs) (bs'' := bs'') hA h
        refine ⟨_, _, h1, ⟨⟨_, lvs_fits _ ti.ks x, rfl⟩, h2⟩, fun c hc y hy => ?_⟩
        rcases List.mem_cons.1 hc with rfl | hc
        · exact good_lvs A R ti.ks x y hy
        · exact h3 c hc y hy
      · split at h
        · rename_i k _
          obtain ⟨x, h⟩ := h
          obtain ⟨vs, cs, h1, h2, h3⟩ := resX_sound No (bs := bs) (bs'' := bs'') hA h
          refine ⟨_, _, h1, ⟨.inr (Kd.lv_conc _ k x).symm, h2⟩, fun c hc y hy => ?_⟩
          rcases List.mem_cons.1 hc with rfl | hc
          · have := good_lvs A R [k] x
            exact this y hy
          · exact h3 c hc y hy
        · exact h.elim
    · exact h.elim
  | i, .row rt :: xs, K, h => by
    simp only [resX] at h
    split at h
    · rename_i j y e1 e2
      obtain ⟨vs, cs, h1, h2, h3⟩ := resX_sound No (bs := bs) (bs'' := bs'') hA h
      have hb : bsO bs bs'' o j = bs'' (RB + i) := by simp only [bsO, No.lk_bk.2 e1]
      refine ⟨_, _, h1, ⟨.inr (rt.lv_conc hb).symm, h2⟩, fun c hc y hy => ?_⟩
      rcases List.mem_cons.1 hc with rfl | hc
      · simp only [List.mem_singleton] at hy
        subst hy
        exact RT.lv_good (hA _ _ e1 (by rw [e2]; simp))
      · exact h3 c hc y hy
    · exact h.elim
  | i, .adr _ _ :: xs, K, h => by
    simp only [resX] at h
    split at h
    · rename_i j y e1 e2
      obtain ⟨vs, cs, h1, h2, h3⟩ := resX_sound No (bs := bs) (bs'' := bs'') hA h
      have hb : bsO bs bs'' o j = bs'' (RB + i) := by simp only [bsO, No.lk_bk.2 e1]
      refine ⟨_, _, h1, ⟨.inr (by simp only [LV.conc, hb]), h2⟩, fun c hc y hy => ?_⟩
      rcases List.mem_cons.1 hc with rfl | hc
      · simp only [List.mem_singleton] at hy
        subst hy
        exact ⟨fun id hs => by
          have := Nat.eq_of_beq_eq_true hs
          subst this
          exact hA _ _ e1 (by rw [e2]; simp), trivial⟩
      · exact h3 c hc y hy
    · exact h.elim
theorem svRes_fits {bs : Bs} {cs : List (Bool × List LV)} {vs : List Value} (h : FitsT bs cs vs) : (svRes cs).fits bs (oneV vs) := by
  match cs, vs, h with
  | [], [], h => exact ⟨[], trivial, rfl⟩
  | [(true, cs)], [v], h => exact h.1
  | [(false, [x])], [v], h => exact h.1
  | [(false, [])], [v], h => exact h.1.elim
  | [(false, _ :: _ :: _)], [v], h => exact h.1.elim
  | c :: c' :: cs, v :: v' :: vs, h =>
    have e : svRes (c :: c' :: cs) = .t (c :: c' :: cs) := by
      obtain ⟨g, l⟩ := c
      cases g
      · cases l with
        | nil => rfl
        | cons y ys => cases ys <;> rfl
      · rfl
    rw [e]
    exact ⟨_, h, rfl⟩
  | [_], _ :: _ :: _, h => exact h.2.elim
  | _ :: _ :: _, [_], h => exact h.2.elim
  | [], _ :: _, h => exact h.elim
  | _ :: _, [], h => exact h.elim
theorem svRes_good {A : Nat → Prop} {R : Hp} {cs : List (Bool × List LV)} (h : ∀ c ∈ cs, ∀ x ∈ c.2, x.good A R) : (svRes cs).good A R := by
  have many : (SV.t cs).good A R := fun c hc => by
    simp only [SV.leaves, List.mem_flatMap] at hc
    obtain ⟨p, hp, hc⟩ := hc
    exact h p hp c hc
  unfold svRes
  split
  · exact fun c hc => h _ (List.mem_singleton_self _) c hc
  · rename_i x
    exact good_l (h _ (List.mem_singleton_self _) x (List.mem_singleton_self _))
  · exact many
end
end Go.KE

/- The engine, part 2Y: a call to which own things are handed over, taken. -/
namespace Go.KE
open Go.RowKit (Below)

section
variable {w0 : World} {M0 : Mod} {R0 : Hp} {n : Nat} {dfs : List Deferred} {bs : Bs} {S S' : St} {R : Hp} {a : Act} {w : World}
theorem pureL_says {xs : List LV} {vs : List Value} (h : pureL xs = some vs) : ∀ c ∈ xs, ∀ id, c.says id = false := by
  induction xs generalizing vs with
  | nil => intro c hc; simp at hc
  | cons x xs ih =>
    simp only [pureL] at h
    split at h
    · rename_i v us h1 h2
      intro c hc
      rcases List.mem_cons.1 hc with rfl | hc
      · exact pure_says h1
      · exact ih h2 c hc
    · cases h
theorem pureS_leaves {x : SV} {v : Value} (h : x.pure = some v) : ∀ c ∈ x.leaves, ∀ id, c.says id = false := by
  cases x with
  | l x =>
    intro c hc
    simp only [SV.leaves, List.mem_singleton] at hc
    subst hc
    exact pure_says h
  | g cs =>
    simp only [SV.pure] at h
    split at h
    · rename_i vs hv
      exact pureL_says hv
    · cases h
  | t cs => simp [SV.pure] at h
theorem evX_sound (I : Inv w0 M0 R0 n dfs bs S R a w) {cx : Cx} (hfx : ∀ j b, M0.fx j = some b → j ∈ cx.fx) {o : Oper} {f : FuncId} {sig : XS} {fops : List Operand} {args : St → Option (List SV)} (hdst : okDst n o.dst = true) {K : St → Hp → Prop} (h : evX cx f sig fops args o.dst S R K)
    (hrun : ∀ (bs : Bs) (S : St) (R : Hp) (w : World), Inv w0 M0 R0 n dfs bs S R a w → ∀ svs, args S = some svs → ∃ vals : List Value, (execOp a.eval o).run cx.P w = (callFunc f vals.toArray).run cx.P w ∧ FitsV bs svs vals ∧ ∀ x ∈ svs, x.good (Alive S) R)
    {next : Act → World → Prop} {Q : Exit → Act → World → Prop} (hn : ∀ a w, Nx w0 M0 R0 n dfs K a w → next a w) : o.wp cx.P a w next Q := by
  unfold evX at h
  obtain ⟨S1, R1, J, _, h⟩ := I.frzOps _ _ h
  split at h
  · exact h.elim
  · rename_i svs hsvs
    obtain ⟨vals, hr, hfit, hgood⟩ := hrun _ _ _ _ J svs hsvs
    split at h
    · exact h.elim
    · rename_i m0 hm0
      split at h
      · exact h.elim
      · rename_i m1 hm1
        split at h
        · exact h.elim
        · rename_i d hd
          split at h
          · exact h.elim
          · rename_i hc
            simp only [Bool.and_eq_true] at hc
            obtain ⟨⟨⟨hown, hno⟩, hfree⟩, hargs⟩ := hc
            have No := okNames_iff hno
            obtain ⟨N, bs', OI, cA, cB, cC, cD⟩ := canon J (argEnv_good hgood) hd
            have hsig : okRows S00 ⟨sig.ins, sig.inB⟩ (rowNums sig.ins) sig.ins = true ∧ (rowNums sig.ins).Nodup := by
              unfold canonX at hd
              split at hd
              · rename_i hc
                simp only [Bool.and_eq_true] at hc
                have hsig := hc.1.1.2
                unfold okSig at hsig
                rw [Bool.and_eq_true] at hsig
                exact ⟨hsig.1, nodupB_iff hsig.2⟩
              · cases hd
            have inM : ∀ p ∈ m0, p ∈ asRows S1.hid sig.ins m1 := fun p hp => asRows_sub p (asKids_sub hm1 p hp)
            have roots := argRoots_mem hm0
            have hlen := (roots 0).2.2.2.2
            obtain ⟨al, aat⟩ := argSVs_at (j := 0) hlen
            have hvals : (argSVs 0 sig.args svs).map (SV.conc bs') = vals ∧ ∀ x ∈ argSVs 0 sig.args svs, x.good (fun id => objX sig.inB sig.ins d id ≠ none) R1 := by
              have one : ∀ (k : Nat) x, svs[k]? = some x → ∃ y v, (argSVs 0 sig.args svs)[k]? = some y ∧ vals[k]? = some v ∧ y.conc bs' = v ∧ y.good (fun id => objX sig.inB sig.ins d id ≠ none) R1 := fun k x hx => by
                obtain ⟨v, hv, hf⟩ := hfit.2 k x hx
                obtain ⟨r1, r2, r3, r4, _⟩ := roots k
                rw [Nat.zero_add] at r1 r2
                have hk : k < sig.args.length := by
                  rw [hlen]
                  rcases Nat.lt_or_ge k svs.length with h | h
                  · exact h
                  · rw [List.getElem?_eq_none h] at hx; cases hx
                have ha : sig.args[k]? = some sig.args[k] := List.getElem?_eq_getElem hk
                have hy := aat k _ x ha hx
                rw [Nat.zero_add] at hy
                refine ⟨_, v, hy, hv, ?_⟩
                cases e : sig.args[k] with
                | pure =>
                  rw [e] at ha
                  obtain ⟨x', v', e1, e2⟩ := r4 (.inl ha)
                  rw [hx] at e1
                  cases e1
                  simp only [argOne]
                  exact ⟨(pureS_conc e2).trans (pureS_fits e2 hf).symm, fun c hc => ⟨fun id hs => absurd hs (by rw [pureS_leaves e2 c hc id]; simp), (hgood x (List.mem_of_getElem? hx) c hc).adr⟩⟩
                | frz =>
                  rw [e] at ha
                  obtain ⟨x', v', e1, e2⟩ := r4 (.inr ha)
                  rw [hx] at e1
                  cases e1
                  simp only [argOne]
                  exact ⟨(pureS_conc e2).trans (pureS_fits e2 hf).symm, fun c hc => ⟨fun id hs => absurd hs (by rw [pureS_leaves e2 c hc id]; simp), (hgood x (List.mem_of_getElem? hx) c hc).adr⟩⟩
                | adr T n' =>
                  rw [e] at ha
                  obtain ⟨id, e1, hin⟩ := r2 T n' ha
                  rw [hx] at e1
                  cases e1
                  simp only [argOne]
                  have hlk := lk_of N.fst (inM _ hin)
                  have hblk : blkOf (PB + k) sig.inB ≠ none := by
                    unfold XS.inB
                    refine blkOf_left ?_
                    have := argBlks_mem (j := 0) ha
                    rw [Nat.zero_add] at this
                    have h2 := blkOf_append (l := []) this
                    exact h2
                  obtain ⟨p, hp⟩ := Option.ne_none_iff_exists'.1 hblk
                  obtain ⟨hno', hobj⟩ := objX_blk hsig.1 (d := d) (j := PB + k) (T := p.1) (n := p.2) hp
                  have hb := cA _ (rowAt_isRow.2 hno')
                  refine ⟨?_, good_l ⟨fun i hs => ?_, trivial⟩⟩
                  · rw [LV.fits_val hf (by simp)]
                    simp only [SV.conc, LV.conc, hb, bsM, hlk]
                  · have := Nat.eq_of_beq_eq_true hs
                    subst this
                    rw [hobj]
                    simp
                | row rt =>
                  rw [e] at ha
                  simp only [argOne]
                  have hrow := okArgsX_iff hargs k rt ha
                  rw [Nat.zero_add] at hrow
                  have hat := hasRow_at (S := subSt (asRows S1.hid sig.ins m1) S1.hid (rowEnv sig.ins (argEnv PB svs))) hsig.2 hrow
                  have hmem : memB (PB + k) (rowNums sig.ins) = true := memB_iff.2 (rowAt_nums hat)
                  have henv : ∀ y, x = .l y → rowEnv sig.ins (argEnv PB svs) (PB + k) = y := fun y hy => by
                    simp only [rowEnv, hmem]
                    rw [argEnv_at (x := y) (by rw [hx, hy])]
                  have hisrow : isRowOf (PB + k) sig.ins = true := by
                    cases e : isRowOf (PB + k) sig.ins with
                    | true => rfl
                    | false => rw [rowAt_isRow.2 e] at hat; cases hat
                  refine ⟨?_, good_l (RT.lv_good (rowX_of_isRow _ _ hisrow))⟩
                  rcases r3 rt ha with ⟨id, e3⟩ | ⟨e3, T, ks, e4⟩
                  · rw [hx] at e3
                    cases e3
                    have hin := r1 rt id ha hx
                    have hlk := lk_of N.fst (inM _ hin)
                    have hbk := bk_of N.snd (inM _ hin)
                    rw [srcRow_ren (henv _ rfl) hbk] at hat
                    have hb := cC _ _ hat
                    rw [LV.fits_val hf (rt.lv_no id)]
                    exact rt.lv_conc (by rw [hb]; simp only [bsM, hlk])
                  · rw [hx] at e3
                    cases e3
                    rw [srcRow_nil (henv _ rfl)] at hat
                    have hb := cB _ hat
                    rw [LV.fits_val hf (by simp)]
                    exact RT.lv_nil e4 hb
              refine ⟨List.ext_getElem? fun k => ?_, fun y hy => ?_⟩
              · rw [List.getElem?_map]
                cases e : svs[k]? with
                | some x =>
                  obtain ⟨y, v, e1, e2, e3, _⟩ := one k x e
                  rw [e1, e2]
                  simp [e3]
                | none =>
                  have hge : svs.length ≤ k := by simpa using e
                  rw [List.getElem?_eq_none (by omega), List.getElem?_eq_none (by rw [← hfit.1]; exact hge)]
                  rfl
              · obtain ⟨k, hk, rfl⟩ := List.getElem_of_mem hy
                have hk' : k < svs.length := by omega
                obtain ⟨y, v, e1, _, _, e4⟩ := one k svs[k] (List.getElem?_eq_getElem hk')
                rw [List.getElem?_eq_getElem hk] at e1
                cases e1
                exact e4
            have fin : ∀ (e : Ending) (w1 : World), (∃ rs d' R' bs'', (match okFx cx.fx sig.inB S1.hid (asRows S1.hid sig.ins m1) (outM sig (asRows S1.hid sig.ins m1) o.dst) (objX sig.outB sig.outs d') with
                  | false => False
                  | true => resX cx.tbl (outM sig (asRows S1.hid sig.ins m1) o.dst) (objX sig.outB sig.outs d') 0 sig.res fun vs cs => rs = vs ∧
                    K ((afterX sig.inB S1 (asRows S1.hid sig.ins m1) (outM sig (asRows S1.hid sig.ins m1) o.dst) (objX sig.outB sig.outs d')).put o.dst (svRes cs)) R') ∧ e = .returned (oneV (resVals bs'' 0 sig.res rs)) ∧ rs.length = sig.res.length ∧ R1.le R' ∧ Sees R' w1 ∧ ObjI w1 bs'' (objX sig.outB sig.outs d') R' ∧
                  XFrame w w1 R1 R' bs' bs'' (objX sig.inB sig.ins d) (objX sig.outB sig.outs d')) → ∃ v, e = .returned v ∧ next (a.put o.dst v) w1 := by
              rintro e w1 ⟨rs, d', R', bs'', hk, rfl, _, hle, hsees, OI', X⟩
              refine ⟨_, rfl, ?_⟩
              split at hk
              · exact hk.elim
              · rename_i hfxok
                have hstay : ∀ id, stays sig.inB S1.hid (asRows S1.hid sig.ins m1) (outM sig (asRows S1.hid sig.ins m1) o.dst) (objX sig.outB sig.outs d') id = true → (bsO bs bs'' (outM sig (asRows S1.hid sig.ins m1) o.dst) id).blk = (bs id).blk := fun id hs => by
                  unfold stays at hs
                  split at hs
                  · rename_i T0 cs0 e0
                    split at hs
                    · rename_i u eu
                      split at hs
                      · rename_i p i ep ei
                        split at hs
                        · rename_i hb
                          have hb := Nat.eq_of_beq_eq_true hb
                          subst hb
                          split at hs
                          · rename_i T' cs' e'
                            obtain ⟨hno', hobj⟩ := objX_blk hsig.1 (d := d) (T := p.1) (n := p.2) ep
                            have hb' := cA _ (rowAt_isRow.2 hno')
                            have hst := X.stay u _ _ _ _ hobj e'
                            have hbo : bk (outM sig (asRows S1.hid sig.ins m1) o.dst) i = some u := No.lk_bk.2 ei
                            simp only [bsO, hbo]
                            rw [hst, hb']
                            simp only [bsM, N.lk_bk.1 eu]
                          · cases hs
                        · cases hs
                      · cases hs
                    · cases hs
                  · cases hs
                have A : Aft bs bs' bs'' S1 (asRows S1.hid sig.ins m1) (outM sig (asRows S1.hid sig.ins m1) o.dst) sig.inB (objX sig.inB sig.ins d) (objX sig.outB sig.outs d') :=
                  ⟨N, No, fun u i hl => okFree_iff hfree (u, i) (lk_mem hl), cD, hstay⟩
                have J2 := after_inv J A OI' X hle hsees fun j b hj => by
                  rcases okFx_iff hfxok (hfx j b hj) with e | e
                  · simp only [bsO, e]
                  · exact hstay j e
                obtain ⟨vs, cs, ⟨rfl, hK⟩, hfits, hg⟩ := resX_sound No (bs := bs) (bs'' := bs'') (A := Alive (afterX sig.inB S1 (asRows S1.hid sig.ins m1) (outM sig (asRows S1.hid sig.ins m1) o.dst) (objX sig.outB sig.outs d'))) (R := R') (fun u i hl hne => by
                  unfold Alive
                  simp only [afterX]
                  rw [No.lk_bk.2 hl]
                  simp only
                  cases e : objX sig.outB sig.outs d' u with
                  | none => exact absurd e hne
                  | some y => simp) hk
                exact hn _ _ ⟨_, _, R', J2.put o.dst (svRes cs) _ (svRes_fits hfits) (svRes_good hg) hdst, hK⟩
            have hcall := h.run w bs' J.sees OI hvals.2
            rw [hvals.1] at hcall
            rcases hcall with ⟨f', args', e1, e2⟩ | ⟨v, w', e1, e2⟩
            · refine upon_of (hr.trans e1) ?_
              rw [Oper.upon_enter]
              refine e2.mono fun e w1 h => ?_
              obtain ⟨v, rfl, h1⟩ := fin e w1 h
              exact h1
            · refine upon_of (hr.trans e1) ?_
              rw [Oper.upon_value]
              obtain ⟨v', hv', h1⟩ := fin _ w' e2
              cases hv'
              exact h1
end
end Go.KE

/- The engine, part 2S: a body to which own things are handed over: its contract. -/
namespace Go.KE
open Go.RowKit (Below)

theorem body_callsX {cx : Cx} (hm : cx.P.follows .mixedOrders = true) (hT : TblOk cx.P cx.tbl) {f : FuncId} {fn : Func} {c : Code} (hf : cx.P.funcs[f]? = some fn) (hb : fn.body = some c) (hname : (fn.name == "runtime.NumGoroutine") = false) {sig : XS} {svs : List SV}
    (hsv : ∀ x ∈ svs, ∃ y, x = .l y ∧ y ≠ .no ∨ ∃ cs, x = .g cs ∧ ∀ c ∈ cs, c ≠ .no) (hn : fn.ntmps = cx.n) (hlen : svs.length ≤ fn.ntmps) {d : LTup sig.ins} {R : Hp} {K : List (Option Value) → LTup sig.outs → Hp → Prop} (h : evBodyX cx c fn.results.toList sig svs d R K) : CallsX cx.P f sig svs d R K := by
  unfold evBodyX at h
  split at h
  · exact h.elim
  · rename_i hnames
    rw [allB_iff] at hnames
    refine ⟨fun w bs hs OI hgood => .inl ⟨f, _, run_enter hf hname hb _ w, calls_of_wp hf hb ?_⟩⟩
    let M0 : Mod := ⟨fun b => ∃ j y, objX sig.inB sig.ins d j = some y ∧ y.blk bs j = some b, fun j => match objX sig.inB sig.ins d j with | some (.cells _ _) => some (bs j).blk | _ => none⟩
    have hfx : ∀ j b, M0.fx j = some b → cx.n ≤ j ∧ j ∈ cx.fx ∧ (bs j).blk = b ∧ j ∈ sig.inB.map (·.1) := fun j b hj => by
      simp only [M0] at hj
      split at hj
      · rename_i T cs e
        obtain ⟨_, k, hbk⟩ := objX_cells e
        have hmem := blkOf_mem hbk
        have := hnames j hmem
        rw [Bool.and_eq_true] at this
        exact ⟨Nat.le_of_ble_eq_true this.1, memB_iff.1 this.2, Option.some.inj hj, hmem⟩
      · cases hj
    have hsize : ((svs.map (SV.conc bs)).toArray ++ Array.replicate (fn.ntmps - (svs.map (SV.conc bs)).toArray.size) undef).size = cx.n := by
      simp
      omega
    have hfit : ∀ t, (envOf svs t).fits bs (((svs.map (SV.conc bs)).toArray ++ Array.replicate (fn.ntmps - (svs.map (SV.conc bs)).toArray.size) undef).getD t undef) ∧ (envOf svs t).good (fun id => objX sig.inB sig.ins d id ≠ none) R := fun t => by
      unfold envOf
      cases e : svs[t]? with
      | none =>
        have hge : svs.length ≤ t := by simpa using e
        refine ⟨(show _ ∨ _ from .inr ?_), good_l (good_of_not (fun _ => rfl) trivial)⟩
        simp only [Array.getD_eq_getD_getElem?]
        rw [Array.getElem?_append_right (by simp; omega)]
        simp only [Array.getElem?_replicate]
        split <;> rfl
      | some x =>
        have hlt : t < svs.length := by
          rcases Nat.lt_or_ge t svs.length with h | h
          · exact h
          · rw [List.getElem?_eq_none h] at e; cases e
        have hx : x ∈ svs := List.mem_of_getElem? e
        have hval : ((svs.map (SV.conc bs)).toArray ++ Array.replicate (fn.ntmps - (svs.map (SV.conc bs)).toArray.size) undef).getD t undef = x.conc bs := by
          simp only [Array.getD_eq_getD_getElem?]
          rw [Array.getElem?_append_left (by simpa using hlt)]
          simp [e]
        rw [hval]
        refine ⟨?_, hgood x hx⟩
        obtain ⟨y, ⟨rfl, _⟩ | ⟨cs, rfl, _⟩⟩ := hsv x hx
        · exact .inr rfl
        · exact ⟨_, FitsL.conc bs cs, rfl⟩
    have I : Inv w M0 R cx.n [] bs ⟨envOf svs, objX sig.inB sig.ins d, fun _ => true, fun _ => true⟩ R { tmps := (svs.map (SV.conc bs)).toArray ++ Array.replicate (fn.ntmps - (svs.map (SV.conc bs)).toArray.size) undef, defers := [] } w :=
      { size := hsize
        dfs := rfl
        env := fun t => (hfit t).1
        hb := OI.hb
        sep := fun j y b hj hb => ⟨OI.sep j y b hj hb, .inr ⟨j, y, hj, hb⟩⟩
        dis := OI.dis
        good := fun t => (hfit t).2
        goodc := OI.goodc
        sees := hs
        le := Hp.le.refl R
        new := fun _ _ h => .inl h
        wf := ⟨fun _ _ _ => rfl, rfl, rfl, rfl, Nat.le_refl _⟩
        fix := fun j b hj => ⟨(hfx j b hj).1, (hfx j b hj).2.2.1⟩ }
    refine wp_mono (evC_sound hm hT (fun I o f sig fops args K hd h hr next Q hn => evX_sound I (fun j b hj => (hfx j b hj).2.1) hd h hr hn) rfl (fun j b hj => (hfx j b hj).2.1) c I h) fun e a1 w1 hq => ?_
    have done : ∀ {S1 : St} {R1 : Hp} {bs1 : Bs}, Inv w M0 R cx.n [] bs1 S1 R1 a1 w1 → evEndX cx sig fn.results.toList S1 R1 K → a1.defers = [] ∧ ∃ v, (results fn a1.tmps).run cx.P w1 = .ok v w1 ∧ ∃ rs d' R' bs', K rs d' R' ∧ Ending.returned v = .returned (oneV (resVals bs' 0 sig.res rs)) ∧ rs.length = sig.res.length ∧ R.le R' ∧ Sees R' w1 ∧ ObjI w1 bs' (objX sig.outB sig.outs d') R' ∧
        XFrame w w1 R R' bs bs' (objX sig.inB sig.ins d) (objX sig.outB sig.outs d') := fun {S1 R1 bs1} J h => by
      obtain ⟨S2, R2, bs2, rs, d', r1, r2, J2, r3, r4, r5, r6⟩ := evEndX_sound J hT h
      refine ⟨J.dfs, _, r1, rs, d', R2, bs2, r3, rfl, r2, J2.le, J2.sees, r4, ⟨J2.wf.os, J2.wf.tape, J2.wf.output, J2.wf.size, fun b hlt hno => J2.wf.frame b hlt fun ⟨j, y, h1, h2⟩ => hno j y h1 h2, fun b o hb => J2.new b o hb, fun j y b hj hb => ?_, fun j T cs T' cs' h1 h2 => ?_⟩⟩
      · obtain ⟨id, z, e1, e2⟩ := r5 j y b hj hb
        exact (J2.sep id z b e1 e2).2
      · obtain ⟨_, k, hbk⟩ := objX_cells h1
        rw [r6 j T' cs' (blkOf_mem hbk) h2]
        have hfj : M0.fx j = some (bs j).blk := by simp only [M0, h1]
        exact (J2.fix j _ hfj).2
    cases e with
    | normal => obtain ⟨bs1, S1, R1, J, h1, _⟩ := hq; exact done J h1
    | ret => obtain ⟨bs1, S1, R1, J, h1, _⟩ := hq; exact done J h1
    | panic ch => obtain ⟨bs1, S1, R1, S2, J, h1, _⟩ := hq; exact h1.elim
    | exit i => obtain ⟨bs1, S1, R1, J, h1, _⟩ := hq; exact h1.elim
    | goto l => obtain ⟨bs1, S1, R1, J, h1, _⟩ := hq; exact h1.elim
    | outgrown => exact hq.elim
end Go.KE

/- The engine, part 2Z: a body that is handed nothing of the caller's own: its contract. -/
namespace Go.KE
open Go.RowKit (Below)

/-- A function's body: from what the engine finds to the contract. -/
theorem body_calls {cx : Cx} (hm : cx.P.follows .mixedOrders = true) (hT : TblOk cx.P cx.tbl) {f : FuncId} {fn : Func} {c : Code} (hf : cx.P.funcs[f]? = some fn) (hb : fn.body = some c) (hname : (fn.name == "runtime.NumGoroutine") = false) {svs : List SV} {vs : List Value} (hv : pureSs svs = some vs)
    (hok : ∀ x ∈ svs, ∀ c ∈ x.leaves, ∀ R, c.adrOk R) (hn : fn.ntmps = cx.n) (hlen : svs.length ≤ fn.ntmps) {R : Hp} {K : Ending → Hp → Prop} (h : evBody cx c fn.results.toList svs R K) : CallsR cx.P f vs.toArray R K := by
  refine ⟨fun w hs => .inl ⟨f, vs.toArray, run_enter hf hname hb _ w, calls_of_wp hf hb ?_⟩⟩
  have hvl : vs.length = svs.length := by
    have key : ∀ (svs : List SV) (vs : List Value), pureSs svs = some vs → vs.length = svs.length := by
      intro svs
      induction svs with
      | nil => intro vs h; simp only [pureSs, Option.some.injEq] at h; subst h; rfl
      | cons x xs ih =>
        intro vs h
        simp only [pureSs] at h
        split at h
        · rename_i v us h1 h2
          obtain rfl := Option.some.inj h
          simp [ih us h2]
        · cases h
    exact key svs vs hv
  have hsize : (vs.toArray ++ Array.replicate (fn.ntmps - vs.toArray.size) undef).size = cx.n := by
    simp
    omega
  have hfit : ∀ t, (envOf svs t).fits (fun _ => ⟨0, ⟨none, 0, 0⟩⟩) ((vs.toArray ++ Array.replicate (fn.ntmps - vs.toArray.size) undef).getD t undef) ∧ (envOf svs t).good (Alive ⟨envOf svs, fun _ => none, fun _ => true, fun _ => true⟩) R := by
    have hpure : ∀ (svs : List SV) (vs : List Value), pureSs svs = some vs → ∀ (t : Nat) (x : SV), svs[t]? = some x → ∃ v, vs[t]? = some v ∧ SV.pure x = some v := by
      intro svs
      induction svs with
      | nil => intro vs _ t x h; simp at h
      | cons y ys ih =>
        intro vs h t x hx
        simp only [pureSs] at h
        split at h
        · rename_i v us h1 h2
          obtain rfl := Option.some.inj h
          cases t with
          | zero => simp at hx; subst hx; exact ⟨v, rfl, h1⟩
          | succ t => exact ih us h2 t x (by simpa using hx)
        · cases h
    intro t
    unfold envOf
    cases e : svs[t]? with
    | none =>
      have hge : svs.length ≤ t := by simpa using e
      refine ⟨(show _ ∨ _ from .inr ?_), good_l (good_of_not (fun _ => rfl) trivial)⟩
      simp only [Array.getD_eq_getD_getElem?]
      rw [Array.getElem?_append_right (by simp; omega)]
      simp only [Array.getElem?_replicate]
      split <;> rfl
    | some x =>
      obtain ⟨v, h1, h2⟩ := hpure svs vs hv t x e
      have hlt : t < vs.length := by
        rcases Nat.lt_or_ge t vs.length with h | h
        · exact h
        · rw [List.getElem?_eq_none h] at h1; cases h1
      have hval : (vs.toArray ++ Array.replicate (fn.ntmps - vs.toArray.size) undef).getD t undef = v := by
        simp only [Array.getD_eq_getD_getElem?]
        rw [Array.getElem?_append_left (by simpa using hlt)]
        simp [h1]
      rw [hval]
      exact pure_arg h2 fun c hc => hok x (List.mem_of_getElem? e) c hc R
  have I : Inv w ⟨fun _ => False, fun _ => none⟩ R cx.n [] (fun _ => ⟨0, ⟨none, 0, 0⟩⟩) ⟨envOf svs, fun _ => none, fun _ => true, fun _ => true⟩ R { tmps := vs.toArray ++ Array.replicate (fn.ntmps - vs.toArray.size) undef, defers := [] } w :=
    { size := hsize
      dfs := rfl
      env := fun t => (hfit t).1
      hb := fun _ _ e => (by cases e)
      sep := fun _ _ _ e => (by cases e)
      dis := fun _ _ _ _ _ _ e => (by cases e)
      good := fun t => (hfit t).2
      goodc := fun _ _ _ e => (by cases e)
      sees := hs
      le := Hp.le.refl R
      new := fun _ _ h => .inl h
      wf := ⟨fun _ _ _ => rfl, rfl, rfl, rfl, Nat.le_refl _⟩
      fix := fun _ _ h => (by cases h) }
  have post : ∀ {bs : Bs} {S' : St} {R' : Hp} {a : Act} {w1 : World}, Inv w ⟨fun _ => False, fun _ => none⟩ R cx.n [] bs S' R' a w1 → R.le R' ∧ Sees R' w1 ∧ Below w.heap.size w w1 ∧ ∀ b o, R' b = some o → R b = some o ∨ w.heap.size ≤ b := fun {bs S' R' a w1} J =>
    ⟨J.le, J.sees, ⟨J.wf.os, J.wf.tape, J.wf.output, J.wf.size, fun k hk => J.wf.frame k hk (fun h => h)⟩, fun b o hb => by
      rcases J.new b o hb with h | h | h
      · exact .inl h
      · exact .inr h
      · exact h.elim⟩
  refine wp_mono (evC_sound hm hT (fun I o f sig fops args K hd h hr next Q hn => evX_sound I (fun _ _ h => by cases h) hd h hr hn) rfl (fun _ _ h => by cases h) c I h) fun e a1 w1 hq => ?_
  have done : ∀ {S1 : St} {R1 : Hp} {bs1 : Bs}, Inv w ⟨fun _ => False, fun _ => none⟩ R cx.n [] bs1 S1 R1 a1 w1 → evRet cx fn.results.toList S1 R1 K → a1.defers = [] ∧ ∃ v, (results fn a1.tmps).run cx.P w1 = .ok v w1 ∧ ∃ R', K (.returned v) R' ∧ R.le R' ∧ Sees R' w1 ∧ Below w.heap.size w w1 ∧ ∀ b o, R' b = some o → R b = some o ∨ w.heap.size ≤ b := fun {S1 R1 bs1} J h => by
    obtain ⟨v, S2, R2, r1, J2, _, r2⟩ := evRet_sound J hT h
    exact ⟨J.dfs, v, r1, R2, r2, post J2⟩
  cases e with
  | normal => obtain ⟨bs1, S1, R1, J, h1, _⟩ := hq; exact done J h1
  | ret => obtain ⟨bs1, S1, R1, J, h1, _⟩ := hq; exact done J h1
  | panic ch => obtain ⟨bs1, S1, R1, S2, J, h1, _⟩ := hq; exact ⟨J.dfs, R1, h1, post J⟩
  | exit i => obtain ⟨bs1, S1, R1, J, h1, _⟩ := hq; exact h1.elim
  | goto l => obtain ⟨bs1, S1, R1, J, h1, _⟩ := hq; exact h1.elim
  | outgrown => exact hq.elim
end Go.KE

/- The engine, part 3A: a table of types is right: by looking. -/
namespace Go.KE
open Go.RowKit (Below)

def zEq : Kd → Value → Bool
  | .int k, .int k' n => decide (k = k') && decide (n = 0)
  | .bool, .bool b => !b
  | .str, .string s => s.data.isEmpty
  | .sl, .slice none l c => Nat.beq l 0 && Nat.beq c 0
  | .pt, .pointer none => true
  | .mp, .map none => true
  | .ifc, .nilIface => true
  | .fn, .nilFunc => true
  | _, _ => false
theorem zEq_ok {k : Kd} {v : Value} (h : zEq k v = true) : v = k.enc k.zero := by
  unfold zEq at h
  split at h
  · simp only [Bool.and_eq_true, decide_eq_true_eq] at h
    obtain ⟨rfl, rfl⟩ := h
    rfl
  · simp only [Bool.not_eq_true'] at h
    subst h
    rfl
  · rename_i s
    have : s.data = #[] := by simpa using h
    show Value.string s = Value.string ⟨#[]⟩
    congr 1
    exact ByteArray.ext this
  · rw [Bool.and_eq_true] at h
    rw [Nat.eq_of_beq_eq_true h.1, Nat.eq_of_beq_eq_true h.2]
    rfl
  · rfl
  · rfl
  · rfl
  · rfl
  · cases h
def zEqs : List Kd → List Value → Bool
  | [], [] => true
  | k :: ks, v :: vs => zEq k v && zEqs ks vs
  | _, _ => false
theorem zEqs_ok : ∀ {ks : List Kd} {vs : List Value}, zEqs ks vs = true → vs = Tup.enc ks (Tup.zero ks)
  | [], [], _ => rfl
  | [k], [v], h => by
    simp only [zEqs, Bool.and_true] at h
    rw [zEq_ok h]; rfl
  | [_], [], h => by simp [zEqs] at h
  | [_], _ :: _ :: _, h => by simp [zEqs] at h
  | k :: k' :: ks, v :: vs, h => by
    have h' : (zEq k v && zEqs (k' :: ks) vs) = true := h
    rw [Bool.and_eq_true] at h'
    rw [zEq_ok h'.1, zEqs_ok h'.2]; rfl
  | _ :: _ :: _, [], h => by simp [zEqs] at h
  | [], _ :: _, h => by simp [zEqs] at h
def uB (P : Program) (t : TypeId) : TU → Bool
  | .int k => match P.underlying t with | some (.int k') => decide (k' = k) | _ => false
  | .bool => match P.underlying t with | some .bool => true | _ => false
  | .str => match P.underlying t with | some .string => true | _ => false
  | .ptr e => match P.underlying t with | some (.pointer e') => Nat.beq e' e | _ => false
  | .slice e => match P.underlying t with | some (.slice e') => Nat.beq e' e | _ => false
  | .map k e => match P.underlying t with | some (.map k' e') => Nat.beq k' k && Nat.beq e' e | _ => false
  | .struct fs => match P.underlying t with | some (.struct fields) => fldB fields.toList fs | _ => false
  | .ifc => match P.underlying t with | some (.interface _) => true | _ => false
  | .fn => match P.underlying t with | some (.func _ _ _) => true | _ => false
  | .arr n e => match P.underlying t with | some (.array n' e') => Nat.beq n' n && Nat.beq e' e | _ => false
  | .other => true
where
  fldB : List Field → List (TypeId × Nat) → Bool
    | [], [] => true
    | f :: fs, (t, o) :: ps => Nat.beq f.type t && Nat.beq f.offset o && fldB fs ps
    | _, _ => false
theorem fldB_ok : ∀ {fs : List Field} {ps : List (TypeId × Nat)}, uB.fldB fs ps = true → fs.map (fun f => (f.type, f.offset)) = ps
  | [], [], _ => rfl
  | f :: fs, (t, o) :: ps, h => by
    simp only [uB.fldB, Bool.and_eq_true] at h
    simp only [List.map_cons, fldB_ok h.2, Nat.eq_of_beq_eq_true h.1.1, Nat.eq_of_beq_eq_true h.1.2]
  | [], _ :: _, h => by simp [uB.fldB] at h
  | _ :: _, [], h => by simp [uB.fldB] at h
theorem uB_ok {P : Program} {t : TypeId} {u : TU} (h : uB P t u = true) : UOk P t u := by
  unfold uB at h
  split at h
  · split at h
    · rename_i e; rw [of_decide_eq_true h] at e; exact e
    · cases h
  · split at h
    · rename_i e; exact e
    · cases h
  · split at h
    · rename_i e; exact e
    · cases h
  · split at h
    · rename_i e; rw [Nat.eq_of_beq_eq_true h] at e; exact e
    · cases h
  · split at h
    · rename_i e; rw [Nat.eq_of_beq_eq_true h] at e; exact e
    · cases h
  · split at h
    · rename_i e
      rw [Bool.and_eq_true] at h
      rw [Nat.eq_of_beq_eq_true h.1, Nat.eq_of_beq_eq_true h.2] at e
      exact e
    · cases h
  · split at h
    · rename_i e; exact ⟨_, e, fldB_ok h⟩
    · cases h
  · split at h
    · rename_i e; exact ⟨_, e⟩
    · cases h
  · split at h
    · rename_i e; exact ⟨_, _, _, e⟩
    · cases h
  · split at h
    · rename_i e
      rw [Bool.and_eq_true] at h
      rw [Nat.eq_of_beq_eq_true h.1, Nat.eq_of_beq_eq_true h.2] at e
      exact e
    · cases h
  · trivial
def aggB (P : Program) (t : TypeId) : Option Bool := match P.underlying t with
  | some (.struct _) => some true
  | some (.array _ _) => some true
  | some _ => some false
  | none => none
theorem aggB_ok {P : Program} {t : TypeId} {b : Bool} (h : aggB P t = some b) (w : World) : (isAgg t).run P w = .ok b w := by
  unfold aggB at h
  unfold isAgg
  split at h
  · rename_i e; cases h; simp [underlying, e]
  · rename_i e; cases h; simp [underlying, e]
  · rename_i d h1 h2 e
    cases h
    simp only [Sem.run_bind, run_und e, Result.andThen_ok]
    cases d <;> first | rfl | exact (h1 _ rfl).elim | exact (h2 _ _ rfl).elim
  · cases h
def tokB (P : Program) (t : TypeId) (ti : TI) : Bool :=
  (match P.info? t with
    | some i => Nat.beq i.size ti.size && Nat.beq i.bytes ti.bytes && (match i.zero with
      | some z => zEqs ti.ks z.cells.toList && (match ti.agg with
        | true => (match z with | .agg _ => true | _ => false)
        | false => (match ti.ks with | [k] => zEq k z | _ => true))
      | none => false)
    | none => false) && (match aggB P t with | some b => b == ti.agg | none => false) && Nat.beq ti.ks.length ti.size && (ti.agg || Nat.beq ti.size 1) && uB P t ti.u
theorem tokB_ok {P : Program} {t : TypeId} {ti : TI} (h : tokB P t ti = true) : TOk P t ti := by
  unfold tokB at h
  simp only [Bool.and_eq_true] at h
  obtain ⟨⟨⟨⟨h1, h2⟩, h3⟩, h4⟩, h5⟩ := h
  refine ⟨?_, ?_, Nat.eq_of_beq_eq_true h3, fun ha => ?_, uB_ok h5⟩
  · split at h1
    · rename_i i e
      simp only [Bool.and_eq_true] at h1
      obtain ⟨⟨a1, a2⟩, a3⟩ := h1
      refine ⟨i, e, Nat.eq_of_beq_eq_true a1, Nat.eq_of_beq_eq_true a2, ?_⟩
      split at a3
      · rename_i z ez
        rw [Bool.and_eq_true] at a3
        refine ⟨z, ez, Array.toList_inj.1 (zEqs_ok a3.1), fun ha => ?_, fun k ha hk => ?_⟩
        · have := a3.2
          rw [ha] at this
          simp only at this
          split at this
          · rfl
          · cases this
        · have := a3.2
          rw [ha] at this
          simp only at this
          rw [hk] at this
          exact zEq_ok this
      · cases a3
    · cases h1
  · intro w
    split at h2
    · rename_i b e
      rw [aggB_ok e]
      rw [beq_iff_eq] at h2
      rw [h2]
    · cases h2
  · rw [ha] at h4
    exact Nat.eq_of_beq_eq_true (by simpa using h4)
def tblB (P : Program) : List (Nat × TI) → Bool
  | [] => true
  | p :: l => tokB P p.1 p.2 && tblB P l
theorem tblB_ok {P : Program} : ∀ {l : List (Nat × TI)}, tblB P l = true → TblOk P (lookL l)
  | [], _ => fun t ti h => by cases h
  | p :: l, h => fun t ti hl => by
    simp only [tblB, Bool.and_eq_true] at h
    simp only [lookL] at hl
    rcases beq_cases p.1 t with ⟨e, h'⟩ | ⟨e, _⟩
    · rw [e] at hl
      cases hl
      exact h' ▸ tokB_ok h.1
    · rw [e] at hl
      exact tblB_ok h.2 t ti hl
def lvPlain : LV → Bool
  | .no | .und | .adrr _ _ _ _ => false
  | _ => true
def svPlain : SV → Bool
  | .l x => lvPlain x
  | .g cs => cs.all lvPlain
  | .t _ => false
def svsPlain : List SV → Bool
  | [] => true
  | x :: xs => svPlain x && svsPlain xs
theorem svsPlain_mem : ∀ {xs : List SV}, svsPlain xs = true → ∀ x ∈ xs, svPlain x = true
  | [], _, x, hx => by simp at hx
  | y :: ys, h, x, hx => by
    simp only [svsPlain, Bool.and_eq_true] at h
    rcases List.mem_cons.1 hx with rfl | hx
    · exact h.1
    · exact svsPlain_mem h.2 x hx
theorem svsPlain_adr {xs : List SV} (h : svsPlain xs = true) : ∀ x ∈ xs, ∀ c ∈ x.leaves, ∀ R, c.adrOk R := by
  intro x hx c hc R
  have hp := svsPlain_mem h x hx
  have key : ∀ c : LV, lvPlain c = true → c.adrOk R := fun c hc => by cases c <;> first | trivial | cases hc
  cases x with
  | l y =>
    simp only [SV.leaves, List.mem_singleton] at hc
    subst hc
    exact key _ hp
  | g cs =>
    simp only [svPlain, List.all_eq_true] at hp
    exact key c (hp c hc)
  | t cs => cases hp
theorem svsPlain_no {xs : List SV} (h : svsPlain xs = true) : ∀ x ∈ xs, ∃ y, x = .l y ∧ y ≠ .no ∨ ∃ cs, x = .g cs ∧ ∀ c ∈ cs, c ≠ .no := by
  intro x hx
  have hp := svsPlain_mem h x hx
  have key : ∀ c : LV, lvPlain c = true → c ≠ .no := fun c hc e => by subst e; cases hc
  cases x with
  | l y => exact ⟨y, .inl ⟨rfl, key y hp⟩⟩
  | g cs =>
    simp only [svPlain, List.all_eq_true] at hp
    exact ⟨.no, .inr ⟨cs, rfl, fun c hc => key c (hp c hc)⟩⟩
  | t cs => cases hp
/-- A body, found by looking. -/
structure FnAt (P : Program) (f : FuncId) (fn : Func) (c : Code) (n : Nat) : Prop where
  at_ : P.funcs[f]? = some fn
  body : fn.body = some c
  name : (fn.name == "runtime.NumGoroutine") = false
  n : fn.ntmps = n
theorem FnAt.calls {cx : Cx} (hm : cx.P.follows .mixedOrders = true) (hT : TblOk cx.P cx.tbl) {f : FuncId} {fn : Func} {c : Code} (F : FnAt cx.P f fn c cx.n) {svs : List SV} {vs : List Value} (hv : pureSs svs = some vs)
    (hok : svsPlain svs = true) (hlen : Nat.ble svs.length cx.n = true) {R : Hp} {K : Ending → Hp → Prop} (h : evBody cx c fn.results.toList svs R K) : CallsR cx.P f vs.toArray R K :=
  body_calls hm hT F.at_ F.body F.name hv (svsPlain_adr hok) F.n (by rw [F.n]; exact Nat.le_of_ble_eq_true hlen) h
theorem FnAt.callsX {cx : Cx} (hm : cx.P.follows .mixedOrders = true) (hT : TblOk cx.P cx.tbl) {f : FuncId} {fn : Func} {c : Code} (F : FnAt cx.P f fn c cx.n) {sig : XS} {svs : List SV}
    (hsv : svsPlain svs = true) (hlen : Nat.ble svs.length cx.n = true) {d : LTup sig.ins} {R : Hp} {K : List (Option Value) → LTup sig.outs → Hp → Prop} (h : evBodyX cx c fn.results.toList sig svs d R K) : CallsX cx.P f sig svs d R K :=
  body_callsX hm hT F.at_ F.body F.name (svsPlain_no hsv) F.n (by rw [F.n]; exact Nat.le_of_ble_eq_true hlen) h
end Go.KE
