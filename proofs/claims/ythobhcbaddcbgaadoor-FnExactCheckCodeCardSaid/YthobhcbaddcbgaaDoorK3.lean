/- A checker for the code of a function that writes nothing that was there, and its soundness: part 3. -/
import Derived.Test.YthobhcbaddcbgaaDoorK2
/- The engine, part W: slices of the call's own are handed out. -/
namespace Go.KE
open Go.RowKit (Below)

theorem frz_fits {bs : Bs} {id : Nat} {x : LV} {v : Value} (h : x.fits bs v) : (x.frz id (bs id).sl).fits bs v := by
  have hno : ∀ (x : LV), x.fits bs v → (match x.says id with | true => LV.no | false => x).fits bs v := fun x h => by
    split
    · exact .inl rfl
    · exact h
  cases x <;> try exact hno _ h
  · rename_i j
    simp only [LV.frz]
    rcases beq_cases j id with ⟨e, rfl⟩ | ⟨e, _⟩
    · rw [e]
      have hv := LV.fits_val h (by simp)
      exact .inr hv
    · rw [e]; exact h
  · rename_i j lo hi esz
    simp only [LV.frz]
    rcases beq_cases j id with ⟨e, rfl⟩ | ⟨e, _⟩
    · rw [e]
      refine .inr ?_
      rw [LV.fits_val h (by simp)]
      rfl
    · rw [e]; exact h
theorem frzL_fits {bs : Bs} {id : Nat} : ∀ {cs : List LV} {vs : List Value}, FitsL bs cs vs → FitsL bs (cs.map (LV.frz id (bs id).sl)) vs
  | [], [], h => h
  | c :: cs, v :: vs, h => ⟨frz_fits h.1, frzL_fits h.2⟩
  | [], _ :: _, h => h.elim
  | _ :: _, [], h => h.elim
theorem frzT_fits {bs : Bs} {id : Nat} : ∀ {cs : List (Bool × List LV)} {vs : List Value}, FitsT bs cs vs → FitsT bs (cs.map fun c => (c.1, c.2.map (LV.frz id (bs id).sl))) vs
  | [], [], h => h
  | (true, cs) :: rest, v :: vs, h => ⟨let ⟨us, h1, h2⟩ := h.1; ⟨us, frzL_fits h1, h2⟩, frzT_fits h.2⟩
  | (false, [x]) :: rest, v :: vs, h => ⟨frz_fits h.1, frzT_fits h.2⟩
  | (false, []) :: rest, v :: vs, h => h.1.elim
  | (false, _ :: _ :: _) :: rest, v :: vs, h => h.1.elim
  | [], _ :: _, h => h.elim
  | (true, _) :: _, [], h => h.elim
  | (false, []) :: _, [], h => h.elim
  | (false, _ :: _) :: _, [], h => h.elim
theorem frzS_fits {bs : Bs} {id : Nat} {x : SV} {v : Value} (h : x.fits bs v) : (x.frz id (bs id).sl).fits bs v := by
  cases x with
  | l x => exact frz_fits h
  | g cs => obtain ⟨us, h1, h2⟩ := h; exact ⟨us, frzL_fits h1, h2⟩
  | t cs => obtain ⟨us, h1, h2⟩ := h; exact ⟨us, frzT_fits h1, h2⟩
theorem frz_says {id j : Nat} {s : Sl} {x : LV} (h : (x.frz id s).says j = true) : x.says j = true ∧ j ≠ id := by
  have hno : ∀ (x : LV), (match x.says id with | true => LV.no | false => x).says j = true → x.says j = true ∧ j ≠ id := fun x hx => by
    cases e : x.says id with
    | true => rw [e] at hx; cases hx
    | false =>
      rw [e] at hx
      exact ⟨hx, fun e' => by subst e'; exact absurd hx (by rw [e]; simp)⟩
  cases x <;> try exact hno _ h
  · rename_i i
    simp only [LV.frz] at h
    rcases beq_cases i id with ⟨e, rfl⟩ | ⟨e, hne⟩
    · rw [e] at h; cases h
    · rw [e] at h
      have : i = j := by simpa [LV.says] using h
      exact ⟨h, fun e' => hne (this.trans e')⟩
  · rename_i i lo hi esz
    simp only [LV.frz] at h
    rcases beq_cases i id with ⟨e, rfl⟩ | ⟨e, hne⟩
    · rw [e] at h; cases h
    · rw [e] at h
      have : i = j := by simpa [LV.says] using h
      exact ⟨h, fun e' => hne (this.trans e')⟩
theorem frz_adrOk {id : Nat} {s : Sl} {R : Hp} {x : LV} (h : x.adrOk R) : (x.frz id s).adrOk R := by
  have hno : ∀ (x : LV), x.adrOk R → (match x.says id with | true => LV.no | false => x).adrOk R := fun x h => by
    split
    · trivial
    · exact h
  cases x <;> try exact hno _ h
  · rename_i i
    simp only [LV.frz]
    split <;> trivial
  · rename_i i lo hi esz
    simp only [LV.frz]
    split <;> trivial
theorem frz_good {A A' : Nat → Prop} {R R' : Hp} {id : Nat} {s : Sl} {x : LV} (h : x.good A R) (hA : ∀ j, j ≠ id → A j → A' j) (hR : R.le R') : (x.frz id s).good A' R' :=
  ⟨fun j hj => let ⟨h1, h2⟩ := frz_says hj; hA j h2 (h.live j h1), (frz_adrOk (s := s) (id := id) (h.mono (A' := fun _ => True) (fun _ _ => trivial) hR).adr)⟩
theorem frzS_leaves {id : Nat} {s : Sl} {x : SV} {c : LV} (h : c ∈ (x.frz id s).leaves) : ∃ c' ∈ x.leaves, c = c'.frz id s := by
  cases x with
  | l x => simp only [SV.frz, SV.leaves, List.mem_singleton] at h; exact ⟨x, by simp [SV.leaves], h⟩
  | g cs =>
    simp only [SV.frz, SV.leaves, List.mem_map] at h
    obtain ⟨c', h1, h2⟩ := h
    exact ⟨c', h1, h2.symm⟩
  | t cs =>
    simp only [SV.frz, SV.leaves, List.mem_flatMap, List.mem_map] at h
    obtain ⟨p, ⟨q, hq, rfl⟩, hc⟩ := h
    simp only [List.mem_map] at hc
    obtain ⟨c', h1, h2⟩ := hc
    exact ⟨c', by simp only [SV.leaves, List.mem_flatMap]; exact ⟨q, hq, h1⟩, h2.symm⟩

section
variable {w0 : World} {M0 : Mod} {R0 : Hp} {n : Nat} {dfs : List Deferred} {bs : Bs} {S : St} {R : Hp} {a : Act} {w : World}
theorem frz_hid {S : St} {id : Nat} {s : Sl} {j : Nat} {h : HB} (e : (S.frz id s).hid j = some h) : j ≠ id ∧ ∃ h', S.hid j = some h' ∧ (∀ bs, h.blk bs j = h'.blk bs j) ∧ (h = h' ∧ (∀ T cs, h ≠ .cells T cs) ∨ ∃ T cs, h' = .cells T cs ∧ h = .cells T (cs.map (LV.frz id s))) := by
  simp only [St.frz] at e
  rcases beq_cases j id with ⟨e1, rfl⟩ | ⟨e1, hne⟩
  · rw [e1] at e; cases e
  · rw [e1] at e
    refine ⟨hne, ?_⟩
    simp only at e
    cases h0 : S.hid j with
    | none => rw [h0] at e; cases e
    | some x =>
      rw [h0] at e
      cases x with
      | cells T cs =>
        obtain rfl := Option.some.inj e
        exact ⟨_, rfl, fun _ => rfl, .inr ⟨T, cs, rfl, rfl⟩⟩
      | row rt xs =>
        obtain rfl := Option.some.inj e
        exact ⟨_, rfl, fun _ => rfl, .inl ⟨rfl, fun _ _ e => by cases e⟩⟩
theorem Inv.frzAt (I : Inv w0 M0 R0 n dfs bs S R a w) {id : Nat} {T : TypeId} {ks : List Kd} {xs : List (Tup ks)} (ex : S.hid id = some (.row (.sl T ks) xs)) :
    ∃ R', Frz R R' (bs id).sl ks xs ∧ Inv w0 M0 R0 n dfs bs (S.frz id (bs id).sl) R' a w := by
  have halive : ∀ j, j ≠ id → Alive S j → Alive (S.frz id (bs id).sl) j := fun j hne hj => by
    unfold Alive at *
    simp only [St.frz]
    rcases beq_cases j id with ⟨_, e⟩ | ⟨e1, _⟩
    · exact absurd e hne
    · rw [e1]
      simp only
      split
      · simp
      · exact hj
  have key : ∀ R' : Hp, R.le R' → Sees R' w → (∀ b o, R' b = some o → R b = some o ∨ (HB.row (.sl T ks) xs).blk bs id = some b) → Inv w0 M0 R0 n dfs bs (S.frz id (bs id).sl) R' a w := by
    intro R' hle hsees hnew
    exact { I with
      env := fun t => frzS_fits (I.env t)
      hb := fun j h hj => by
        obtain ⟨hne, h', e1, _, e3⟩ := frz_hid hj
        rcases e3 with ⟨rfl, _⟩ | ⟨T', cs, rfl, rfl⟩
        · exact I.hb j _ e1
        · obtain ⟨vs, f1, f2⟩ := I.hb j _ e1
          exact ⟨vs, frzL_fits f1, f2⟩
      sep := fun j h b hj hb => by
        obtain ⟨hne, h', e1, e2, _⟩ := frz_hid hj
        have hb' := hb
        rw [e2] at hb'
        obtain ⟨s1, s2⟩ := I.sep j h' b e1 hb'
        refine ⟨?_, s2⟩
        cases hr : R' b with
        | none => rfl
        | some o =>
          rcases hnew b o hr with h1 | h1
          · rw [s1] at h1; cases h1
          · exact (I.dis j id h' _ b hne e1 ex hb' h1).elim
      dis := fun i j h h' b hij hi hj hbi hbj => by
        obtain ⟨_, h1, e1, e2, _⟩ := frz_hid hi
        obtain ⟨_, h2, e1', e2', _⟩ := frz_hid hj
        exact I.dis i j h1 h2 b hij e1 e1' (by rw [← e2]; exact hbi) (by rw [← e2']; exact hbj)
      good := fun t c hc => by
        obtain ⟨c', h1, rfl⟩ := frzS_leaves hc
        exact frz_good (I.good t c' h1) halive hle
      goodc := fun j T' cs hj c hc => by
        obtain ⟨_, h', e1, _, e3⟩ := frz_hid hj
        rcases e3 with ⟨_, e⟩ | ⟨T2, cs2, rfl, e⟩
        · exact absurd rfl (e T' cs)
        · cases e
          obtain ⟨c', hc', rfl⟩ := List.mem_map.1 hc
          exact frz_good (I.goodc j _ _ e1 c' hc') halive hle
      sees := hsees
      le := I.le.trans hle
      new := fun b o hb => by
        rcases hnew b o hb with h1 | h1
        · exact I.new b o h1
        · exact .inr (I.sep id _ b ex h1).2 }
  rcases I.hb id _ ex with ⟨h1, rfl⟩ | ⟨b, rest, h1, h2, h3, h4, h5⟩
  · refine ⟨R, ⟨Hp.le.refl R, ?_, fun _ _ h => .inl h, ?_, fun _ => by rw [h1]; exact ⟨rfl, rfl⟩⟩, key R (Hp.le.refl R) I.sees fun _ _ h => .inl h⟩
    · rw [h1]
      exact ⟨rfl, Nat.le_refl _, fun i x hx => by simp at hx⟩
    · intro a ha
      rw [h1] at ha; cases ha
  · have hblk : (HB.row (.sl T ks) xs).blk bs id = some b := by simp [HB.blk, h1]
    have hR := (I.sep id _ b ex hblk).1
    let R' : Hp := fun k => if k = b then some (.cells (flat ks xs ++ rest).toArray T (0, 0)) else R k
    have hRb : R' b = some (.cells (flat ks xs ++ rest).toArray T (0, 0)) := by simp [R']
    have hle : R.le R' := fun k o hk => by
      have : k ≠ b := fun e => by subst e; rw [hR] at hk; cases hk
      simp [R', this, hk]
    have hnew : ∀ k o, R' k = some o → R k = some o ∨ k = b := fun k o hk => by
      by_cases e : k = b
      · exact .inr e
      · simp [R', e] at hk; exact .inl hk
    refine ⟨R', ⟨hle, ⟨h2.symm, ?_, fun i x hx => ?_⟩, fun k o hk => ?_, fun ad ha => ?_, fun ha => ?_⟩, key R' hle (fun k o hk => ?_) fun k o hk => ?_⟩
    · rw [h2]; exact h5
    · have hlt : i < xs.length := by
        rcases Nat.lt_or_ge i xs.length with h' | h'
        · exact h'
        · rw [List.getElem?_eq_none h'] at hx; cases hx
      refine ⟨⟨b, 0, none⟩, h1, rfl, by omega, by rw [h2]; omega, _, _, _, hRb, fun j c hc => ?_⟩
      have := flat_get ks xs i x hx j c hc
      have hj : i * ks.length + j < (flat ks xs).length := by
        rcases Nat.lt_or_ge (i * ks.length + j) (flat ks xs).length with h' | h'
        · exact h'
        · rw [List.getElem?_eq_none h'] at this; cases this
      simp only [Int.toNat_natCast, Nat.zero_add, List.getElem?_toArray]
      rw [List.getElem?_append_left hj]
      exact this
    · rcases hnew k o hk with h | rfl
      · exact .inl h
      · exact .inr ⟨_, h1, rfl⟩
    · rw [h1] at ha
      obtain rfl := Option.some.inj ha
      exact ⟨hR, rfl, rfl⟩
    · rw [h1] at ha; cases ha
    · rcases hnew k o hk with h | rfl
      · exact I.sees k o h
      · rw [hRb] at hk
        obtain rfl := Option.some.inj hk
        exact h3
    · rcases hnew k o hk with h | rfl
      · exact .inl h
      · exact .inr hblk
theorem Inv.frz1 (I : Inv w0 M0 R0 n dfs bs S R a w) {id : Nat} {K : St → Hp → Prop} (h : KE.frz1 S R id K) : ∃ S' R', Inv w0 M0 R0 n dfs bs S' R' a w ∧ R.le R' ∧ K S' R' := by
  unfold KE.frz1 at h
  split at h
  · split at h
    · rename_i T ks xs ex
      obtain ⟨R', h1, h2⟩ := I.frzAt ex
      exact ⟨_, R', h2, h1.le, h _ R' h1⟩
    · exact h.elim
  · exact h.elim
theorem Inv.frzOps : ∀ (m : Nat) (xs : List Operand) {S : St} {R : Hp} (_ : Inv w0 M0 R0 n dfs bs S R a w) {K : St → Hp → Prop} (_ : KE.frzOps m xs S R K), ∃ S' R', Inv w0 M0 R0 n dfs bs S' R' a w ∧ R.le R' ∧ K S' R'
  | 0, xs, S, R, I, K, h => ⟨S, R, I, Hp.le.refl R, h⟩
  | m + 1, xs, S, R, I, K, h => by
    simp only [KE.frzOps] at h
    split at h
    · exact ⟨S, R, I, Hp.le.refl R, h⟩
    · obtain ⟨S1, R1, I1, l1, h1⟩ := I.frz1 h
      obtain ⟨S2, R2, I2, l2, h2⟩ := Inv.frzOps m xs I1 h1
      exact ⟨S2, R2, I2, l1.trans l2, h2⟩
end
end Go.KE

/- The engine, part X: one operation is taken. -/
namespace Go.KE
open Go.RowKit (Below)

theorem upon_of {P : Program} {o : Oper} {a : Act} {w w' : World} {next : Act → World → Prop} {Q : Exit → Act → World → Prop} {x : Next} (hr : (execOp a.eval o).run P w = .ok x w') (h : o.upon P a next Q (.ok x w')) : o.wp P a w next Q := by
  unfold Oper.wp
  rw [hr]
  exact h
theorem run_callF {P : Program} {w : World} {ρ : Operand → Value} {o : Oper} {c : Call} {f : FuncId} {x : Operand} (hop : o.op = .call c) (hc : c.callee = .value x) (hρ : ρ x = .func (.func f) #[] #[]) :
    (execOp ρ o).run P w = (callFunc f (c.args.map ρ)).run P w := by
  simp only [execOp, hop, resolve, hc, hρ, Deferred.ofValue, Sem.run_bind, Sem.run_pure, Result.andThen_ok, invoke, Array.append_empty, Array.empty_append]
theorem retT_fits {tbl : TypeId → Option TI} (bs : Bs) : ∀ {ts : List TypeId} {K : List Value → List (Bool × List LV) → Prop}, retT tbl ts K → ∃ vs cs, K vs cs ∧ FitsT bs cs vs ∧ vs.length = ts.length ∧ ∀ A R, ∀ c ∈ cs, ∀ x ∈ c.2, x.good A R
  | [], K, h => ⟨[], [], h, trivial, rfl, fun _ _ c hc => by simp at hc⟩
  | t :: ts, K, h => by
    simp only [retT] at h
    split at h
    · rename_i ti _
      split at h
      · obtain ⟨x, h⟩ := h
        obtain ⟨vs, cs, h1, h2, h3, h4⟩ := retT_fits bs h
        refine ⟨_, _, h1, ⟨⟨_, lvs_fits bs ti.ks x, rfl⟩, h2⟩, by simp [h3], fun A R c hc y hy => ?_⟩
        rcases List.mem_cons.1 hc with rfl | hc
        · exact good_lvs A R ti.ks x y hy
        · exact h4 A R c hc y hy
      · split at h
        · rename_i k _
          obtain ⟨x, h⟩ := h
          obtain ⟨vs, cs, h1, h2, h3, h4⟩ := retT_fits bs h
          refine ⟨_, _, h1, ⟨.inr (Kd.lv_conc bs k x).symm, h2⟩, by simp [h3], fun A R c hc y hy => ?_⟩
          rcases List.mem_cons.1 hc with rfl | hc
          · have := good_lvs A R [k] x
            exact this y hy
          · exact h4 A R c hc y hy
        · exact h.elim
    · exact h.elim
theorem retK_fits {tbl : TypeId → Option TI} (bs : Bs) {ts : List TypeId} {e : Ending} {K : SV → Prop} (h : retK tbl ts e K) : ∃ v sv, e = .returned v ∧ K sv ∧ sv.fits bs v ∧ ∀ A R, sv.good A R := by
  have many : retT tbl ts (fun vs cs => e = .returned (.tuple vs.toArray) ∧ K (.t cs)) → ∃ v sv, e = .returned v ∧ K sv ∧ sv.fits bs v ∧ ∀ A R, sv.good A R := fun h => by
    obtain ⟨vs, cs, ⟨rfl, hK⟩, h2, _, h4⟩ := retT_fits bs h
    refine ⟨_, .t cs, rfl, hK, ⟨vs, h2, rfl⟩, fun A R c hc => ?_⟩
    simp only [SV.leaves, List.mem_flatMap] at hc
    obtain ⟨p, hp, hc⟩ := hc
    exact h4 A R p hp c hc
  match ts, h, many with
  | [], h, many => exact many h
  | [t], h, many =>
    have h' : retT tbl [t] (fun vs cs => e = .returned (vs.getD 0 undef) ∧ K (svG (cs.getD 0 (false, [])))) := h
    obtain ⟨vs, cs, ⟨rfl, hK⟩, h2, h3, h4⟩ := retT_fits bs h'
    match vs, cs, h2, h3 with
    | [v], [c], h2, _ => exact ⟨v, _, rfl, hK, svG_fits h2.1, fun A R => svG_good (h4 A R c (by simp))⟩
    | [], _, _, h3 => simp at h3
    | _ :: _ :: _, _, _, h3 => simp at h3
    | [_], [], h2, _ => exact h2.elim
    | [_], _ :: _ :: _, h2, _ => exact h2.2.elim
  | _ :: _ :: _, h, many => exact many h

theorem pureSs_vals {bs : Bs} {S : St} {a : Act} (hop : ∀ x, (KE.opd S.env x).fits bs (a.eval x)) : ∀ {xs : List Operand} {vs : List Value}, pureSs (xs.map (opd S.env)) = some vs → xs.map a.eval = vs
  | [], vs, h => by simpa [pureSs] using h
  | x :: xs, vs, h => by
    simp only [List.map_cons, pureSs] at h
    split at h
    · rename_i v us h1 h2
      obtain rfl := Option.some.inj h
      simp only [List.map_cons]
      rw [pureSs_vals hop h2, pureS_fits h1 (hop x)]
    · cases h

section
variable {w0 : World} {M0 : Mod} {R0 : Hp} {n : Nat} {dfs : List Deferred} {bs : Bs} {S : St} {R : Hp} {a : Act} {w : World}
def Nx (w0 : World) (M0 : Mod) (R0 : Hp) (n : Nat) (dfs : List Deferred) (K : St → Hp → Prop) (a : Act) (w : World) : Prop := ∃ bs S R, Inv w0 M0 R0 n dfs bs S R a w ∧ K S R
def Px (w0 : World) (M0 : Mod) (R0 : Hp) (n : Nat) (dfs : List Deferred) (Kp : List PanicEntry → Hp → Prop) (ch : List PanicEntry) (a : Act) (w : World) : Prop := ∃ bs S R, Inv w0 M0 R0 n dfs bs S R a w ∧ Kp ch R

/-- Behind a call that wrote nothing. -/
theorem Inv.after (I : Inv w0 M0 R0 n dfs bs S R a w) {w' : World} {R' : Hp} (hb : Below w.heap.size w w') (hle : R.le R') (hs : Sees R' w') (hn : ∀ b o, R' b = some o → R b = some o ∨ w.heap.size ≤ b) : Inv w0 M0 R0 n dfs bs S R' a w' :=
  { I with
    hb := fun j h hj => (I.hb j h hj).keep fun b hb' => hb.block b ((I.hb j h hj).lt hb')
    sep := fun j h b hj hb' => by
      obtain ⟨s1, s2⟩ := I.sep j h b hj hb'
      refine ⟨?_, s2⟩
      cases hr : R' b with
      | none => rfl
      | some o =>
        rcases hn b o hr with h1 | h1
        · rw [s1] at h1; cases h1
        · have := (I.hb j h hj).lt hb'
          omega
    good := fun t => (I.good t).mono (fun _ h => h) hle
    goodc := fun j T cs hj c hc => (I.goodc j T cs hj c hc).mono (fun _ h => h) hle
    sees := hs
    le := I.le.trans hle
    new := fun b o hb' => by
      rcases hn b o hb' with h1 | h1
      · exact I.new b o h1
      · exact .inr (.inl (Nat.le_trans I.wf.size h1))
    wf := I.wf.below hb }
theorem evP_wp (I : Inv w0 M0 R0 n dfs bs S R a w) {cx : Cx} (hT : TblOk cx.P cx.tbl) {o : Oper} (hd : okDst n o.dst = true) {K : St → Hp → Prop} (h : evP cx o S.env S.hid R fun v h => K (S.behind o.dst v h) R) {next : Act → World → Prop} {Q : Exit → Act → World → Prop}
    (hn : ∀ a w, Nx w0 M0 R0 n dfs K a w → next a w) : o.wp cx.P a w next Q := by
  obtain ⟨sv, hbo, v, w', r1, r2, r3⟩ := evP_sound I hT h
  obtain ⟨bs', J⟩ := I.behind hd r2
  exact upon_of r1 (hn _ _ ⟨bs', _, R, J, r3⟩)
theorem call_wp (I : Inv w0 M0 R0 n dfs bs S R a w) {cx : Cx} {o : Oper} {c : Call} {f : FuncId} {x : Operand} (hop : o.op = .call c) (hc : c.callee = .value x) (he : a.eval x = .func (.func f) #[] #[]) (hd : okDst n o.dst = true) {vs : List Value} (hv : pureSs (c.args.toList.map (opd S.env)) = some vs) {K : St → Hp → Prop}
    (h : CallsR cx.P f vs.toArray R fun e R' => retK cx.tbl (cx.rts f) e fun v => K (S.put o.dst v) R') {next : Act → World → Prop} {Q : Exit → Act → World → Prop}
    (hn : ∀ a w, Nx w0 M0 R0 n dfs K a w → next a w) : o.wp cx.P a w next Q := by
  have hargs : c.args.map a.eval = vs.toArray := by
    apply Array.toList_inj.1
    rw [Array.toList_map]
    exact pureSs_vals (fun x => I.opd x) hv
  have hr := run_callF (P := cx.P) (w := w) (ρ := a.eval) hop hc he
  rw [hargs] at hr
  have fin : ∀ e w1, (∃ R', (retK cx.tbl (cx.rts f) e fun v => K (S.put o.dst v) R') ∧ R.le R' ∧ Sees R' w1 ∧ Below w.heap.size w w1 ∧ ∀ b o, R' b = some o → R b = some o ∨ w.heap.size ≤ b) → ∃ v, e = .returned v ∧ next (a.put o.dst v) w1 := by
    rintro e w1 ⟨R', h1, h2, h3, h4, h5⟩
    obtain ⟨v, sv, rfl, hK, hf, hg⟩ := retK_fits bs h1
    exact ⟨v, rfl, hn _ _ ⟨bs, _, R', (I.after h4 h2 h3 h5).put o.dst sv v hf (hg _ _) hd, hK⟩⟩
  rcases h.run w I.sees with ⟨f', args', e1, e2⟩ | ⟨v, w', e1, e2⟩
  · refine upon_of (hr.trans e1) ?_
    rw [Oper.upon_enter]
    refine e2.mono fun e w1 h => ?_
    obtain ⟨v, rfl, h1⟩ := fin e w1 h
    exact h1
  · refine upon_of (hr.trans e1) ?_
    rw [Oper.upon_value]
    obtain ⟨v', hv', h1⟩ := fin _ w' e2
    cases hv'
    exact h1
end
/-- Values that fit, one by one. -/
def FitsV (bs : Bs) (svs : List SV) (vals : List Value) : Prop := svs.length = vals.length ∧ ∀ (k : Nat) x, svs[k]? = some x → ∃ v, vals[k]? = some v ∧ x.fits bs v
theorem FitsV.hd {bs : Bs} {x : SV} {xs : List SV} {v : Value} {vs : List Value} (h : FitsV bs (x :: xs) (v :: vs)) : x.fits bs v := by
  obtain ⟨v', e, hv⟩ := h.2 0 x rfl
  cases e
  exact hv
theorem FitsV.tl {bs : Bs} {x : SV} {xs : List SV} {v : Value} {vs : List Value} (h : FitsV bs (x :: xs) (v :: vs)) : FitsV bs xs vs :=
  ⟨by simpa using h.1, fun k y e => by simpa using h.2 (k + 1) y (by simpa using e)⟩
theorem FitsV.map {bs : Bs} {S : St} {ev : Operand → Value} (h : ∀ x, (opd S.env x).fits bs (ev x)) (xs : List Operand) : FitsV bs (xs.map (opd S.env)) (xs.map ev) :=
  ⟨by simp, fun k x e => by
    rw [List.getElem?_map] at e
    cases e1 : xs[k]? with
    | none => rw [e1] at e; cases e
    | some y =>
      rw [e1] at e
      cases e
      exact ⟨ev y, by rw [List.getElem?_map, e1]; rfl, h y⟩⟩
theorem FitsV.append {bs : Bs} {xs ys : List SV} {vs us : List Value} (h : FitsV bs xs vs) (h' : FitsV bs ys us) : FitsV bs (xs ++ ys) (vs ++ us) := by
  refine ⟨by simp [h.1, h'.1], fun k x e => ?_⟩
  rcases Nat.lt_or_ge k xs.length with hlt | hge
  · rw [List.getElem?_append_left hlt] at e
    obtain ⟨v, e1, e2⟩ := h.2 k x e
    exact ⟨v, by rw [List.getElem?_append_left (h.1 ▸ hlt)]; exact e1, e2⟩
  · rw [List.getElem?_append_right hge] at e
    obtain ⟨v, e1, e2⟩ := h'.2 _ x e
    exact ⟨v, by rw [List.getElem?_append_right (by rw [← h.1]; exact hge), ← h.1]; exact e1, e2⟩
/-- Calls to which own things are handed over are taken. -/
def XSnd (cx : Cx) (w0 : World) (M0 : Mod) (R0 : Hp) (n : Nat) (dfs : List Deferred) : Prop := ∀ {bs : Bs} {S : St} {R : Hp} {a : Act} {w : World}, Inv w0 M0 R0 n dfs bs S R a w → ∀ {o : Oper} {f : FuncId} {sig : XS} {fops : List Operand} {args : St → Option (List SV)} {K : St → Hp → Prop}, okDst n o.dst = true → evX cx f sig fops args o.dst S R K →
  (∀ (bs : Bs) (S : St) (R : Hp) (w : World), Inv w0 M0 R0 n dfs bs S R a w → ∀ svs, args S = some svs → ∃ vals : List Value, (execOp a.eval o).run cx.P w = (callFunc f vals.toArray).run cx.P w ∧ FitsV bs svs vals ∧ ∀ x ∈ svs, x.good (Alive S) R) →
  ∀ {next : Act → World → Prop} {Q : Exit → Act → World → Prop}, (∀ a w, Nx w0 M0 R0 n dfs K a w → next a w) → o.wp cx.P a w next Q
/-- How a call of a function value runs. -/
theorem run_callX {P : Program} {w : World} {ρ : Operand → Value} {o : Oper} {c : Call} {x : Operand} {f : FuncId} {cap : Array Value} (hop : o.op = .call c) (hc : c.callee = .value x) (hρ : ρ x = .func (.func f) #[] cap) :
    (execOp ρ o).run P w = (callFunc f (c.args.map ρ ++ cap)).run P w := by
  simp only [execOp, hop, resolve, hc, hρ, Deferred.ofValue, Sem.run_bind, Sem.run_pure, Result.andThen_ok, invoke, Array.empty_append]
theorem callee_ok {w0 : World} {M0 : Mod} {R0 : Hp} {n : Nat} {dfs : List Deferred} {bs : Bs} {S : St} {R : Hp} {a : Act} {w : World} (I : Inv w0 M0 R0 n dfs bs S R a w) {x : Operand} {f : FuncId} {cap : List (Nat × Nat)} (h : calleeOf S.env x = some (f, cap)) :
    a.eval x = .func (.func f) #[] (cap.map fun p => Value.pointer (some ⟨(bs p.1).blk, p.2, none⟩)).toArray ∧ FitsV bs (capSVs cap) (cap.map fun p => Value.pointer (some ⟨(bs p.1).blk, p.2, none⟩)) ∧ ∀ y ∈ capSVs cap, y.good (Alive S) R := by
  have caps : FitsV bs (capSVs cap) (cap.map fun p => Value.pointer (some ⟨(bs p.1).blk, p.2, none⟩)) := ⟨by simp [capSVs], fun k y e => by
    simp only [capSVs, List.getElem?_map] at e ⊢
    cases e1 : cap[k]? with
    | none => rw [e1] at e; cases e
    | some p => rw [e1] at e; cases e; exact ⟨_, rfl, .inr rfl⟩⟩
  cases x with
  | func g =>
    simp only [calleeOf, Option.some.injEq, Prod.mk.injEq] at h
    obtain ⟨rfl, rfl⟩ := h
    exact ⟨rfl, caps, fun y hy => by simp [capSVs] at hy⟩
  | tmp t =>
    simp only [calleeOf] at h
    split at h
    · rename_i f' cap' e
      simp only [Option.some.injEq, Prod.mk.injEq] at h
      obtain ⟨rfl, rfl⟩ := h
      have hv := I.env t
      rw [e] at hv
      have hg := I.good t
      rw [e] at hg
      refine ⟨LV.fits_val hv (by simp), caps, fun y hy => ?_⟩
      simp only [capSVs, List.mem_map] at hy
      obtain ⟨p, hp, rfl⟩ := hy
      exact good_l ⟨fun id hs => hg.l.live id (by
        simp only [LV.says, List.any_eq_true] at hs ⊢
        exact ⟨p, hp, hs⟩), trivial⟩
    · cases h
  | const v => cases h
  | global g => cases h
theorem argsX_ok {w0 : World} {M0 : Mod} {R0 : Hp} {n : Nat} {dfs : List Deferred} {bs : Bs} {S : St} {R : Hp} {a : Act} {w : World} (I : Inv w0 M0 R0 n dfs bs S R a w) {P : Program} {o : Oper} {c : Call} {x : Operand} (hop : o.op = .call c) (hc : c.callee = .value x) {f : FuncId} {svs : List SV} (h : argsX f x c.args.toList S = some svs) :
    ∃ vals : List Value, (execOp a.eval o).run P w = (callFunc f vals.toArray).run P w ∧ FitsV bs svs vals ∧ ∀ y ∈ svs, y.good (Alive S) R := by
  unfold argsX at h
  split at h
  · rename_i g cap e
    split at h
    · rename_i hb
      have hb := Nat.eq_of_beq_eq_true hb
      subst hb
      cases h
      obtain ⟨h1, h2, h3⟩ := callee_ok I e
      refine ⟨c.args.toList.map a.eval ++ cap.map fun p => Value.pointer (some ⟨(bs p.1).blk, p.2, none⟩), ?_, (FitsV.map (fun x => I.opd x) _).append h2, fun y hy => ?_⟩
      · rw [run_callX hop hc h1]
        congr 2
        apply Array.toList_inj.1
        simp
      · rcases List.mem_append.1 hy with hy | hy
        · obtain ⟨z, _, rfl⟩ := List.mem_map.1 hy
          exact I.opd_good z
        · exact h3 y hy
    · cases h
  · cases h
section
variable {w0 : World} {M0 : Mod} {R0 : Hp} {n : Nat} {dfs : List Deferred} {bs : Bs} {S : St} {R : Hp} {a : Act} {w : World}
theorem Inv.update (I : Inv w0 M0 R0 n dfs bs S R a w) {cx : Cx} (hT : TblOk cx.P cx.tbl) {t : TypeId} {m k v : Operand} {K : St → Prop} (h : evUpdate cx S t (KE.opd S.env m) (KE.opd S.env k) (KE.opd S.env v) K) :
    ∃ w' S', (Instr.mapUpdate t (a.eval m) (a.eval k) (a.eval v)).run cx.P w = .ok () w' ∧ Inv w0 M0 R0 n dfs bs S' R a w' ∧ K S' := by
  unfold evUpdate at h
  split at h
  · rename_i id hx
    obtain ⟨kt, e, te, kk, kv, ht, hk, T, ha, hks, h⟩ := mapOfT_iff hT h
    obtain ⟨y, dk, hi, hdk, h⟩ := denT_iff h
    obtain ⟨z, dv, hv, hdv, h⟩ := denT_iff h
    split at h
    · obtain ⟨xs, hid, h⟩ := mapIn_iff h
      obtain ⟨es, clock, hm, hes⟩ := I.map hid
      have ex := I.l_val hx (by simp)
      have ei := I.den hi hdk
      have ev := I.den hv hdv
      obtain ⟨es', clock', r1, r2⟩ := run_update ht hk hm hes dk dv
      have hlt : (bs id).blk < w.heap.size := (I.hb id _ hid).lt rfl
      rw [ex, ei, ev]
      refine ⟨_, _, r1, I.turn (w' := { w with heap := w.heap.setIfInBounds (bs id).blk (.map es' clock') }) hid (h' := .row (.mp [kk, kv]) (mSet kk kv dk dv xs)) (bs' := bs) ⟨fun j hj hne => ?_, rfl, rfl, rfl, by simp⟩ (fun _ _ => rfl) rfl (.inl rfl) ⟨es', clock', ?_, r2⟩ (fun b hb => .inl hb) (fun T cs e => by cases e), h⟩
      · have : (bs id).blk ≠ j := fun e => hne (by rw [← e]; rfl)
        exact Array.getElem?_setIfInBounds_ne this
      · exact Array.getElem?_setIfInBounds_self_of_lt hlt
    · exact h.elim
  · exact h.elim
theorem ev1_sound (I : Inv w0 M0 R0 n dfs bs S R a w) {cx : Cx} (hT : TblOk cx.P cx.tbl) (HX : XSnd cx w0 M0 R0 n dfs) {o : Oper} (hd : okDst n o.dst = true) {K : St → Hp → Prop} {Kp : List PanicEntry → Hp → Prop} (h : ev1 cx o S R K Kp) {next : Act → World → Prop} {Q : Exit → Act → World → Prop}
    (hn : ∀ a w, Nx w0 M0 R0 n dfs K a w → next a w) (hq : ∀ ch a w, Px w0 M0 R0 n dfs Kp ch a w → Q (.panic ch) a w) : o.wp cx.P a w next Q := by
  unfold ev1 at h
  split at h
  · rename_i t len parts hop
    obtain ⟨S', R', J, _, h⟩ := I.frzOps _ _ h
    exact evP_wp J hT hd h hn
  · rename_i t x y hop
    have key : ∀ {S : St} {R : Hp} (_ : Inv w0 M0 R0 n dfs bs S R a w), (typeT cx t fun ti => writeAt S (opd S.env x) ti (opd S.env y) fun S' => K (S'.put o.dst (.l .no)) R) → o.wp cx.P a w next Q := by
      intro S R I h
      obtain ⟨ti, ht, h⟩ := typeT_iff h
      obtain ⟨w', S', r1, r2, r3⟩ := I.store (hT t ti ht) (I.opd x) (I.opd y) (I.opd_good y) h
      refine upon_of (x := .skip) (w' := w') ?_ ?_
      · simp only [execOp, hop, Sem.run_bind, r1, Result.andThen_ok, Sem.run_pure]
      · rw [Oper.upon_skip]
        exact hn _ _ ⟨bs, _, R, r2.put o.dst (.l .no) undef (.inl rfl) (good_l (good_of_not (fun _ => rfl) trivial)) hd, r3⟩
    split at h
    · obtain ⟨S', R', J, _, h⟩ := I.frzOps _ _ h
      exact key J h
    · exact key I h
  · rename_i t x hi hop
    split at h
    · rename_i id hx
      obtain ⟨ti, e, te, ht, hu0, hte, h⟩ := elemOfT_iff h
      have hu := (hT t ti ht).slice hu0
      have hf := I.opd x
      rw [hx] at hf
      obtain ⟨bs', S', sv, r, r1, r2, r3, r4, r5⟩ := I.trunc hu (hT e te hte) hf (optFits_map (fun x => I.opd x) hi) h
      refine upon_of (x := .value r) (w' := w) ?_ ?_
      · simp only [execOp, hop, Option.map_none]
        exact run_v r1
      · rw [Oper.upon_value]
        exact hn _ _ ⟨bs', _, R, r2.put o.dst sv r r3 r4 hd, r5⟩
    · exact evP_wp I hT hd h hn
  · rename_i t m k x hop
    obtain ⟨w', S', r1, r2, r3⟩ := I.update hT h
    refine upon_of (x := .skip) (w' := w') ?_ ?_
    · simp only [execOp, hop, Sem.run_bind, r1, Result.andThen_ok, Sem.run_pure]
    · rw [Oper.upon_skip]
      exact hn _ _ ⟨bs, _, R, r2.put o.dst (.l .no) undef (.inl rfl) (good_l (good_of_not (fun _ => rfl) trivial)) hd, r3⟩
  · rename_i x hop
    split at h
    · rename_i y hx
      have ex := I.l_val hx (by simp)
      unfold Oper.wp
      have : (execOp a.eval o).run cx.P w = .halt (.panic (.iface y.1 y.2)) w := by
        simp only [execOp, hop, ex, LV.conc, ifcV, Instr.panic]
        rfl
      rw [this, Oper.upon_panic]
      exact hq _ _ _ ⟨bs, S, R, I, h⟩
    · exact h.elim
  · rename_i c hop
    split at h
    · rename_i b hb
      split at h
      · rename_i x y t u ha ht
        split at h
        · obtain ⟨bs', w', S', sv, r, r1, r2, r3, r4, r5⟩ := I.append (ty := o.type) hT (I.opd x) (I.opd y) h
          obtain ⟨cs, hr⟩ := run_builtin (P := cx.P) (w := w) (ρ := a.eval) hop hb
          refine upon_of (x := .value r) (w' := w') ?_ ?_
          · rw [hr, args2 ha, show c.argTypes = #[t, u] from Array.toList_inj.1 ht]
            exact run_v r1
          · rw [Oper.upon_value]
            exact hn _ _ ⟨bs', _, R, r2.put o.dst sv r r3 r4 hd, r5⟩
        · exact evP_wp I hT hd h hn
      · rename_i x y t ts ha ht
        have hats : c.argTypes[0]? = some t := by
          rw [← Array.getElem?_toList, ht]; rfl
        obtain ⟨w', S', sv, r, r1, r2, r3, r4, r5⟩ := I.copy (ty := o.type) hT hats (I.opd x) (I.opd y) h
        obtain ⟨cs, hr⟩ := run_builtin (P := cx.P) (w := w) (ρ := a.eval) hop hb
        refine upon_of (x := .value r) (w' := w') ?_ ?_
        · rw [hr, args2 ha]
          exact run_v r1
        · rw [Oper.upon_value]
          exact hn _ _ ⟨bs, _, R, r2.put o.dst sv r r3 r4 hd, r5⟩
      · exact evP_wp I hT hd h hn
    · rename_i x hc
      split at h
      · exact h.elim
      · rename_i f cap hcal
        split at h
        · rename_i sig hsig
          exact HX I hd h (fun bs S R w I svs e => argsX_ok I hop hc e) hn
        · split at h
          · obtain ⟨S', R', J, _, h⟩ := I.frzOps _ _ h
            have he : a.eval x = .func (.func f) #[] #[] := by
              have := (callee_ok I hcal).1
              simpa using this
            split at h
            · rename_i vs hv
              exact call_wp J hop hc he hd hv h hn
            · exact h.elim
          · exact h.elim
    · exact h.elim
  · exact evP_wp I hT hd h hn
end
end Go.KE

/- The engine, part Y: a region's operations, one behind the other. -/
namespace Go.KE
open Go.RowKit (Below)

section
variable {w0 : World} {M0 : Mod} {R0 : Hp} {n : Nat} {dfs : List Deferred} {bs : Bs} {S : St} {R : Hp} {a : Act} {w : World}
theorem Inv.lit (I : Inv w0 M0 R0 n dfs bs S R a w) {t : Nat} {q : Bool} (h : S.env t = .l (.bool q)) : Inv w0 M0 R0 n dfs bs (S.lit t (if q = true then .tt else .ff)) R a w := by
  have hv : a.tmps.getD t undef = .bool q := by
    have := I.env t
    rw [h] at this
    exact LV.fits_val this (by simp)
  have henv : ∀ u, (S.lit t (if q = true then .tt else .ff)).env u = if u = t then .l (if q = true then .tt else .ff) else S.env u := fun u => by
    simp only [St.lit]
    rcases beq_cases u t with ⟨e, h⟩ | ⟨e, h⟩ <;> simp [e, h]
  have hgood : ∀ A R, (SV.l (if q = true then .tt else .ff)).good A R := fun A R => by cases q <;> exact good_l (good_of_not (fun _ => rfl) trivial)
  exact { I with
    env := fun u => by
      rw [henv]
      split
      · rename_i e
        subst e
        rw [hv]
        cases q <;> exact .inr rfl
      · exact I.env u
    good := fun u => by
      show ((S.lit t (if q = true then .tt else .ff)).env u).good (Alive S) R
      rw [henv]
      split
      · exact hgood _ _
      · exact I.good u }
theorem Nx.split {gts : List Nat} {d : Option Nat} {K : St → Hp → Prop} (h : Nx w0 M0 R0 n dfs (fun S R => splitAt gts d S fun S => K S R) a w) : Nx w0 M0 R0 n dfs K a w := by
  obtain ⟨bs, S, R, I, h⟩ := h
  unfold splitAt at h
  split at h
  · exact ⟨bs, S, R, I, h⟩
  · split at h
    · exact ⟨bs, S, R, I, h⟩
    · split at h
      · rename_i d _ _ q e
        have J := I.lit e
        cases q with
        | true => exact ⟨bs, _, R, J, h.1 rfl⟩
        | false => exact ⟨bs, _, R, J, h.2 rfl⟩
      · exact ⟨bs, S, R, I, h⟩
theorem ev1d_sound (I : Inv w0 M0 R0 n dfs bs S R a w) {cx : Cx} (hT : TblOk cx.P cx.tbl) (HX : XSnd cx w0 M0 R0 n dfs) {o : Oper} (hd : okDst n o.dst = true) {K : St → Hp → Prop} {Kp : List PanicEntry → Hp → Prop} (h : ev1d cx o S R K Kp) {next : Act → World → Prop} {Q : Exit → Act → World → Prop}
    (hn : ∀ a w, Nx w0 M0 R0 n dfs K a w → next a w) (hq : ∀ ch a w, Px w0 M0 R0 n dfs Kp ch a w → Q (.panic ch) a w) : o.wp cx.P a w next Q := by
  unfold ev1d at h
  split at h
  · exact ev1_sound I hT HX hd h hn hq
  · split at h
    · rename_i c hop
      split at h
      · rename_i f hc
        split at h
        · rename_i vs hv
          exact call_wp I hop hc rfl hd hv h hn
        · exact h.elim
      · exact h.elim
    · exact h.elim
  · exact evP_wp I hT hd h hn

def asB : Value → Option Bool
  | .bool b => some b
  | _ => none
theorem guard_val {ops : List Oper} {j gt : Nat} (hg : guardT ops j = some gt) {v : Value} (hv : a.tmps.getD gt undef = v) : yielded ops.toArray a.tmps j = asB v := by
  unfold guardT at hg
  split at hg
  · rename_i o ho
    unfold yielded
    have h1 : (ops.toArray[j]?).bind (·.dst) = some gt := by simp [ho, hg]
    rw [h1]
    simp only [Option.bind_some]
    subst hv
    by_cases hlt : gt < a.tmps.size
    · have e1 : a.tmps[gt]? = some (a.tmps.getD gt undef) := by simp [hlt]
      rw [e1]
      generalize a.tmps.getD gt undef = v
      cases v <;> rfl
    · have : a.tmps[gt]? = none := by simp; omega
      rw [this]
      simp [Array.getD, hlt, undef, asB]
  · cases hg
theorem evOp_sound (I : Inv w0 M0 R0 n dfs bs S R a w) {cx : Cx} (hT : TblOk cx.P cx.tbl) (HX : XSnd cx w0 M0 R0 n dfs) (hcn : cx.n = n) {ops : List Oper} {gts : List Nat} {draw : Bool} {i : Nat} {o : Oper} (ho : ops[i]? = some o) {K : St → Hp → Prop} {Kp : List PanicEntry → Hp → Prop}
    (h : evOp cx ops gts draw o S R K Kp) {next : Act → World → Prop} {Q : Exit → Act → World → Prop}
    (hn : ∀ a w, Nx w0 M0 R0 n dfs K a w → next a w) (hq : ∀ ch a w, Px w0 M0 R0 n dfs Kp ch a w → Q (.panic ch) a w) : wpOp cx.P ops.toArray Q i next a w := by
  unfold evOp at h
  split at h
  · exact h.elim
  · rename_i hd
    rw [hcn] at hd
    have ho' : ops.toArray[i]? = some o := by simpa using ho
    unfold wpOp
    rw [ho']
    simp only
    have go : (match draw with | true => ev1d cx o | false => ev1 cx o) S R (fun S' R' => splitAt gts o.dst S' fun S' => K S' R') Kp → o.wp cx.P a w next Q := fun h => by
      cases draw with
      | true => exact ev1d_sound I hT HX hd h (fun a w h => hn a w h.split) hq
      | false => exact ev1_sound I hT HX hd h (fun a w h => hn a w h.split) hq
    have no : K (S.put o.dst (.l .und)) R → next (a.put o.dst undef) w := fun h => hn _ _ ⟨bs, _, R, I.put o.dst (.l .und) undef (show _ ∨ _ from .inr rfl) (good_l (good_of_not (fun _ => rfl) trivial)) hd, h⟩
    split at h
    · rename_i hg
      have : Region.wanted o (yielded ops.toArray a.tmps) = true := by unfold Region.wanted; rw [hg]
      rw [this, if_pos rfl]
      exact .inl (go h)
    · rename_i j want hg
      split at h
      · exact h.elim
      · rename_i gt hgt
        have hv : ∀ v, (∀ {x : LV}, S.env gt = .l x → x ≠ .no → v = x.conc bs → yielded ops.toArray a.tmps j = asB v) := fun v x hx hne hv => by
          subst hv
          have := I.env gt
          rw [hx] at this
          exact guard_val hgt (LV.fits_val this hne)
        have hwant : Region.wanted o (yielded ops.toArray a.tmps) = (yielded ops.toArray a.tmps j == some want) := by unfold Region.wanted; rw [hg]
        split at h
        · rename_i e
          have := hv _ e (by simp) rfl
          simp only [LV.conc, asB] at this
          rw [hwant, this]
          cases want with
          | true => exact (if_pos (by rfl)).mpr (.inl (go h))
          | false => exact (if_neg (by simp)).mpr (no h)
        · rename_i e
          have := hv _ e (by simp) rfl
          simp only [LV.conc, asB] at this
          rw [hwant, this]
          cases want with
          | false => exact (if_pos (by rfl)).mpr (.inl (go h))
          | true => exact (if_neg (by simp)).mpr (no h)
        · rename_i e
          have := hv _ e (by simp) rfl
          simp only [LV.conc, undef, asB] at this
          rw [hwant, this]
          exact (if_neg (by simp)).mpr (no h)
        · exact h.elim
theorem evOps_sound {cx : Cx} (hT : TblOk cx.P cx.tbl) (HX : XSnd cx w0 M0 R0 n dfs) (hcn : cx.n = n) {ops : List Oper} {gts : List Nat} {draw : Bool} {K : St → Hp → Prop} {Kp : List PanicEntry → Hp → Prop} {Q : Exit → Act → World → Prop}
    (hn : ∀ a w, Nx w0 M0 R0 n dfs K a w → Q .normal a w) (hq : ∀ ch a w, Px w0 M0 R0 n dfs Kp ch a w → Q (.panic ch) a w) :
    ∀ (l : List Nat) (bs : Bs) (S : St) (R : Hp) (a : Act) (w : World), Inv w0 M0 R0 n dfs bs S R a w → evOps cx ops gts draw l S R K Kp → wpOps cx.P ops.toArray Q l a w
  | [], bs, S, R, a, w, I, h => hn _ _ ⟨bs, S, R, I, h⟩
  | i :: rest, bs, S, R, a, w, I, h => by
    rw [wpOps_cons]
    simp only [evOps] at h
    split at h
    · exact h.elim
    · rename_i o ho
      exact evOp_sound I hT HX hcn ho h (fun a w ⟨bs', S', R', J, h'⟩ => evOps_sound hT HX hcn hn hq rest bs' S' R' a w J h') hq
end
end Go.KE

/- The engine, part Z: what only reads does not care when it comes. -/
namespace Go.KE
open Go.RowKit (Below)

structure Agr (xs : List Operand) (get get' : Nat → SV) (hid hid' : Nat → Option HB) (R R' : Hp) : Prop where
  le : R.le R'
  env : ∀ x ∈ xs, opd get' x = opd get x
  said : ∀ x ∈ xs, ∀ id, (opd get x).says id = true → hid' id = hid id

section
variable {hid hid' : Nat → Option HB} {R R' : Hp} {x : SV}
theorem readAt_elim {ti : TI} {K : List LV → Prop} (h : readAt hid R x ti K) :
    ∃ cs, K cs ∧ ∀ (hid' : Nat → Option HB) (R' : Hp) (K' : List LV → Prop), R.le R' → (∀ id, x.says id = true → hid' id = hid id) → K' cs → readAt hid' R' x ti K' := by
  have sz : ∀ {m : Nat} {cs : List LV} {K K' : List LV → Prop}, sized m cs K → K' cs → sized m cs K' := fun {m cs K K'} h hk => by
    unfold sized at h ⊢
    split at h
    · exact hk
    · exact h.elim
  unfold readAt at h
  split at h
  · rename_i id off
    split at h
    · rename_i e
      refine ⟨_, (sized_iff h).2, fun hid' R' K' _ hh hk => ?_⟩
      unfold readAt
      simp only
      rw [hh id (by simp [SV.says, LV.says]), e]
      exact sz h hk
    · exact h.elim
  · refine ⟨_, (sized_iff h).2, fun hid' R' K' _ hh hk => ?_⟩
    unfold readAt
    exact sz h hk
  · rename_i id ix off esz
    split at h
    · rename_i e
      split at h
      · rename_i hb
        obtain ⟨y, hy, h⟩ := h
        refine ⟨_, (sized_iff h).2, fun hid' R' K' _ hh hk => ?_⟩
        unfold readAt
        simp only
        rw [hh id (by simp [SV.says, LV.says]), e]
        simp only
        rw [hb]
        exact ⟨y, hy, sz h hk⟩
      · exact h.elim
    · exact h.elim
  · obtain ⟨y, h1, h2⟩ := h
    refine ⟨_, h2, fun hid' R' K' hl hh hk => ?_⟩
    unfold readAt
    exact ⟨y, h1.mono hl, hk⟩
  · exact h.elim
theorem srcOf_elim {te : TI} {K : List (Tup te.ks) → Prop} (h : srcOf hid R x te K) :
    ∃ ys, K ys ∧ ∀ (hid' : Nat → Option HB) (R' : Hp) (K' : List (Tup te.ks) → Prop), R.le R' → (∀ id, x.says id = true → hid' id = hid id) → K' ys → srcOf hid' R' x te K' := by
  unfold srcOf at h
  split at h
  · exact ⟨_, h, fun hid' R' K' _ _ hk => hk⟩
  · rename_i id
    split at h
    · rename_i e
      split at h
      · rename_i hks
        refine ⟨_, h, fun hid' R' K' _ hh hk => ?_⟩
        unfold srcOf
        simp only
        rw [hh id (by simp [SV.says, LV.says]), e]
        simp only
        rw [dif_pos hks]
        exact hk
      · exact h.elim
    · exact h.elim
  · rename_i id lo hi esz
    split at h
    · rename_i hb
      split at h
      · rename_i e
        split at h
        · rename_i hks
          refine ⟨_, h.2, fun hid' R' K' _ hh hk => ?_⟩
          unfold srcOf
          simp only
          rw [hb, hh id (by simp [SV.says, LV.says]), e]
          simp only
          rw [dif_pos hks]
          exact ⟨h.1, hk⟩
        · exact h.elim
      · exact h.elim
    · exact h.elim
  · obtain ⟨ys, h1, h2⟩ := h
    exact ⟨ys, h2, fun hid' R' K' hl _ hk => ⟨ys, h1.mono hl, hk⟩⟩
  · split at h
    · rename_i hks
      refine ⟨_, h, fun hid' R' K' _ _ hk => ?_⟩
      unfold srcOf
      simp only
      rw [dif_pos hks]
      exact hk
    · exact h.elim
  · exact h.elim
theorem evLen_elim {cx : Cx} {t : TypeId} {K : Int → Prop} (h : evLen cx t hid x K) : ∃ m, K m ∧ ∀ (hid' : Nat → Option HB) (K' : Int → Prop), (∀ id, x.says id = true → hid' id = hid id) → K' m → evLen cx t hid' x K' := by
  unfold evLen at h
  split at h
  · split at h
    · rename_i e
      exact ⟨_, h, fun hid' K' _ hk => by unfold evLen; simp only [e]; exact hk⟩
    · exact h.elim
  · split at h
    · rename_i e
      exact ⟨_, h, fun hid' K' _ hk => by unfold evLen; simp only [e]; exact hk⟩
    · exact h.elim
  · split at h
    · rename_i e
      exact ⟨_, h, fun hid' K' _ hk => by unfold evLen; simp only [e]; exact hk⟩
    · exact h.elim
  · rename_i id
    split at h
    · rename_i e
      split at h
      · rename_i e2
        exact ⟨_, h, fun hid' K' hh hk => by unfold evLen; simp only [e]; rw [hh id (by simp [SV.says, LV.says]), e2]; exact hk⟩
      · exact h.elim
    · exact h.elim
  · split at h
    · rename_i e
      exact ⟨_, h, fun hid' K' _ hk => by unfold evLen; simp only [e]; exact hk⟩
    · exact h.elim
  · exact h.elim
theorem typeT_intro {cx : Cx} {t : TypeId} {K : TI → Prop} {ti : TI} (h : cx.tbl t = some ti) (hk : K ti) : typeT cx t K := by unfold typeT; rw [h]; exact hk
theorem elemOfT_intro {cx : Cx} {t : TypeId} {K : TypeId → TI → Prop} {ti te : TI} {e : TypeId} (h : cx.tbl t = some ti) (hu : ti.u = .slice e) (he : cx.tbl e = some te) (hk : K e te) : elemOfT cx t K := by
  unfold elemOfT
  rw [h]
  simp only
  rw [hu]
  simp only
  rw [he]
  exact hk
theorem fieldOfT_intro {cx : Cx} {t ft : TypeId} {f off : Nat} {fs : List (TypeId × Nat)} {K : List Kd → TI → Nat → Prop} {ti tf : TI} (h : cx.tbl t = some ti) (hu : ti.u = .struct fs) (hf : fs[f]? = some (ft, off)) (he : cx.tbl ft = some tf) (h1 : 1 ≤ tf.size) (hk : K ti.ks tf off) : fieldOfT cx t f K := by
  unfold fieldOfT
  rw [h]
  simp only
  rw [hu]
  simp only
  rw [hf]
  simp only
  rw [he]
  simp only
  rw [Nat.ble_eq_true_of_le h1]
  exact hk
theorem evConv_elim {cx : Cx} {s d : TypeId} {K : SV → Prop} (h : evConv cx hid R s d x K) : ∃ v, K v ∧ ∀ (hid' : Nat → Option HB) (R' : Hp) (K' : SV → Prop), R.le R' → (∀ id, x.says id = true → hid' id = hid id) → K' v → evConv cx hid' R' s d x K' := by
  unfold evConv at h
  obtain ⟨ts, e1, h⟩ := typeT_iff h
  obtain ⟨td, e2, h⟩ := typeT_iff h
  split at h
  · rename_i k hu
    split at h
    · have hs := ‹ts.u = TU.int _›
      refine ⟨_, h, fun hid' R' K' _ _ hk => typeT_intro e1 (typeT_intro e2 ?_)⟩
      rw [hu]
      simp only
      rw [hs]
      exact hk
    · exact h.elim
  · rename_i hu
    split at h
    · rename_i e hs
      obtain ⟨te, e3, h⟩ := typeT_iff h
      split at h
      · rename_i hte
        split at h
        · rename_i hks
          split at h
          · exact h.elim
          · rename_i hns
            obtain ⟨ys, h1, h2⟩ := srcOf_elim h
            refine ⟨_, h1, fun hid' R' K' hl hh hk => typeT_intro e1 (typeT_intro e2 ?_)⟩
            rw [hu]
            simp only
            rw [hs]
            simp only
            refine typeT_intro e3 ?_
            rw [hte]
            simp only
            rw [dif_pos hks]
            exact h2 hid' R' _ hl hh hk
        · exact h.elim
      · exact h.elim
    · exact h.elim
  · exact h.elim
theorem optInt_elim {y : Option SV} {d : Int} {K : Int → Prop} (h : optInt y d K) : ∃ m, K m ∧ ∀ K' : Int → Prop, K' m → optInt y d K' := by
  unfold optInt at h
  split at h
  · exact ⟨_, h, fun K' hk => hk⟩
  · exact ⟨_, h, fun K' hk => hk⟩
  · exact h.elim
theorem optInt_elim2 {y : Option SV} {K : Int → Prop} {P : Prop} (h : ∀ d, optInt y d K → P) (d : Int) : optInt y d K → P := h d
theorem evSlice_elim {cx : Cx} {t : TypeId} {lo hi : Option SV} {K : SV → Prop} (h : evSlice cx hid t x lo hi K) : ∃ v, K v ∧ ∀ (hid' : Nat → Option HB) (K' : SV → Prop), (∀ id, x.says id = true → hid' id = hid id) → K' v → evSlice cx hid' t x lo hi K' := by
  unfold evSlice at h
  split at h
  · split at h
    · rename_i e
      obtain ⟨l, h, e1⟩ := optInt_elim h
      obtain ⟨u, h, e2⟩ := optInt_elim h
      exact ⟨_, h.2.2.2, fun hid' K' _ hk => by unfold evSlice; simp only [e]; exact e1 _ (e2 _ ⟨h.1, h.2.1, h.2.2.1, hk⟩)⟩
    · exact h.elim
  · obtain ⟨ti, e, te, a1, a2, a3, h⟩ := elemOfT_iff h
    obtain ⟨l, h, e1⟩ := optInt_elim h
    obtain ⟨u, h, e2⟩ := optInt_elim h
    exact ⟨_, h.2.2.2, fun hid' K' _ hk => by unfold evSlice; exact elemOfT_intro a1 a2 a3 (e1 _ (e2 _ ⟨h.1, h.2.1, h.2.2.1, hk⟩))⟩
  · rename_i id
    obtain ⟨ti, e, te, a1, a2, a3, h⟩ := elemOfT_iff h
    split at h
    · rename_i er
      split at h
      · exact h.elim
      · obtain ⟨l, h, e1⟩ := optInt_elim h
        obtain ⟨u, h, e2⟩ := optInt_elim h
        exact ⟨_, h.2.2.2, fun hid' K' hh hk => by
          unfold evSlice
          refine elemOfT_intro a1 a2 a3 ?_
          rw [hh id (by simp [SV.says, LV.says]), er]
          exact e1 _ (e2 _ ⟨h.1, h.2.1, h.2.2.1, hk⟩)⟩
    · exact h.elim
  · exact h.elim
end
theorem newAt_intro {hid : Nat → Option HB} {d : Option Nat} {K : Nat → Prop} {m : Nat} (h1 : d = some m) (h2 : hid m = none) (hk : K m) : newAt hid d K := by
  subst h1
  unfold newAt
  simp only
  rw [h2]
  exact hk
theorem fillL_congr {get get' : Nat → SV} (places : List (Nat × Nat)) : ∀ (ps : List (Nat × Operand)) (cs : List LV), (∀ p ∈ ps, opd get' p.2 = opd get p.2) → fillL get' places cs ps = fillL get places cs ps
  | [], cs, _ => rfl
  | (i, x) :: ps, cs, h => by
    simp only [fillL]
    rw [h (i, x) (by simp)]
    have ih := fun cs => fillL_congr places ps cs (fun p hp => h p (by simp [hp]))
    simp only [ih]
theorem fillE_congr {get get' : Nat → SV} (ks : List Kd) : ∀ (ps : List (Nat × Operand)) (xs : List (Tup ks)), (∀ p ∈ ps, opd get' p.2 = opd get p.2) → fillE get' ks xs ps = fillE get ks xs ps
  | [], cs, _ => rfl
  | (i, x) :: ps, cs, h => by
    simp only [fillE]
    rw [h (i, x) (by simp)]
    have ih := fun cs => fillE_congr ks ps cs (fun p hp => h p (by simp [hp]))
    simp only [ih]
theorem eqlOnly_elim {op : BinOp} {q : Bool} {K : SV → Prop} (h : eqlOnly op q K) : ∃ v, K v ∧ ∀ K' : SV → Prop, K' v → eqlOnly op q K' := by
  unfold eqlOnly at h
  split at h
  · exact ⟨_, h, fun K' hk => hk⟩
  · exact ⟨_, h, fun K' hk => hk⟩
  · exact h.elim
theorem evBin_elim {cx : Cx} {t : TypeId} {op : BinOp} {x y : SV} {K : SV → Prop} (h : evBin cx t op x y K) : ∃ v, K v ∧ ∀ K' : SV → Prop, K' v → evBin cx t op x y K' := by
  unfold evBin at h
  split at h
  · split at h
    · exact ⟨_, h.2, fun K' hk => ⟨h.1, hk⟩⟩
    · exact ⟨_, h.2, fun K' hk => ⟨h.1, hk⟩⟩
    · split at h
      · rename_i hne1 hne2 hk0
        subst hk0
        unfold evBin
        simp only [if_true]
        split at h <;> first
          | exact h.elim
          | exact ⟨_, h.2, fun K' hk => ⟨h.1, hk⟩⟩
          | exact ⟨_, h, fun K' hk => hk⟩
      · exact h.elim
  · split at h <;> first
      | exact h.elim
      | exact ⟨_, h.2, fun K' hk => ⟨h.1, hk⟩⟩
      | exact ⟨_, h, fun K' hk => hk⟩
  · split at h
    · rename_i e
      obtain ⟨v, h1, h2⟩ := eqlOnly_elim h
      exact ⟨v, h1, fun K' hk => by unfold evBin; simp only [e]; exact h2 K' hk⟩
    · exact h.elim
  · split at h
    · split at h
      · rename_i e
        obtain ⟨v, h1, h2⟩ := eqlOnly_elim h
        exact ⟨v, h1, fun K' hk => by unfold evBin; simp only [e]; exact h2 K' hk⟩
      · exact h.elim
    · exact h.elim
  · split at h
    · split at h
      · rename_i e
        obtain ⟨v, h1, h2⟩ := eqlOnly_elim h
        exact ⟨v, h1, fun K' hk => by unfold evBin; simp only [e]; exact h2 K' hk⟩
      · exact h.elim
    · exact h.elim
  · split at h
    · rename_i e1 e2
      obtain ⟨q, h0, h⟩ := h
      obtain ⟨v, h1, h2⟩ := eqlOnly_elim h
      exact ⟨v, h1, fun K' hk => by unfold evBin; simp only [e1, e2]; exact ⟨q, h0, h2 K' hk⟩⟩
    · exact h.elim
  · rename_i a b _ _ _ _ _
    split at h
    · rename_i e1 e2
      split at h
      · rename_i e3
        obtain ⟨v, h1, h2⟩ := eqlOnly_elim h
        refine ⟨v, h1, fun K' hk => ?_⟩
        have := h2 K' hk
        unfold evBin
        cases a <;> simp only [LV.asBool] at e1 <;> first | (cases e1; done) | (cases b <;> simp only [LV.asBool] at e2 <;> first | (cases e2; done) | (simp only [LV.asBool, e3]; cases e1; cases e2; exact this))
      · exact h.elim
    · exact h.elim
  · exact h.elim
theorem evUn_elim {op : UnOp} {x : SV} {K : SV → Prop} (h : evUn op x K) : ∃ v, K v ∧ ∀ K' : SV → Prop, K' v → evUn op x K' := by
  unfold evUn at h
  split at h <;> first | exact h.elim | exact ⟨_, h, fun K' hk => hk⟩
end Go.KE

/- The engine, part 2A: a drawn region's order. -/
namespace Go.KE
open Go.RowKit (Below)

def Elim (cx : Cx) (o : Oper) (get : Nat → SV) (hid : Nat → Option HB) (R : Hp) (K : SV → Option HB → Prop) : Prop :=
  ∃ sv hbo, K sv hbo ∧ (hbo.isSome = true → ∃ d, o.dst = some d ∧ hid d = none) ∧
    ∀ (get' : Nat → SV) (hid' : Nat → Option HB) (R' : Hp) (K' : SV → Option HB → Prop), Agr o.op.operands.toList get get' hid hid' R R' → (hbo.isSome = true → ∀ d, o.dst = some d → hid' d = none) → K' sv hbo → evP cx o get' hid' R' K'
theorem Agr.opd1 {xs : List Operand} {get get' : Nat → SV} {hid hid' : Nat → Option HB} {R R' : Hp} (A : Agr xs get get' hid hid' R R') {x : Operand} (h : x ∈ xs) : opd get' x = opd get x ∧ ∀ id, (opd get x).says id = true → hid' id = hid id := ⟨A.env x h, A.said x h⟩

theorem evP_elim {cx : Cx} {o : Oper} {get : Nat → SV} {hid : Nat → Option HB} {R : Hp} {K : SV → Option HB → Prop} (h : evP cx o get hid R K) : Elim cx o get hid R K := by
  unfold evP at h
  split at h
  · rename_i x hop
    refine ⟨_, none, h, fun e => (by cases e), fun get' hid' R' K' A _ hk => ?_⟩
    have a1 := A.opd1 (x := x) (by simp [hop, Op.operands])
    unfold evP; rw [hop]; simp only; rw [a1.1]; exact hk
  · rename_i x hop
    refine ⟨_, none, h, fun e => (by cases e), fun get' hid' R' K' A _ hk => ?_⟩
    have a1 := A.opd1 (x := x) (by simp [hop, Op.operands])
    unfold evP; rw [hop]; simp only; rw [a1.1]; exact hk
  · rename_i c x y hop
    split at h
    · rename_i hc
      refine ⟨_, none, h, fun e => (by cases e), fun get' hid' R' K' A _ hk => ?_⟩
      have a1 := A.opd1 (x := c) (by simp [hop, Op.operands])
      have a2 := A.opd1 (x := x) (by simp [hop, Op.operands])
      unfold evP; rw [hop]; simp only; rw [a1.1, hc]; simp only; rw [a2.1]; exact hk
    · rename_i hc
      refine ⟨_, none, h, fun e => (by cases e), fun get' hid' R' K' A _ hk => ?_⟩
      have a1 := A.opd1 (x := c) (by simp [hop, Op.operands])
      have a2 := A.opd1 (x := y) (by simp [hop, Op.operands])
      unfold evP; rw [hop]; simp only; rw [a1.1, hc]; simp only; rw [a2.1]; exact hk
    · exact h.elim
  · rename_i t hop
    obtain ⟨ti, ht, h⟩ := typeT_iff h
    obtain ⟨m, hd, hfree, h⟩ := newAt_iff h
    refine ⟨_, _, h, fun _ => ⟨m, hd, hfree⟩, fun get' hid' R' K' A hf hk => ?_⟩
    unfold evP; rw [hop]
    exact typeT_intro ht (newAt_intro hd (hf rfl m hd) hk)
  · rename_i t x hop
    obtain ⟨ti, ht, h⟩ := typeT_iff h
    obtain ⟨m, hd, hfree, h⟩ := newAt_iff h
    split at h
    · rename_i cs hcs
      refine ⟨_, _, (sized_iff h).2, fun _ => ⟨m, hd, hfree⟩, fun get' hid' R' K' A hf hk => ?_⟩
      have a1 := A.opd1 (x := x) (by simp [hop, Op.operands])
      unfold evP; rw [hop]
      refine typeT_intro ht (newAt_intro hd (hf rfl m hd) ?_)
      rw [a1.1, hcs]
      unfold sized at h ⊢
      simp only
      split at h
      · exact hk
      · exact h.elim
    · exact h.elim
  · rename_i t parts hop
    obtain ⟨ti, ht, h⟩ := typeT_iff h
    split at h
    · rename_i fs hu
      split at h
      · rename_i ps hp
        split at h
        · rename_i cs hcs
          refine ⟨_, none, h, fun e => (by cases e), fun get' hid' R' K' A _ hk => ?_⟩
          unfold evP; rw [hop]
          refine typeT_intro ht ?_
          rw [hu]; simp only; rw [hp]; simp only
          rw [fillL_congr (get := get) ps parts.toList _ (fun p hp => A.env p.2 (by rw [hop]; simp only [Op.operands]; exact List.mem_map.2 ⟨p, hp, rfl⟩)), hcs]
          exact hk
        · exact h.elim
      · exact h.elim
    · exact h.elim
  · rename_i t len parts hop
    obtain ⟨ti, e, te, ht, hu0, hte, h⟩ := elemOfT_iff h
    obtain ⟨m, hd, hfree, h⟩ := newAt_iff h
    split at h
    · rename_i xs hxs
      refine ⟨_, _, h, fun _ => ⟨m, hd, hfree⟩, fun get' hid' R' K' A hf hk => ?_⟩
      unfold evP; rw [hop]
      refine elemOfT_intro ht hu0 hte (newAt_intro hd (hf rfl m hd) ?_)
      rw [fillE_congr (get := get) te.ks parts.toList _ (fun p hp => A.env p.2 (by rw [hop]; simp only [Op.operands]; exact List.mem_map.2 ⟨p, hp, rfl⟩)), hxs]
      exact hk
    · exact h.elim
  · rename_i t x hop
    obtain ⟨ti, ht, h⟩ := typeT_iff h
    obtain ⟨cs, h1, h2⟩ := readAt_elim h
    refine ⟨_, none, h1, fun e => (by cases e), fun get' hid' R' K' A _ hk => ?_⟩
    have a1 := A.opd1 (x := x) (by simp [hop, Op.operands])
    unfold evP; rw [hop]
    refine typeT_intro ht ?_
    rw [a1.1]
    exact h2 _ _ _ A.le a1.2 hk
  · rename_i x hop
    have fin : ∀ {v : SV}, (∀ (get' : Nat → SV) (K' : SV → Option HB → Prop), opd get' x = opd get x → K' v none → ∀ hid' R', evP cx o get' hid' R' K') → K v none → Elim cx o get hid R K := fun {v} he hk =>
      ⟨v, none, hk, fun e => (by cases e), fun get' hid' R' K' A _ hk => he get' K' (A.opd1 (x := x) (by simp [hop, Op.operands])).1 hk hid' R'⟩
    split at h
    · rename_i e
      exact fin (fun get' K' a hk hid' R' => by unfold evP; rw [hop]; simp only; rw [a, e]; exact hk) h
    · rename_i e
      exact fin (fun get' K' a hk hid' R' => by unfold evP; rw [hop]; simp only; rw [a, e]; exact hk) h
    · rename_i e
      exact fin (fun get' K' a hk hid' R' => by unfold evP; rw [hop]; simp only; rw [a, e]; exact hk) h
    · rename_i e
      exact fin (fun get' K' a hk hid' R' => by unfold evP; rw [hop]; simp only; rw [a, e]; exact ⟨h.1, hk⟩) h.2
    · exact h.elim
  · rename_i op t x y _ hop
    split at h
    · rename_i hok
      obtain ⟨v, h1, h2⟩ := evBin_elim h
      refine ⟨v, none, h1, fun e => (by cases e), fun get' hid' R' K' A _ hk => ?_⟩
      have a1 := A.opd1 (x := x) (by simp [hop, Op.operands])
      have a2 := A.opd1 (x := y) (by simp [hop, Op.operands])
      unfold evP; rw [hop]; simp only; rw [a1.1, a2.1, hok]; exact h2 _ hk
    · exact h.elim
  · rename_i op t x hop
    obtain ⟨v, h1, h2⟩ := evUn_elim h
    refine ⟨v, none, h1, fun e => (by cases e), fun get' hid' R' K' A _ hk => ?_⟩
    have a1 := A.opd1 (x := x) (by simp [hop, Op.operands])
    unfold evP; rw [hop]; simp only; rw [a1.1]; exact h2 _ hk
  · rename_i s d x hop
    obtain ⟨v, h1, h2⟩ := evConv_elim h
    refine ⟨v, none, h1, fun e => (by cases e), fun get' hid' R' K' A _ hk => ?_⟩
    have a1 := A.opd1 (x := x) (by simp [hop, Op.operands])
    unfold evP; rw [hop]; simp only; rw [a1.1]; exact h2 _ _ _ A.le a1.2 hk
  · rename_i t x hop
    split at h
    · rename_i v hv
      refine ⟨_, none, h.2, fun e => (by cases e), fun get' hid' R' K' A _ hk => ?_⟩
      have a1 := A.opd1 (x := x) (by simp [hop, Op.operands])
      unfold evP; rw [hop]; simp only; rw [a1.1, hv]; exact ⟨h.1, hk⟩
    · exact h.elim
  · rename_i fn xs ys hop
    cases fn with
    | func f =>
      cases hx : xs.toList with
      | nil =>
        cases hc : capsOf (ys.toList.map (opd get)) with
        | some cap =>
          rw [hx, hc] at h
          refine ⟨_, none, h, fun e => (by cases e), fun get' hid' R' K' A _ hk => ?_⟩
          have : ys.toList.map (opd get') = ys.toList.map (opd get) := List.map_congr_left fun y hy => A.env y (by simp [hop, Op.operands]; exact .inr (by simpa using hy))
          unfold evP; rw [hop]; simp only; rw [this, hx, hc]; exact hk
        | none => rw [hx, hc] at h; exact h.elim
      | cons y ys' => rw [hx] at h; exact h.elim
    | _ => exact h.elim
  · rename_i t r hop
    cases r with
    | some x => exact h.elim
    | none =>
      obtain ⟨kk, kv, h, h2⟩ := mapOfT_elim h
      obtain ⟨m, hd, hfree, h⟩ := newAt_iff h
      refine ⟨_, _, h, fun _ => ⟨m, hd, hfree⟩, fun get' hid' R' K' A hf hk => ?_⟩
      unfold evP; rw [hop]
      exact h2 _ (newAt_intro hd (hf rfl m hd) hk)
  · rename_i t x i ok hop
    cases hx : opd get x with
    | l y =>
      rw [hx] at h
      cases y with
      | omap id =>
        obtain ⟨kk, kv, h, h2⟩ := mapOfT_elim h
        obtain ⟨y, dk, hi, hdk, h⟩ := denT_iff h
        obtain ⟨xs, hid0, h⟩ := mapIn_iff h
        cases ok with
        | true =>
          refine ⟨_, none, h, fun e => (by cases e), fun get' hid' R' K' A _ hk => ?_⟩
          have a1 := A.opd1 (x := x) (by simp [hop, Op.operands])
          have a2 := A.opd1 (x := i) (by simp [hop, Op.operands])
          unfold evP; rw [hop]; simp only; rw [a1.1, hx]
          exact h2 _ (denT_intro (a2.1.trans hi) hdk (mapIn_intro ((a1.2 id (by rw [hx]; simp [SV.says, LV.says])).trans hid0) hk))
        | false =>
          refine ⟨_, none, h, fun e => (by cases e), fun get' hid' R' K' A _ hk => ?_⟩
          have a1 := A.opd1 (x := x) (by simp [hop, Op.operands])
          have a2 := A.opd1 (x := i) (by simp [hop, Op.operands])
          unfold evP; rw [hop]; simp only; rw [a1.1, hx]
          exact h2 _ (denT_intro (a2.1.trans hi) hdk (mapIn_intro ((a1.2 id (by rw [hx]; simp [SV.says, LV.says])).trans hid0) hk))
      | _ => exact h.elim
    | g cs => rw [hx] at h; exact h.elim
    | t cs => rw [hx] at h; exact h.elim
  · rename_i t l c hop
    obtain ⟨ti, e, te, ht, hu0, hte, h⟩ := elemOfT_iff h
    split at h
    · rename_i l' c' hl hc
      obtain ⟨m, hd, hfree, h⟩ := newAt_iff h
      split at h
      · rename_i hb1
        refine ⟨_, _, h.2.2.2, fun _ => ⟨m, hd, hfree⟩, fun get' hid' R' K' A hf hk => ?_⟩
        have a1 := A.opd1 (x := l) (by simp [hop, Op.operands])
        have a2 := A.opd1 (x := c) (by simp [hop, Op.operands])
        unfold evP; rw [hop]
        refine elemOfT_intro ht hu0 hte ?_
        rw [a1.1, a2.1, hl, hc]
        refine newAt_intro hd (hf rfl m hd) ?_
        rw [hb1]
        exact ⟨h.1, h.2.1, h.2.2.1, hk⟩
      · exact h.elim
    · exact h.elim
  · rename_i t x lo hi mx hop
    split at h
    · obtain ⟨v, h1, h2⟩ := evSlice_elim h
      refine ⟨v, none, h1, fun e => (by cases e), fun get' hid' R' K' A _ hk => ?_⟩
      have a1 := A.opd1 (x := x) (by simp [hop, Op.operands])
      have a2 : lo.map (opd get') = lo.map (opd get) := by
        cases lo with
        | none => rfl
        | some l => exact congrArg some (A.env l (by simp [hop, Op.operands]))
      have a3 : hi.map (opd get') = hi.map (opd get) := by
        cases hi with
        | none => rfl
        | some l => exact congrArg some (A.env l (by simp [hop, Op.operands]))
      unfold evP; rw [hop]; simp only; rw [a1.1, a2, a3]; exact h2 _ _ a1.2 hk
    · exact h.elim
  · rename_i t x f hop
    obtain ⟨ti, fs, ft, off, tf, ht, hu0, hfs, htf, h1, h⟩ := fieldOfT_iff h
    have fin : ∀ {v : SV}, (∀ (get' : Nat → SV) (R' : Hp) (K' : SV → Option HB → Prop), opd get' x = opd get x → R.le R' → K' v none → ∀ hid', evP cx o get' hid' R' K') → K v none → Elim cx o get hid R K := fun {v} he hk =>
      ⟨v, none, hk, fun e => (by cases e), fun get' hid' R' K' A _ hk => he get' R' K' (A.opd1 (x := x) (by simp [hop, Op.operands])).1 A.le hk hid'⟩
    split at h
    · rename_i e
      exact fin (fun get' R' K' a _ hk hid' => by unfold evP; rw [hop]; refine fieldOfT_intro ht hu0 hfs htf h1 ?_; rw [a, e]; exact hk) h
    · rename_i e
      exact fin (fun get' R' K' a _ hk hid' => by unfold evP; rw [hop]; refine fieldOfT_intro ht hu0 hfs htf h1 ?_; rw [a, e]; exact hk) h
    · rename_i e
      exact fin (fun get' R' K' a _ hk hid' => by unfold evP; rw [hop]; refine fieldOfT_intro ht hu0 hfs htf h1 ?_; rw [a, e]; exact hk) h
    · rename_i e
      obtain ⟨y, hy, h⟩ := h
      exact fin (fun get' R' K' a hl hk hid' => by unfold evP; rw [hop]; refine fieldOfT_intro ht hu0 hfs htf h1 ?_; rw [a, e]; exact ⟨y, hy.mono hl, hk⟩) h
    · exact h.elim
  · rename_i t x f hop
    obtain ⟨ti, fs, ft, off, tf, ht, hu0, hfs, htf, h1, h⟩ := fieldOfT_iff h
    split at h
    · rename_i cs hx
      refine ⟨_, none, (sized_iff h).2, fun e => (by cases e), fun get' hid' R' K' A _ hk => ?_⟩
      have a1 := A.opd1 (x := x) (by simp [hop, Op.operands])
      unfold evP; rw [hop]; refine fieldOfT_intro ht hu0 hfs htf h1 ?_; rw [a1.1, hx]
      unfold sized at h ⊢
      simp only
      split at h
      · exact hk
      · exact h.elim
    · exact h.elim
  · rename_i t x i hop
    split at h
    · rename_i len te harr
      split at h
      · rename_i k m hi
        split at h
        · rename_i ad hx
          obtain ⟨h0, h1, y, hy, h⟩ := h
          refine ⟨_, none, h, fun e => (by cases e), fun get' hid' R' K' A _ hk => ?_⟩
          have a1 := A.opd1 (x := x) (by simp [hop, Op.operands])
          have a2 := A.opd1 (x := i) (by simp [hop, Op.operands])
          unfold evP; rw [hop]; simp only; rw [harr]; simp only; rw [a2.1, hi]; simp only; rw [a1.1, hx]; exact ⟨h0, h1, y, hy.mono A.le, hk⟩
        · exact h.elim
      · exact h.elim
    · rename_i harr
      obtain ⟨ti, e, te, ht, hu0, hte, h⟩ := elemOfT_iff h
      split at h
      · rename_i k m hi
        split at h
        · rename_i s hx
          obtain ⟨y, hy, h⟩ := h
          refine ⟨_, none, h, fun e => (by cases e), fun get' hid' R' K' A _ hk => ?_⟩
          have a1 := A.opd1 (x := x) (by simp [hop, Op.operands])
          have a2 := A.opd1 (x := i) (by simp [hop, Op.operands])
          unfold evP; rw [hop]; simp only; rw [harr]; refine elemOfT_intro ht hu0 hte ?_; rw [a2.1, hi]; simp only; rw [a1.1, hx]; exact ⟨y, hy.mono A.le, hk⟩
        · rename_i id hx
          split at h
          · rename_i er
            refine ⟨_, none, h.2.2, fun e => (by cases e), fun get' hid' R' K' A _ hk => ?_⟩
            have a1 := A.opd1 (x := x) (by simp [hop, Op.operands])
            have a2 := A.opd1 (x := i) (by simp [hop, Op.operands])
            unfold evP; rw [hop]; simp only; rw [harr]; refine elemOfT_intro ht hu0 hte ?_; rw [a2.1, hi]; simp only; rw [a1.1, hx]; simp only
            rw [a1.2 id (by rw [hx]; simp [SV.says, LV.says]), er]
            exact ⟨h.1, h.2.1, hk⟩
          · exact h.elim
        · rename_i id lo hi' esz hx
          split at h
          · rename_i hb
            split at h
            · rename_i er
              refine ⟨_, none, h.2.2.2, fun e => (by cases e), fun get' hid' R' K' A _ hk => ?_⟩
              have a1 := A.opd1 (x := x) (by simp [hop, Op.operands])
              have a2 := A.opd1 (x := i) (by simp [hop, Op.operands])
              unfold evP; rw [hop]; simp only; rw [harr]; refine elemOfT_intro ht hu0 hte ?_; rw [a2.1, hi]; simp only; rw [a1.1, hx]; simp only
              rw [hb]; simp only
              rw [a1.2 id (by rw [hx]; simp [SV.says, LV.says]), er]
              exact ⟨h.1, h.2.1, h.2.2.1, hk⟩
            · exact h.elim
          · exact h.elim
        · exact h.elim
      · exact h.elim
  · rename_i t x i hop
    split at h
    · rename_i s k m hx hi
      split at h
      · rename_i hs
        obtain ⟨c, hc, h⟩ := h
        refine ⟨_, none, h, fun e => (by cases e), fun get' hid' R' K' A _ hk => ?_⟩
        have a1 := A.opd1 (x := x) (by simp [hop, Op.operands])
        have a2 := A.opd1 (x := i) (by simp [hop, Op.operands])
        unfold evP; rw [hop]; simp only; rw [a1.1, a2.1, hx, hi]; simp only; rw [hs]; exact ⟨c, hc, hk⟩
      · exact h.elim
    · exact h.elim
  · rename_i x i hop
    split at h
    · rename_i cs hx
      split at h
      · rename_i c hc
        refine ⟨_, none, h, fun e => (by cases e), fun get' hid' R' K' A _ hk => ?_⟩
        have a1 := A.opd1 (x := x) (by simp [hop, Op.operands])
        unfold evP; rw [hop]; simp only; rw [a1.1, hx]; simp only; rw [hc]; exact hk
      · exact h.elim
    · exact h.elim
  · rename_i c hop
    split at h
    · rename_i b hb
      split at h
      · rename_i x t ha ht
        obtain ⟨m, h1, h2⟩ := evLen_elim h
        refine ⟨_, none, h1, fun e => (by cases e), fun get' hid' R' K' A _ hk => ?_⟩
        have a1 := A.opd1 (x := x) (by simp [hop, Op.operands, Call.operands, hb, ha])
        unfold evP; rw [hop]; simp only; rw [hb, ha, ht]; simp only; rw [a1.1]; exact h2 _ _ a1.2 hk
      · rename_i x y t u ha ht
        split at h
        · rename_i hx
          obtain ⟨ti, e, te, ht', hu0, hte, h⟩ := elemOfT_iff h
          obtain ⟨m, hd, hfree, h⟩ := newAt_iff h
          split at h
          · exact h.elim
          · rename_i hb1
            obtain ⟨ys, ⟨h0, h1⟩, h2⟩ := srcOf_elim h
            refine ⟨_, _, h1, fun _ => ⟨m, hd, hfree⟩, fun get' hid' R' K' A hf hk => ?_⟩
            have a1 := A.opd1 (x := x) (by simp [hop, Op.operands, Call.operands, hb, ha])
            have a2 := A.opd1 (x := y) (by simp [hop, Op.operands, Call.operands, hb, ha])
            unfold evP; rw [hop]; simp only; rw [hb, ha, ht]; simp only; rw [a1.1, hx]
            refine elemOfT_intro ht' hu0 hte (newAt_intro hd (hf rfl m hd) ?_)
            rw [hb1]; simp only; rw [a2.1]
            exact h2 _ _ _ A.le a2.2 ⟨h0, hk⟩
        · exact h.elim
      · exact h.elim
    · exact h.elim
  · exact h.elim
end Go.KE

/- The engine, part 2B: a region that draws its order. -/
namespace Go.KE
open Go.RowKit (Below)

theorem memB_iff {x : Nat} : ∀ {l : List Nat}, memB x l = true ↔ x ∈ l
  | [] => by simp [memB]
  | y :: ys => by
    simp only [memB, List.mem_cons]
    rcases beq_cases y x with ⟨e, h⟩ | ⟨e, h⟩
    · rw [e]; simp [h]
    · rw [e]
      simp only
      rw [memB_iff]
      constructor
      · exact .inr
      · rintro (rfl | h')
        · exact absurd rfl h
        · exact h'
theorem memB_false {x : Nat} {l : List Nat} : memB x l = false ↔ x ∉ l := by
  rw [← memB_iff]; simp
theorem allB_iff {f : Nat → Bool} : ∀ {l : List Nat}, allB f l = true ↔ ∀ x ∈ l, f x = true
  | [] => by simp [allB]
  | y :: ys => by
    simp only [allB]
    cases h : f y with
    | true => simp only [allB_iff, List.mem_cons, forall_eq_or_imp, h, true_and]
    | false => simp [h]
theorem anyB_iff {f : Nat → Bool} : ∀ {l : List Nat}, anyB f l = true ↔ ∃ x ∈ l, f x = true
  | [] => by simp [anyB]
  | y :: ys => by
    simp only [anyB]
    cases h : f y with
    | true => simp [h]
    | false => simp only [anyB_iff, List.mem_cons, exists_eq_or_imp, h]; simp

/-- What a truth value is told apart into. -/
def fixV (gts : List Nat) (d : Option Nat) (v : SV) : SV := match d with
  | none => v
  | some d => match memB d gts with
    | false => v
    | true => match v with
      | .l (.bool q) => .l (if q = true then .tt else .ff)
      | x => x
theorem behind_env (S : St) (d : Option Nat) (v : SV) (h : Option HB) (t : Nat) : (S.behind d v h).env t = if d = some t then v else S.env t := by
  have key : ∀ (S : St), (S.put d v).env t = if d = some t then v else S.env t := fun S => by
    cases d with
    | none => simp [St.put]
    | some m => rw [St.put_env]; by_cases e : t = m <;> simp [e, eq_comm]
  cases h with
  | none => exact key S
  | some h => cases d with
    | none => exact key S
    | some m => exact key (S.setHid m (some h))
theorem behind_hid (S : St) (d : Option Nat) (v : SV) (h : Option HB) (j : Nat) : (S.behind d v h).hid j = if h.isSome = true ∧ d = some j then h else S.hid j := by
  cases h with
  | none => cases d <;> simp [St.behind, St.put]
  | some h => cases d with
    | none => simp [St.behind, St.put]
    | some m =>
      show (S.setHid m (some h)).hid j = _
      rw [St.setHid_hid]
      by_cases e : j = m <;> simp [e, eq_comm]
theorem St.ext' {S S' : St} (h1 : ∀ t, S.env t = S'.env t) (h2 : ∀ j, S.hid j = S'.hid j) (h3 : S.own = S'.own) (h4 : S.anew = S'.anew) : S = S' := by
  cases S; cases S'
  simp only [St.mk.injEq] at *
  exact ⟨funext h1, funext h2, h3, h4⟩
theorem behind_own (S : St) (d : Option Nat) (v : SV) (h : Option HB) : (S.behind d v h).own = S.own ∧ (S.behind d v h).anew = S.anew := by
  cases h <;> cases d <;> exact ⟨rfl, rfl⟩
theorem behind_comm (S : St) {d d' : Option Nat} (v v' : SV) (h h' : Option HB) (hd : ∀ m, d = some m → d' ≠ some m) : (S.behind d v h).behind d' v' h' = (S.behind d' v' h').behind d v h := by
  refine St.ext' (fun t => ?_) (fun j => ?_) ?_ ?_
  · simp only [behind_env]
    by_cases e1 : d' = some t <;> by_cases e2 : d = some t
    · exact absurd e1 (hd t e2)
    · simp [e1, e2]
    · simp [e1, e2]
    · simp [e1, e2]
  · simp only [behind_hid]
    by_cases e1 : d' = some j <;> by_cases e2 : d = some j
    · exact absurd e1 (hd j e2)
    · simp [e1, e2]
    · simp [e1, e2]
    · simp [e1, e2]
  · rw [(behind_own _ _ _ _).1, (behind_own _ _ _ _).1, (behind_own _ _ _ _).1, (behind_own _ _ _ _).1]
  · rw [(behind_own _ _ _ _).2, (behind_own _ _ _ _).2, (behind_own _ _ _ _).2, (behind_own _ _ _ _).2]
theorem lit_behind (S : St) (m : Nat) (v x : SV) (h : Option HB) (y : LV) (hx : x = .l y) : (S.behind (some m) v h).lit m y = S.behind (some m) x h := by
  subst hx
  refine St.ext' (fun t => ?_) (fun j => ?_) ?_ ?_
  · rw [behind_env]
    simp only [St.lit]
    rcases beq_cases t m with ⟨e, h⟩ | ⟨e, h⟩
    · rw [e]; simp [h]
    · rw [e]
      simp only
      rw [behind_env]
      have : ¬ some m = some t := fun e' => h (by simpa using e'.symm)
      simp [this]
  · rw [behind_hid]
    show (S.behind (some m) v h).hid j = _
    rw [behind_hid]
  · show (S.behind (some m) v h).own = _
    rw [(behind_own _ _ _ _).1, (behind_own _ _ _ _).1]
  · show (S.behind (some m) v h).anew = _
    rw [(behind_own _ _ _ _).2, (behind_own _ _ _ _).2]
theorem fixV_other {gts : List Nat} {d : Option Nat} {v : SV} (h : ∀ q, v = .l (.bool q) → False) : fixV gts d v = v := by
  unfold fixV
  split
  · rfl
  · split
    · rfl
    · split
      · rename_i q; exact (h q rfl).elim
      · rfl
theorem split_iff {gts : List Nat} {d : Option Nat} (S : St) (v : SV) (h : Option HB) (F : St → Prop) : splitAt gts d (S.behind d v h) F ↔ F (S.behind d (fixV gts d v) h) := by
  unfold splitAt
  cases d with
  | none =>
    simp only [fixV]
  | some m =>
    simp only
    cases hm : memB m gts with
    | false => simp only [fixV, hm]
    | true =>
      simp only
      rw [behind_env, if_pos rfl]
      split
      · rename_i q
        simp only [fixV, hm]
        cases q with
        | true =>
          simp only [forall_const, Bool.true_eq_false, false_implies, and_true, if_true]
          rw [lit_behind S m _ _ h .tt rfl]
        | false =>
          simp only [forall_const, Bool.false_eq_true, false_implies, true_and, if_false]
          rw [lit_behind S m _ _ h .ff rfl]
      · rename_i hx
        rw [fixV_other hx]
end Go.KE

/- The engine, part 2C: two operations of a drawn region change places. -/
namespace Go.KE
open Go.RowKit (Below)

theorem tmpsOf_mem {t : Nat} : ∀ {xs : List Operand}, Operand.tmp t ∈ xs → t ∈ tmpsOf xs
  | x :: xs, h => by
    rcases List.mem_cons.1 h with rfl | h'
    · simp [tmpsOf]
    · cases x with
      | tmp u => simp only [tmpsOf, List.mem_cons]; exact .inr (tmpsOf_mem h')
      | _ => simp only [tmpsOf]; exact tmpsOf_mem h'
theorem looks_tmps {ops : List Oper} {o : Oper} {t : Nat} (h : t ∈ tmpsOf o.op.operands.toList) : t ∈ looks ops o := by
  unfold looks
  split
  · split
    · exact List.mem_cons_of_mem _ h
    · exact h
  · exact h
theorem looks_guard {ops : List Oper} {o : Oper} {j gt : Nat} {want : Bool} (h : o.guard = some (j, want)) (hg : guardT ops j = some gt) : gt ∈ looks ops o := by
  unfold looks
  rw [h]
  simp only
  rw [hg]
  simp
theorem opd_says_tmp {get : Nat → SV} {x : Operand} {id : Nat} (h : (opd get x).says id = true) : ∃ t, x = .tmp t ∧ (get t).says id = true := by
  cases x with
  | tmp t => exact ⟨t, rfl, h⟩
  | const v => rw [show opd get (.const v) = constSV v from rfl, constSV_says] at h; cases h
  | global g => cases h
  | func f => cases h
/-- Two states are alike for what an operation looks at. -/
structure Like (ops : List Oper) (o : Oper) (S S' : St) : Prop where
  env : ∀ t ∈ looks ops o, S'.env t = S.env t
  said : ∀ t ∈ looks ops o, ∀ id, (S.env t).says id = true → S'.hid id = S.hid id
theorem Like.agr {ops : List Oper} {o : Oper} {S S' : St} (L : Like ops o S S') {R R' : Hp} (hR : R.le R') : Agr o.op.operands.toList S.env S'.env S.hid S'.hid R R' :=
  ⟨hR, fun x hx => by
    cases x with
    | tmp t => exact L.env t (looks_tmps (tmpsOf_mem hx))
    | const v => rfl
    | global g => rfl
    | func f => rfl, fun x hx id hs => by
    obtain ⟨t, rfl, hs⟩ := opd_says_tmp hs
    exact L.said t (looks_tmps (tmpsOf_mem hx)) id hs⟩
section
variable {w0 : World} {M0 : Mod} {R0 : Hp} {n : Nat} {dfs : List Deferred} {bs : Bs} {S : St} {R : Hp} {a : Act} {w : World}
/-- What an operation of class 2 or less comes to in a drawn region. -/
theorem evOp_elim (I : Inv w0 M0 R0 n dfs bs S R a w) {cx : Cx} (hT : TblOk cx.P cx.tbl) (hcn : cx.n = n) {ops : List Oper} {gts : List Nat} {o : Oper} (hc : classOf cx.xs o ≤ 2) {K : St → Hp → Prop} {Kp : List PanicEntry → Hp → Prop} (h : evOp cx ops gts true o S R K Kp) :
    ∃ v hbo, K (S.behind o.dst v hbo) R ∧ (hbo.isSome = true → ∃ d, o.dst = some d ∧ S.hid d = none) ∧ (∃ bs' a' w', Inv w0 M0 R0 n dfs bs' (S.behind o.dst v hbo) R a' w') ∧
      ∀ S1 R1 (K1 : St → Hp → Prop) (Kp1 : List PanicEntry → Hp → Prop), R.le R1 → Like ops o S S1 → (hbo.isSome = true → ∀ d, o.dst = some d → S1.hid d = none) → K1 (S1.behind o.dst v hbo) R1 → evOp cx ops gts true o S1 R1 K1 Kp1 := by
  unfold evOp at h
  split at h
  · exact h.elim
  · rename_i hd
    have hdn : okDst n o.dst = true := by rw [hcn] at hd; exact hd
    have evd : ∀ (S : St) (R : Hp) (K : St → Hp → Prop) (Kp : List PanicEntry → Hp → Prop), ev1d cx o S R K Kp = evP cx o S.env S.hid R fun v h => K (S.behind o.dst v h) R := fun S R K Kp => by
      unfold ev1d
      split
      · rename_i e; rw [e] at hc; omega
      · rename_i e; rw [e] at hc; omega
      · rfl
    have skip : K (S.put o.dst (.l .und)) R → (∀ S1 R1 (K1 : St → Hp → Prop) (Kp1 : List PanicEntry → Hp → Prop), R.le R1 → Like ops o S S1 → K1 (S1.put o.dst (.l .und)) R1 → evOp cx ops gts true o S1 R1 K1 Kp1) → ∃ v hbo, K (S.behind o.dst v hbo) R ∧ (hbo.isSome = true → ∃ d, o.dst = some d ∧ S.hid d = none) ∧ (∃ bs' a' w', Inv w0 M0 R0 n dfs bs' (S.behind o.dst v hbo) R a' w') ∧
      ∀ S1 R1 (K1 : St → Hp → Prop) (Kp1 : List PanicEntry → Hp → Prop), R.le R1 → Like ops o S S1 → (hbo.isSome = true → ∀ d, o.dst = some d → S1.hid d = none) → K1 (S1.behind o.dst v hbo) R1 → evOp cx ops gts true o S1 R1 K1 Kp1 := fun hk hr =>
      ⟨.l .und, none, hk, fun e => (by cases e), ⟨bs, _, w, I.put o.dst (.l .und) undef (show _ ∨ _ from .inr rfl) (good_l (good_of_not (fun _ => rfl) trivial)) hdn⟩, fun S1 R1 K1 Kp1 hl L _ hk => hr S1 R1 K1 Kp1 hl L hk⟩
    have run : ev1d cx o S R (fun S' R' => splitAt gts o.dst S' fun S' => K S' R') Kp → (∀ S1 R1 (K1 : St → Hp → Prop) (Kp1 : List PanicEntry → Hp → Prop), Like ops o S S1 → ev1d cx o S1 R1 (fun S' R' => splitAt gts o.dst S' fun S' => K1 S' R') Kp1 → evOp cx ops gts true o S1 R1 K1 Kp1) →
      ∃ v hbo, K (S.behind o.dst v hbo) R ∧ (hbo.isSome = true → ∃ d, o.dst = some d ∧ S.hid d = none) ∧ (∃ bs' a' w', Inv w0 M0 R0 n dfs bs' (S.behind o.dst v hbo) R a' w') ∧
      ∀ S1 R1 (K1 : St → Hp → Prop) (Kp1 : List PanicEntry → Hp → Prop), R.le R1 → Like ops o S S1 → (hbo.isSome = true → ∀ d, o.dst = some d → S1.hid d = none) → K1 (S1.behind o.dst v hbo) R1 → evOp cx ops gts true o S1 R1 K1 Kp1 := fun h hr => by
      rw [evd] at h
      obtain ⟨sv, hbo, h1, h2, h3⟩ := evP_elim h
      rw [split_iff] at h1
      refine ⟨fixV gts o.dst sv, hbo, h1, h2, ?_, fun S1 R1 K1 Kp1 hl L hf hk => hr S1 R1 K1 Kp1 L ?_⟩
      · -- the state behind is some world's
        have hself : evP cx o S.env S.hid R fun v h => splitAt gts o.dst (S.behind o.dst v h) fun S' => S' = S.behind o.dst (fixV gts o.dst sv) hbo := by
          refine h3 _ _ _ _ ⟨Hp.le.refl R, fun _ _ => rfl, fun _ _ _ _ => rfl⟩ (fun e d hd => ?_) ?_
          · obtain ⟨d', e1, e2⟩ := h2 e
            rw [hd] at e1
            cases e1
            exact e2
          · rw [split_iff]
        obtain ⟨sv', hbo', v, w', r1, r2, r3⟩ := evP_sound I hT hself
        obtain ⟨bs', J⟩ := I.behind hdn r2
        obtain ⟨bs2, S2, R2, J2, e, eR⟩ := Nx.split (K := fun S' R' => S' = S.behind o.dst (fixV gts o.dst sv) hbo ∧ R' = R) (gts := gts) (d := o.dst) ⟨bs', _, R, J, by
          rw [split_iff] at r3 ⊢
          exact ⟨r3, rfl⟩⟩
        subst e eR
        exact ⟨bs2, _, w', J2⟩
      · rw [evd]
        exact h3 _ _ _ _ (L.agr hl) hf ((split_iff _ _ _ _).2 hk)
    split at h
    · rename_i hg
      exact run h fun S1 R1 K1 Kp1 L hk => by
        unfold evOp
        rw [hd]; simp only; rw [hg]; exact hk
    · rename_i j want hg
      split at h
      · exact h.elim
      · rename_i gt hgt
        have hin := looks_guard (ops := ops) hg hgt
        split at h
        · rename_i e
          split at h
          · exact run h fun S1 R1 K1 Kp1 L hk => by
              unfold evOp
              rw [hd]; simp only; rw [hg]; simp only; rw [hgt]; simp only; rw [L.env gt hin, e]; exact hk
          · exact skip h fun S1 R1 K1 Kp1 _ L hk => by
              unfold evOp
              rw [hd]; simp only; rw [hg]; simp only; rw [hgt]; simp only; rw [L.env gt hin, e]; exact hk
        · rename_i e
          split at h
          · exact run h fun S1 R1 K1 Kp1 L hk => by
              unfold evOp
              rw [hd]; simp only; rw [hg]; simp only; rw [hgt]; simp only; rw [L.env gt hin, e]; exact hk
          · exact skip h fun S1 R1 K1 Kp1 _ L hk => by
              unfold evOp
              rw [hd]; simp only; rw [hg]; simp only; rw [hgt]; simp only; rw [L.env gt hin, e]; exact hk
        · rename_i e
          exact skip h fun S1 R1 K1 Kp1 _ L hk => by
            unfold evOp
            rw [hd]; simp only; rw [hg]; simp only; rw [hgt]; simp only; rw [L.env gt hin, e]; exact hk
        · exact h.elim
theorem retT_mono {tbl : TypeId → Option TI} : ∀ {ts : List TypeId} {K K' : List Value → List (Bool × List LV) → Prop}, retT tbl ts K → (∀ vs cs, K vs cs → K' vs cs) → retT tbl ts K'
  | [], K, K', h, hk => hk _ _ h
  | t :: ts, K, K', h, hk => by
    simp only [retT] at h ⊢
    split at h
    · split at h
      · obtain ⟨x, h⟩ := h
        exact ⟨x, retT_mono h fun vs cs => hk _ _⟩
      · split at h
        · obtain ⟨x, h⟩ := h
          exact ⟨x, retT_mono h fun vs cs => hk _ _⟩
        · exact h.elim
    · exact h.elim
theorem retK_mono {tbl : TypeId → Option TI} {ts : List TypeId} {e : Ending} {K K' : SV → Prop} (h : retK tbl ts e K) (hk : ∀ v, K v → K' v) : retK tbl ts e K' := by
  have many : ∀ {ts : List TypeId}, retT tbl ts (fun vs cs => e = .returned (.tuple vs.toArray) ∧ K (.t cs)) → retT tbl ts (fun vs cs => e = .returned (.tuple vs.toArray) ∧ K' (.t cs)) := fun h => retT_mono h fun vs cs h => ⟨h.1, hk _ h.2⟩
  match ts, h with
  | [], h => exact many (ts := []) h
  | [t], h =>
    have h' : retT tbl [t] (fun vs cs => e = .returned (vs.getD 0 undef) ∧ K (svG (cs.getD 0 (false, [])))) := h
    exact (retT_mono h' fun vs cs h => ⟨h.1, hk _ h.2⟩ : retT tbl [t] (fun vs cs => e = .returned (vs.getD 0 undef) ∧ K' (svG (cs.getD 0 (false, [])))))
  | t :: t' :: ts, h => exact many (ts := t :: t' :: ts) h
/-- What an operation of class 3 or less is in a drawn region: as one of class 2, or a call. -/
theorem evOp_call {cx : Cx} {ops : List Oper} {gts : List Nat} {o : Oper} (hc : classOf cx.xs o = 3) {K : St → Hp → Prop} {Kp : List PanicEntry → Hp → Prop} (h : evOp cx ops gts true o S R K Kp) :
    (K (S.put o.dst (.l .und)) R ∧ ∀ S1 R1 (K1 : St → Hp → Prop) (Kp1 : List PanicEntry → Hp → Prop), Like ops o S S1 → K1 (S1.put o.dst (.l .und)) R1 → evOp cx ops gts true o S1 R1 K1 Kp1) ∨
    ∃ f vs, CallsR cx.P f vs R (fun e R' => retK cx.tbl (cx.rts f) e fun v => K (S.put o.dst (fixV gts o.dst v)) R') ∧
      ∀ S1 R1 (K1 : St → Hp → Prop) (Kp1 : List PanicEntry → Hp → Prop), Like ops o S S1 → CallsR cx.P f vs R1 (fun e R' => retK cx.tbl (cx.rts f) e fun v => K1 (S1.put o.dst (fixV gts o.dst v)) R') → evOp cx ops gts true o S1 R1 K1 Kp1 := by
  unfold evOp at h
  split at h
  · exact h.elim
  · rename_i hd
    have evd : ∀ (S : St) (R : Hp) (K : St → Hp → Prop) (Kp : List PanicEntry → Hp → Prop), ev1d cx o S R K Kp = (match o.op with
        | .call c => match c.callee with
          | .value (.func f) => match pureSs (c.args.toList.map (opd S.env)) with
            | some vs => CallsR cx.P f vs.toArray R fun e R' => retK cx.tbl (cx.rts f) e fun v => K (S.put o.dst v) R'
            | none => False
          | _ => False
        | _ => False) := fun S R K Kp => by
      unfold ev1d
      rw [hc]
      rfl
    have run : ev1d cx o S R (fun S' R' => splitAt gts o.dst S' fun S' => K S' R') Kp → (∀ S1 R1 (K1 : St → Hp → Prop) (Kp1 : List PanicEntry → Hp → Prop), Like ops o S S1 → ev1d cx o S1 R1 (fun S' R' => splitAt gts o.dst S' fun S' => K1 S' R') Kp1 → evOp cx ops gts true o S1 R1 K1 Kp1) →
        ∃ f vs, CallsR cx.P f vs R (fun e R' => retK cx.tbl (cx.rts f) e fun v => K (S.put o.dst (fixV gts o.dst v)) R') ∧
      ∀ S1 R1 (K1 : St → Hp → Prop) (Kp1 : List PanicEntry → Hp → Prop), Like ops o S S1 → CallsR cx.P f vs R1 (fun e R' => retK cx.tbl (cx.rts f) e fun v => K1 (S1.put o.dst (fixV gts o.dst v)) R') → evOp cx ops gts true o S1 R1 K1 Kp1 := fun h hr => by
      rw [evd] at h
      split at h
      · rename_i c hop
        split at h
        · rename_i f hcal
          split at h
          · rename_i vs hvs
            refine ⟨f, _, h.mono fun e R' _ hk => retK_mono hk fun v hv => (split_iff (gts := gts) S v none _).1 hv, fun S1 R1 K1 Kp1 L hk => hr S1 R1 K1 Kp1 L ?_⟩
            rw [evd, hop]
            simp only
            rw [hcal]
            simp only
            have : c.args.toList.map (opd S1.env) = c.args.toList.map (opd S.env) := List.map_congr_left fun x hx => by
              have := (L.agr (Hp.le.refl R)).env x (by simp only [hop, Op.operands, Call.operands, hcal]; simp [hx])
              exact this
            rw [this, hvs]
            exact hk.mono fun e R' _ hk => retK_mono hk fun v hv => (split_iff (gts := gts) S1 v none _).2 hv
          · exact h.elim
        · exact h.elim
      · exact h.elim
    split at h
    · rename_i hg
      exact .inr (run h fun S1 R1 K1 Kp1 L hk => by
        unfold evOp
        rw [hd]; simp only; rw [hg]; exact hk)
    · rename_i j want hg
      split at h
      · exact h.elim
      · rename_i gt hgt
        have hin := looks_guard (ops := ops) hg hgt
        split at h
        · rename_i e
          split at h
          · exact .inr (run h fun S1 R1 K1 Kp1 L hk => by
              unfold evOp
              rw [hd]; simp only; rw [hg]; simp only; rw [hgt]; simp only; rw [L.env gt hin, e]; exact hk)
          · exact .inl ⟨h, fun S1 R1 K1 Kp1 L hk => by
              unfold evOp
              rw [hd]; simp only; rw [hg]; simp only; rw [hgt]; simp only; rw [L.env gt hin, e]; exact hk⟩
        · rename_i e
          split at h
          · exact .inr (run h fun S1 R1 K1 Kp1 L hk => by
              unfold evOp
              rw [hd]; simp only; rw [hg]; simp only; rw [hgt]; simp only; rw [L.env gt hin, e]; exact hk)
          · exact .inl ⟨h, fun S1 R1 K1 Kp1 L hk => by
              unfold evOp
              rw [hd]; simp only; rw [hg]; simp only; rw [hgt]; simp only; rw [L.env gt hin, e]; exact hk⟩
        · rename_i e
          exact .inl ⟨h, fun S1 R1 K1 Kp1 L hk => by
            unfold evOp
            rw [hd]; simp only; rw [hg]; simp only; rw [hgt]; simp only; rw [L.env gt hin, e]; exact hk⟩
        · exact h.elim
end
end Go.KE

/- The engine, part 2D: a region that draws its order, every order. -/
namespace Go.KE
open Go.RowKit (Below)

theorem apart_iff {ops : List Oper} {x y : Oper} (h : apartB ops x y = true) : (∀ d, x.dst = some d → d ∉ looks ops y ∧ y.dst ≠ some d) ∧ ∀ d, y.dst = some d → d ∉ looks ops x := by
  unfold apartB at h
  rw [Bool.and_eq_true] at h
  refine ⟨fun d e => ?_, fun d e => ?_⟩
  · have h1 := h.1
    rw [e] at h1
    simp only [Bool.and_eq_true, Bool.not_eq_true'] at h1
    refine ⟨memB_false.1 h1.1, fun e2 => ?_⟩
    rw [e2] at h1
    simp at h1
  · have h2 := h.2
    rw [e] at h2
    simp only [Bool.not_eq_true'] at h2
    exact memB_false.1 h2
section
variable {w0 : World} {M0 : Mod} {R0 : Hp} {n : Nat} {dfs : List Deferred} {bs : Bs} {S : St} {R : Hp} {a : Act} {w : World}
theorem evOp_swap (I : Inv w0 M0 R0 n dfs bs S R a w) {cx : Cx} (hT : TblOk cx.P cx.tbl) (hcn : cx.n = n) {ops : List Oper} {gts : List Nat} {x y : Oper} (hx : classOf cx.xs x ≤ 2) (hy : classOf cx.xs y ≤ 3) (hap : apartB ops x y = true) {K : St → Hp → Prop} {Kp : List PanicEntry → Hp → Prop}
    (h : evOp cx ops gts true x S R (fun S' R' => evOp cx ops gts true y S' R' K Kp) Kp) : evOp cx ops gts true y S R (fun S' R' => evOp cx ops gts true x S' R' K Kp) Kp := by
  obtain ⟨p1, p2⟩ := apart_iff hap
  obtain ⟨v, hbo, hK, hfree, ⟨bs', a', w', J⟩, re⟩ := evOp_elim I hT hcn hx h
  have alive : ∀ t id, (S.env t).says id = true → S.hid id ≠ none := fun t id hs => (I.good t).says hs
  have hidx : ∀ id, S.hid id ≠ none → (S.behind x.dst v hbo).hid id = S.hid id := fun id hn => by
    rw [behind_hid]
    split
    · rename_i e
      obtain ⟨d, e1, e2⟩ := hfree e.1
      rw [e.2] at e1
      cases e1
      exact absurd e2 hn
    · rfl
  have envx : ∀ t ∈ looks ops y, S.env t = (S.behind x.dst v hbo).env t := fun t ht => by
    rw [behind_env]
    split
    · rename_i e; exact absurd ht (p1 t e).1
    · rfl
  have Ly : Like ops y (S.behind x.dst v hbo) S := ⟨envx, fun t ht id hs => by
    rw [← envx t ht] at hs
    exact (hidx id (alive t id hs)).symm⟩
  have Lx : ∀ v' (hbo' : Option HB), (hbo'.isSome = true → ∃ d, y.dst = some d ∧ (S.behind x.dst v hbo).hid d = none) → Like ops x S (S.behind y.dst v' hbo') := fun v' hbo' hf => ⟨fun t ht => by
    rw [behind_env]
    split
    · rename_i e; exact absurd ht (p2 t e)
    · rfl, fun t ht id hs => by
    rw [behind_hid]
    split
    · rename_i e
      obtain ⟨d, e1, e2⟩ := hf e.1
      rw [e.2] at e1
      cases e1
      rw [hidx id (alive t id hs)] at e2
      exact absurd e2 (alive t id hs)
    · rfl⟩
  have Fx : ∀ v' (hbo' : Option HB), hbo.isSome = true → ∀ d, x.dst = some d → (S.behind y.dst v' hbo').hid d = none := fun v' hbo' hs d hd => by
    obtain ⟨d', e1, e2⟩ := hfree hs
    rw [hd] at e1
    cases e1
    rw [behind_hid]
    split
    · rename_i e; exact absurd e.2 (p1 d hd).2
    · exact e2
  have comm : ∀ v' hbo', (S.behind x.dst v hbo).behind y.dst v' hbo' = (S.behind y.dst v' hbo').behind x.dst v hbo := fun v' hbo' => behind_comm S v v' hbo hbo' fun m e => (p1 m e).2
  have nb : ∀ (S : St) (d : Option Nat) (v : SV), S.put d v = S.behind d v none := fun _ _ _ => rfl
  by_cases hc : classOf cx.xs y ≤ 2
  · obtain ⟨v', hbo', hK', hfree', _, re'⟩ := evOp_elim J hT hcn hc hK
    refine re' S R _ _ (Hp.le.refl R) Ly (fun hs d hd => ?_) ?_
    · obtain ⟨d', e1, e2⟩ := hfree' hs
      rw [hd] at e1
      cases e1
      rw [behind_hid] at e2
      split at e2
      · rename_i e; rw [e2] at e; simp at e
      · exact e2
    · refine re _ R _ _ (Hp.le.refl R) (Lx v' hbo' hfree') (Fx v' hbo') ?_
      rw [← comm]
      exact hK'
  · rcases evOp_call (by omega) hK with ⟨hK', re'⟩ | ⟨f, vs, hcall, re'⟩
    · refine re' S R _ _ Ly ?_
      rw [nb] at hK' ⊢
      refine re _ R _ _ (Hp.le.refl R) (Lx _ none fun e => (by cases e)) (Fx _ none) ?_
      rw [← comm]
      exact hK'
    · refine re' S R _ _ Ly (hcall.mono fun e R' hle hk => retK_mono hk fun u hu => ?_)
      rw [nb] at hu ⊢
      refine re _ R' _ _ hle (Lx _ none fun e => (by cases e)) (Fx _ none) ?_
      rw [← comm]
      exact hu
end
theorem okCells_mono' : ∀ {cs : List LV} {p q : Prop}, okCells cs p → (p → q) → okCells cs q
  | [], p, q, h, hk => hk h
  | c :: cs, p, q, h, hk => by
    cases c <;> simp only [okCells] at h ⊢ <;> first | exact h.elim | exact okCells_mono' h hk
/-- What an operation that hands a value on comes to. -/
def valS (o : Oper) (S : St) : Option SV := match o.op with
  | .move x => some (opd S.env x)
  | .assign x => some (opd S.env x)
  | .extract x i => match opd S.env x with
    | .t cs => match cs[i]? with
      | some c => some (svG c)
      | none => none
    | _ => none
  | _ => none
def stepS (ops : List Oper) (gts : List Nat) (o : Oper) (S : St) : Option SV := match o.guard with
  | none => (valS o S).map (fixV gts o.dst)
  | some (j, want) => match guardT ops j with
    | none => none
    | some gt => match S.env gt with
      | .l .tt => (match want with | true => (valS o S).map (fixV gts o.dst) | false => some (.l .und))
      | .l .ff => (match want with | false => (valS o S).map (fixV gts o.dst) | true => some (.l .und))
      | .l .und => some (.l .und)
      | _ => none
theorem ev1d_hands {cx : Cx} {o : Oper} (ho : handsOn o = true) {S : St} {R : Hp} {K : St → Hp → Prop} {Kp : List PanicEntry → Hp → Prop} : ev1d cx o S R K Kp ↔ ∃ v, valS o S = some v ∧ K (S.put o.dst v) R := by
  unfold handsOn at ho
  have hc : classOf cx.xs o = 0 := by
    unfold classOf
    cases hop : o.op <;> rw [hop] at ho <;> first | cases ho | rfl
  have e0 : ev1d cx o S R K Kp = evP cx o S.env S.hid R fun v h => K (S.behind o.dst v h) R := by
    unfold ev1d; rw [hc]; rfl
  rw [e0]
  unfold evP valS
  split at ho
  · rename_i x e
    rw [e]
    exact ⟨fun h => ⟨_, rfl, h⟩, fun ⟨v, e, h⟩ => by cases e; exact h⟩
  · rename_i x e
    rw [e]
    exact ⟨fun h => ⟨_, rfl, h⟩, fun ⟨v, e, h⟩ => by cases e; exact h⟩
  · rename_i x i e
    rw [e]
    simp only
    cases opd S.env x with
    | l y => exact ⟨fun h => h.elim, fun ⟨v, e, h⟩ => by cases e⟩
    | g cs => exact ⟨fun h => h.elim, fun ⟨v, e, h⟩ => by cases e⟩
    | t cs =>
      simp only
      cases cs[i]? with
      | none => exact ⟨fun h => h.elim, fun ⟨v, e, h⟩ => by cases e⟩
      | some c => exact ⟨fun h => ⟨_, rfl, h⟩, fun ⟨v, e, h⟩ => by cases e; exact h⟩
  · cases ho
theorem evOp_hands {cx : Cx} {ops : List Oper} {gts : List Nat} {o : Oper} (ho : handsOn o = true) {S : St} {R : Hp} {K : St → Hp → Prop} {Kp : List PanicEntry → Hp → Prop} : evOp cx ops gts true o S R K Kp ↔ okDst cx.n o.dst = true ∧ ∃ v, stepS ops gts o S = some v ∧ K (S.put o.dst v) R := by
  have run : ev1d cx o S R (fun S' R' => splitAt gts o.dst S' fun S' => K S' R') Kp ↔ ∃ v, (valS o S).map (fixV gts o.dst) = some v ∧ K (S.put o.dst v) R := by
    rw [ev1d_hands ho]
    constructor
    · rintro ⟨v, e, h⟩
      exact ⟨fixV gts o.dst v, by rw [e]; rfl, (split_iff S v none _).1 h⟩
    · rintro ⟨v, e, h⟩
      cases hv : valS o S with
      | none => rw [hv] at e; cases e
      | some u =>
        rw [hv] at e
        cases e
        exact ⟨u, rfl, (split_iff S u none _).2 h⟩
  unfold evOp stepS
  cases hd : okDst cx.n o.dst with
  | false => simp
  | true =>
    simp only [true_and]
    cases hg : o.guard with
    | none => exact run
    | some p =>
      obtain ⟨j, want⟩ := p
      simp only
      cases guardT ops j with
      | none => simp
      | some gt =>
        simp only
        have und : K (S.put o.dst (.l .und)) R ↔ ∃ v, some (SV.l LV.und) = some v ∧ K (S.put o.dst v) R := ⟨fun h => ⟨_, rfl, h⟩, fun ⟨v, e, h⟩ => by cases e; exact h⟩
        have no : False ↔ ∃ v, (none : Option SV) = some v ∧ K (S.put o.dst v) R := ⟨fun h => h.elim, fun ⟨v, e, h⟩ => by cases e⟩
        cases S.env gt with
        | l y =>
          cases y <;> first | exact no | exact und | skip
          · cases want <;> first | exact run | exact und
          · cases want <;> first | exact run | exact und
        | g cs => exact no
        | t cs => exact no
theorem svG_frz (id : Nat) (s : Sl) (c : Bool × List LV) : svG (c.1, c.2.map (LV.frz id s)) = (svG c).frz id s := by
  obtain ⟨g, l⟩ := c
  cases g with
  | true => rfl
  | false => match l with
    | [] => rfl
    | [x] => rfl
    | _ :: _ :: _ => rfl
theorem constLV_frz (id : Nat) (s : Sl) (v : Value) : (constLV v).frz id s = constLV v := by
  unfold constLV
  split <;> rfl
theorem opd_frz {S : St} {id : Nat} {s : Sl} (x : Operand) : opd (S.frz id s).env x = (opd S.env x).frz id s := by
  cases x with
  | tmp t => rfl
  | const v =>
    show constSV v = (constSV v).frz id s
    unfold constSV
    split
    · simp only [SV.frz, List.map_map]
      congr 1
      exact List.map_congr_left fun c _ => (constLV_frz id s c).symm
    · simp only [SV.frz, constLV_frz]
  | global g => rfl
  | func f => rfl
theorem fixV_ne {gts : List Nat} {d : Option Nat} {v : SV} (h : ∀ q, v ≠ .l (.bool q)) : fixV gts d v = v := by
  unfold fixV
  cases d with
  | none => rfl
  | some d =>
    simp only
    cases memB d gts with
    | false => rfl
    | true =>
      cases v with
      | l y => cases y <;> first | rfl | exact absurd rfl (h _)
      | g cs => rfl
      | t cs => rfl
theorem frz_ne {y : LV} (h : ∀ q, y ≠ .bool q) (id : Nat) (s : Sl) : ∀ q, y.frz id s ≠ .bool q := by
  intro q
  cases y <;> try (first | exact h q | (simp [LV.frz, LV.says]; done))
  all_goals
    simp only [LV.frz]
    split <;> simp
theorem fixV_frz (gts : List Nat) (d : Option Nat) (id : Nat) (s : Sl) (v : SV) : fixV gts d (v.frz id s) = (fixV gts d v).frz id s := by
  by_cases hv : ∃ q, v = .l (.bool q)
  · obtain ⟨q, rfl⟩ := hv
    show fixV gts d (.l (.bool q)) = _
    unfold fixV
    cases d with
    | none => rfl
    | some d =>
      simp only
      cases memB d gts with
      | false => rfl
      | true => cases q <;> rfl
  · have h1 : ∀ q, v ≠ .l (.bool q) := fun q e => hv ⟨q, e⟩
    rw [fixV_ne h1]
    refine fixV_ne fun q e => ?_
    cases v with
    | l y =>
      simp only [SV.frz, SV.l.injEq] at e
      exact frz_ne (fun q e => h1 q (by rw [e])) id s q e
    | g cs => cases e
    | t cs => cases e
theorem stepS_frz {ops : List Oper} {gts : List Nat} {o : Oper} {S : St} {id : Nat} {s : Sl} {v : SV} (h : stepS ops gts o S = some v) : stepS ops gts o (S.frz id s) = some (v.frz id s) := by
  have vs : ∀ u, valS o S = some u → valS o (S.frz id s) = some (u.frz id s) := fun u hu => by
    unfold valS at hu ⊢
    split at hu
    · rename_i x e
      cases hu
      rw [opd_frz]
    · rename_i x e
      cases hu
      rw [opd_frz]
    · rename_i x i e
      rw [opd_frz]
      cases ho : opd S.env x with
      | l y => rw [ho] at hu; cases hu
      | g cs => rw [ho] at hu; cases hu
      | t cs =>
        rw [ho] at hu
        simp only at hu
        simp only [SV.frz, List.getElem?_map]
        cases hc : cs[i]? with
        | none => rw [hc] at hu; cases hu
        | some c =>
          rw [hc] at hu
          cases hu
          simp only [Option.map_some]
          rw [svG_frz]
          rfl
    · cases hu
  have vm : ∀ u, (valS o S).map (fixV gts o.dst) = some u → (valS o (S.frz id s)).map (fixV gts o.dst) = some (u.frz id s) := fun u hu => by
    cases hv : valS o S with
    | none => rw [hv] at hu; cases hu
    | some x =>
      rw [hv] at hu
      cases hu
      rw [vs x hv]
      simp only [Option.map_some, fixV_frz]
  unfold stepS at h ⊢
  split at h
  · exact vm v h
  · split at h
    · cases h
    · rename_i gt _
      have eg : (S.frz id s).env gt = (S.env gt).frz id s := rfl
      rw [eg]
      split at h
      · rename_i e
        rw [e]
        simp only [SV.frz, LV.frz, LV.says]
        split at h
        · exact vm v h
        · cases h; rfl
      · rename_i e
        rw [e]
        simp only [SV.frz, LV.frz, LV.says]
        split at h
        · exact vm v h
        · cases h; rfl
      · rename_i e
        rw [e]
        simp only [SV.frz, LV.frz, LV.says]
        cases h; rfl
      · cases h
theorem stepS_env {ops : List Oper} {gts : List Nat} {o : Oper} {S S' : St} (h : ∀ t ∈ looks ops o, S'.env t = S.env t) : stepS ops gts o S' = stepS ops gts o S := by
  have ho : ∀ x ∈ o.op.operands.toList, opd S'.env x = opd S.env x := fun x hx => by
    cases x with
    | tmp t => exact h t (looks_tmps (tmpsOf_mem hx))
    | const v => rfl
    | global g => rfl
    | func f => rfl
  have hv : valS o S' = valS o S := by
    unfold valS
    split
    · rename_i x e; rw [ho x (by simp [e, Op.operands])]
    · rename_i x e; rw [ho x (by simp [e, Op.operands])]
    · rename_i x i e; rw [ho x (by simp [e, Op.operands])]
    · rfl
  unfold stepS
  cases hg : o.guard with
  | none => simp only [hv]
  | some p =>
    obtain ⟨j, want⟩ := p
    simp only
    cases hgt : guardT ops j with
    | none => rfl
    | some gt =>
      simp only
      rw [h gt (looks_guard hg hgt), hv]
theorem put_frz (S : St) (d : Option Nat) (v : SV) (id : Nat) (s : Sl) : (S.put d v).frz id s = (S.frz id s).put d (v.frz id s) := by
  cases d with
  | none => rfl
  | some d =>
    simp only [St.put, St.frz]
    congr 1
    funext t
    cases Nat.beq t d <;> rfl
theorem opd_put {S : St} {d : Option Nat} {v : SV} {x : Operand} (h : ∀ t, x = .tmp t → d ≠ some t) : opd (S.put d v).env x = opd S.env x := by
  cases x with
  | tmp t =>
    cases d with
    | none => rfl
    | some d =>
      have : (S.put (some d) v).env t = if t = d then v else S.env t := St.put_env S d v t
      show (S.put (some d) v).env t = S.env t
      rw [this, if_neg]
      intro e
      exact h t rfl (by rw [e])
  | const v => rfl
  | global g => rfl
  | func f => rfl
theorem writeAt_put {S : St} {d : Option Nat} {u x y : SV} {ti : TI} {K K' : St → Prop} (h : writeAt (S.put d u) x ti y K) (hk : ∀ id hb, K ((S.setHid id hb).put d u) → K' (S.setHid id hb)) : writeAt S x ti y K' := by
  have e1 : (S.put d u).own = S.own := by cases d <;> rfl
  have e2 : (S.put d u).hid = S.hid := by cases d <;> rfl
  have e3 : ∀ id hb, (S.put d u).setHid id hb = (S.setHid id hb).put d u := fun id hb => by cases d <;> rfl
  unfold writeAt at h ⊢
  rw [e1, e2] at h
  split at h
  · exact h.elim
  · unfold sized at h ⊢
    split at h
    · refine okCells_mono' h fun h => ?_
      split at h
      · split at h
        · split at h
          · split at h
            · rw [e3] at h; exact hk _ _ h
            · exact h.elim
          · exact h.elim
        · exact h.elim
      · split at h
        · split at h
          · split at h
            · split at h
              · obtain ⟨z, hz, h⟩ := h
                refine ⟨z, hz, ?_⟩
                split at h
                · rw [e3] at h; exact hk _ _ h
                · exact h.elim
              · exact h.elim
            · exact h.elim
          · exact h.elim
        · exact h.elim
      · exact h.elim
    · exact h.elim
/-- An operation that hands a value on, and a store: in either order. -/
theorem evOp_swapS {cx : Cx} {ops : List Oper} {gts : List Nat} {x y : Oper} (hx : handsOn x = true) (hy : isStore y = true) (hap : apartB ops x y = true) {S : St} {R : Hp} {K : St → Hp → Prop} {Kp : List PanicEntry → Hp → Prop}
    (h : evOp cx ops gts true x S R (fun S' R' => evOp cx ops gts true y S' R' K Kp) Kp) : evOp cx ops gts true y S R (fun S' R' => evOp cx ops gts true x S' R' K Kp) Kp := by
  obtain ⟨p1, p2⟩ := apart_iff hap
  obtain ⟨hdx, v, hv, h⟩ := (evOp_hands hx).1 h
  unfold isStore at hy
  split at hy
  · rename_i t ad z hop
    have hc : classOf cx.xs y = 4 := by unfold classOf; rw [hop]
    have e0 : ∀ (S : St) (R : Hp) (K : St → Hp → Prop), ev1d cx y S R K Kp = ev1 cx y S R K Kp := fun S R K => by unfold ev1d; rw [hc]; rfl
    have lk : ∀ o ∈ y.op.operands.toList, ∀ t, o = .tmp t → x.dst ≠ some t := fun o ho t e hd => (p1 t hd).1 (looks_tmps (tmpsOf_mem (by rw [← e]; exact ho)))
    have oz : ∀ (S : St) (v : SV), opd (S.put x.dst v).env z = opd S.env z := fun S v => opd_put (lk z (by simp [hop, Op.operands]))
    have oa : ∀ (S : St) (v : SV), opd (S.put x.dst v).env ad = opd S.env ad := fun S v => opd_put (lk ad (by simp [hop, Op.operands]))
    have pcomm : ∀ (S : St) (v w : SV), (S.put x.dst v).put y.dst w = (S.put y.dst w).put x.dst v := fun S v w => behind_comm S v w none none fun m e => (p1 m e).2
    -- behind the store
    have tail : ∀ (S : St) (v : SV), stepS ops gts x S = some v → ∀ R w, K ((S.put x.dst v).put y.dst w) R → evOp cx ops gts true x (S.put y.dst w) R K Kp := fun S v hv R w hk => by
      refine (evOp_hands hx).2 ⟨hdx, v, ?_, ?_⟩
      · rw [stepS_env fun t ht => ?_]
        · exact hv
        · have := St.put
          cases hyd : y.dst with
          | none => rfl
          | some d =>
            rw [St.put_env, if_neg]
            intro e
            exact p2 d hyd (e ▸ ht)
      · rw [← pcomm]; exact hk
    have wr : ∀ (S : St) (R : Hp) (v : SV) (F F' : St → Hp → Prop), stepS ops gts x S = some v → (typeT cx t fun ti => writeAt (S.put x.dst v) (opd (S.put x.dst v).env ad) ti (opd (S.put x.dst v).env z) fun S' => F (S'.put y.dst (.l .no)) R) →
        (∀ S2 : St, stepS ops gts x S2 = some v → F ((S2.put x.dst v).put y.dst (.l .no)) R → F' (S2.put y.dst (.l .no)) R) → (typeT cx t fun ti => writeAt S (opd S.env ad) ti (opd S.env z) fun S' => F' (S'.put y.dst (.l .no)) R) := fun S R v F F' hv h hF => by
      obtain ⟨ti, ht, h⟩ := typeT_iff h
      refine typeT_intro ht ?_
      rw [oa, oz] at h
      exact writeAt_put h fun id hb hk => hF _ hv hk
    have fz : ∀ (m : Nat) (S : St) (R : Hp) (v : SV) (F F' : St → Hp → Prop), stepS ops gts x S = some v → frzOps m [z] (S.put x.dst v) R F → (∀ (S2 : St) (R2 : Hp) v2, stepS ops gts x S2 = some v2 → F (S2.put x.dst v2) R2 → F' S2 R2) → frzOps m [z] S R F' := by
      intro m
      induction m with
      | zero => intro S R v F F' hv h hF; exact hF S R v hv h
      | succ m ih =>
        intro S R v F F' hv h hF
        simp only [frzOps, List.map_cons, List.map_nil, oz] at h ⊢
        split at h
        · exact hF S R v hv h
        · rename_i id _
          unfold frz1 at h ⊢
          have e1 : (S.put x.dst v).own = S.own := by cases x.dst <;> rfl
          have e2 : (S.put x.dst v).hid = S.hid := by cases x.dst <;> rfl
          have e3 : (S.put x.dst v).anew = S.anew := by cases x.dst <;> rfl
          rw [e1, e2, e3] at h
          split at h
          · split at h
            · intro s R' hf
              have := h s R' hf
              rw [put_frz] at this
              exact ih (S.frz id s) R' (v.frz id s) F F' (stepS_frz hv) this hF
            · exact h.elim
          · exact h.elim
    have run : ev1d cx y (S.put x.dst v) R (fun S' R' => splitAt gts y.dst S' fun S' => K S' R') Kp → ev1d cx y S R (fun S' R' => splitAt gts y.dst S' fun S' => evOp cx ops gts true x S' R' K Kp) Kp := fun h => by
      rw [e0] at h ⊢
      unfold ev1 at h ⊢
      rw [hop] at h ⊢
      simp only at h ⊢
      rw [oa] at h
      have step : ∀ (S2 : St) (v2 : SV) (R2 : Hp), stepS ops gts x S2 = some v2 → (splitAt gts y.dst ((S2.put x.dst v2).put y.dst (.l .no)) fun S' => K S' R2) → splitAt gts y.dst (S2.put y.dst (.l .no)) fun S' => evOp cx ops gts true x S' R2 K Kp := fun S2 v2 R2 hv2 hk => by
        have hk' := (split_iff (S2.put x.dst v2) (.l .no) none _).1 hk
        exact (split_iff S2 (.l .no) none _).2 (tail S2 v2 hv2 R2 _ hk')
      split at h
      · rename_i e
        exact fz 40 S R v _ _ hv h fun S2 R2 v2 hv2 h2 => wr S2 R2 v2 (fun S' R => splitAt gts y.dst S' fun S' => K S' R) (fun S' R' => splitAt gts y.dst S' fun S' => evOp cx ops gts true x S' R' K Kp) hv2 h2 fun S3 hv3 hk => step S3 v2 R2 hv3 hk
      · rename_i e
        have h' : typeT cx t fun ti => writeAt (S.put x.dst v) (opd (S.put x.dst v).env ad) ti (opd (S.put x.dst v).env z) fun S' => splitAt gts y.dst (S'.put y.dst (.l .no)) fun S' => K S' R := by rw [oa]; exact h
        exact wr S R v (fun S' R => splitAt gts y.dst S' fun S' => K S' R) (fun S' R' => splitAt gts y.dst S' fun S' => evOp cx ops gts true x S' R' K Kp) hv h' fun S3 hv3 hk => step S3 v R hv3 hk
    have skip : K ((S.put x.dst v).put y.dst (.l .und)) R → evOp cx ops gts true x (S.put y.dst (.l .und)) R K Kp := fun hk => tail S v hv R _ hk
    unfold evOp at h
    unfold evOp
    split at h
    · exact h.elim
    · split at h
      · exact run h
      · rename_i j want hg
        split at h
        · exact h.elim
        · rename_i gt hgt
          have eg : (S.put x.dst v).env gt = S.env gt := by
            have := opd_put (S := S) (v := v) (d := x.dst) (x := .tmp gt) fun t e hd => by
              cases e
              exact (p1 gt hd).1 (looks_guard hg hgt)
            exact this
          rw [eg] at h
          simp only
          split at h
          · split at h
            · exact run h
            · exact skip h
          · split at h
            · exact run h
            · exact skip h
          · exact skip h
          · exact h.elim
  · cases hy
section
variable {w0 : World} {M0 : Mod} {R0 : Hp} {n : Nat} {dfs : List Deferred} {bs : Bs} {S : St} {R : Hp} {a : Act} {w : World}
/-- One operation comes first. -/
theorem evOps_bring {cx : Cx} (hT : TblOk cx.P cx.tbl) (hcn : cx.n = n) {ops : List Oper} {gts : List Nat} {K : St → Hp → Prop} {Kp : List PanicEntry → Hp → Prop} {i : Nat} {l2 : List Nat} :
    ∀ (l1 : List Nat) (bs : Bs) (S : St) (R : Hp) (a : Act) (w : World), Inv w0 M0 R0 n dfs bs S R a w → (∀ x ∈ l1, okPair cx.xs ops x i = true) → evOps cx ops gts true (l1 ++ i :: l2) S R K Kp → evOps cx ops gts true (i :: (l1 ++ l2)) S R K Kp
  | [], _, S, R, a, w, _, _, h => h
  | x :: l1, bs, S, R, a, w, I, hp, h => by
    have hpx := hp x (by simp)
    simp only [List.cons_append, evOps] at h
    unfold okPair at hpx
    split at hpx
    · rename_i ox oi ex ei
      simp only [Bool.and_eq_true, Bool.or_eq_true] at hpx
      have hcx : classOf cx.xs ox ≤ 2 := by
        rcases hpx.1 with h1 | h1
        · exact Nat.le_of_ble_eq_true h1.1
        · have := h1.1
          unfold handsOn at this
          unfold classOf
          split at this
          · rename_i e; rw [e]; simp
          · rename_i e; rw [e]; simp
          · rename_i e; rw [e]; simp
          · cases this
      rw [ex] at h
      simp only at h
      obtain ⟨v, hbo, hK, hfree, ⟨bs', a', w', J⟩, re⟩ := evOp_elim I hT hcn hcx h
      have ih := evOps_bring hT hcn l1 bs' _ R a' w' J (fun y hy => hp y (by simp [hy])) hK
      have h' : evOp cx ops gts true ox S R (fun S' R' => evOp cx ops gts true oi S' R' (fun S' R' => evOps cx ops gts true (l1 ++ l2) S' R' K Kp) Kp) Kp := by
        refine re S R _ _ (Hp.le.refl R) ⟨fun _ _ => rfl, fun _ _ _ _ => rfl⟩ (fun hs d hd => ?_) ?_
        · obtain ⟨d', e1, e2⟩ := hfree hs
          rw [hd] at e1
          cases e1
          exact e2
        · simp only [evOps, ei] at ih
          exact ih
      have : evOp cx ops gts true oi S R (fun S' R' => evOp cx ops gts true ox S' R' (fun S' R' => evOps cx ops gts true (l1 ++ l2) S' R' K Kp) Kp) Kp := by
        rcases hpx.1 with h1 | h1
        · exact evOp_swap I hT hcn hcx (Nat.le_of_ble_eq_true h1.2) hpx.2 h'
        · exact evOp_swapS h1.1 h1.2 hpx.2 h'
      simp only [List.cons_append, evOps, ei, ex]
      exact this
    · cases hpx

/-- The list's order. -/
structure OkO (xf : FuncId → Option XS) (ops : List Oper) (l : List Nat) : Prop where
  pair : l.Pairwise fun x y => (isAnc ops ops.length x y = true ∨ okPair xf ops x y = true) ∧ y ∉ depsOf ops x
  self : ∀ x ∈ l, x ∉ depsOf ops x ∧ ∀ d ∈ depsOf ops x, d < ops.length
theorem okOrder_iff {xf : FuncId → Option XS} {ops : List Oper} : ∀ {l : List Nat}, okOrder xf ops ops.length l = true → OkO xf ops l
  | [], _ => ⟨.nil, fun x hx => by simp at hx⟩
  | x :: xs, h => by
    simp only [okOrder] at h
    split at h
    · rename_i hc
      rw [Bool.and_eq_true] at hc
      obtain ⟨h1, h2⟩ := hc
      rw [allB_iff] at h1 h2
      have ih := okOrder_iff h
      have hd : ∀ d ∈ depsOf ops x, d < ops.length ∧ d ≠ x ∧ d ∉ xs := fun d hd => by
        have := h2 d hd
        simp only [Bool.and_eq_true, Bool.not_eq_true'] at this
        refine ⟨by simpa [Nat.blt_eq] using this.1.1, fun e => ?_, memB_false.1 this.2⟩
        have := this.1.2
        rw [e] at this
        simp at this
      refine ⟨.cons (fun y hy => ⟨?_, fun hy' => (hd y hy').2.2 hy⟩) ih.pair, fun z hz => ?_⟩
      · have := h1 y hy
        simpa using this
      · rcases List.mem_cons.1 hz with rfl | hz
        · exact ⟨fun e => (hd z e).2.1 rfl, fun d hd' => (hd d hd').1⟩
        · exact ih.self z hz
    · cases h
theorem isAnc_left {ops : List Oper} {l : List Nat} (hcl : ∀ j, j ∉ l → ∀ d ∈ depsOf ops j, d ∉ l) : ∀ (m x i : Nat), (∀ d ∈ depsOf ops i, d ∉ l) → isAnc ops m x i = true → x ∉ l
  | 0, _, _, _, h => by simp [isAnc] at h
  | m + 1, x, i, hi, h => by
    simp only [isAnc] at h
    rw [anyB_iff] at h
    obtain ⟨d, hd, h⟩ := h
    rcases beq_cases d x with ⟨e, rfl⟩ | ⟨e, hne⟩
    · exact hi d hd
    · rw [e] at h
      exact isAnc_left hcl m x d (hcl d (hi d hd)) h
theorem ready_iff {ops : List Oper} {listed : Array Bool} {i : Nat} : i ∈ Region.ready .any ops.toArray listed ↔ i < ops.length ∧ listed.getD i true = false ∧ ∀ d ∈ depsOf ops i, listed.getD d false = true := by
  unfold Region.ready depsOf
  rw [List.mem_filter, List.mem_range]
  simp only [List.size_toArray, Bool.and_eq_true, Bool.not_eq_true', List.getElem?_toArray]
  refine and_congr_right fun hlt => and_congr_right fun _ => ?_
  rw [List.getElem?_eq_getElem hlt]
  simp only [Option.map_some, Option.getD_some, List.mem_filterMap]
  rw [Array.all_eq_true']
  constructor
  · rintro h d ⟨e, he, hd⟩
    have := h e (by simpa using he)
    split at hd
    · rename_i hb
      obtain rfl := Option.some.inj hd
      simpa [hb] using this
    · cases hd
  · intro h e he
    cases hb : Region.binds .any e with
    | false => simp
    | true =>
      have := h e.on ⟨e, by simpa using he, by simp [hb]⟩
      simpa using this
theorem wpAny_of {cx : Cx} (hT : TblOk cx.P cx.tbl) (HX : XSnd cx w0 M0 R0 n dfs) (hcn : cx.n = n) {ops : List Oper} {gts : List Nat} {K : St → Hp → Prop} {Kp : List PanicEntry → Hp → Prop} {Q : Exit → Act → World → Prop}
    (hn : ∀ a w, Nx w0 M0 R0 n dfs K a w → Q .normal a w) (hq : ∀ ch a w, Px w0 M0 R0 n dfs Kp ch a w → Q (.panic ch) a w) :
    ∀ (fuel : Nat) (l : List Nat) (listed : Array Bool) (bs : Bs) (S : St) (R : Hp) (a : Act) (w : World), l.length ≤ fuel → listed.size = ops.length → (∀ i, i < ops.length → (listed.getD i false = false ↔ i ∈ l)) → (∀ i ∈ l, i < ops.length) → l.Nodup → OkO cx.xs ops l → (∀ j, j ∉ l → ∀ d ∈ depsOf ops j, d ∉ l) →
      Inv w0 M0 R0 n dfs bs S R a w → evOps cx ops gts true l S R K Kp → wpAny cx.P .any ops.toArray Q fuel listed a w := by
  have rdy : ∀ (l : List Nat) (listed : Array Bool), listed.size = ops.length → (∀ i, i < ops.length → (listed.getD i false = false ↔ i ∈ l)) → (∀ i ∈ l, i < ops.length) → OkO cx.xs ops l → ∀ i, i ∈ Region.ready .any ops.toArray listed ↔ i ∈ l ∧ ∀ d ∈ depsOf ops i, d < ops.length ∧ d ∉ l := by
    intro l listed hs hl hlt hO i
    rw [ready_iff]
    have conv : ∀ j, j < ops.length → listed.getD j true = listed.getD j false := fun j hj => by simp [Array.getD, hs, hj]
    constructor
    · rintro ⟨h1, h2, h3⟩
      rw [conv i h1] at h2
      refine ⟨(hl i h1).1 h2, fun d hd => ?_⟩
      have := h3 d hd
      have hdl : d < ops.length := by
        rcases Nat.lt_or_ge d ops.length with h | h
        · exact h
        · simp [Array.getD, hs, Nat.not_lt.2 h] at this
      exact ⟨hdl, fun hm => by rw [(hl d hdl).2 hm] at this; cases this⟩
    · rintro ⟨h1, h2⟩
      have hi := hlt i h1
      refine ⟨hi, by rw [conv i hi]; exact (hl i hi).2 h1, fun d hd => ?_⟩
      obtain ⟨h3, h4⟩ := h2 d hd
      cases e : listed.getD d false with
      | true => rfl
      | false => exact absurd ((hl d h3).1 e) h4
  intro fuel
  induction fuel with
  | zero =>
    intro l listed bs S R a w hlen hs hl hlt hnd hO hcl I h
    obtain rfl : l = [] := List.length_eq_zero_iff.1 (by omega)
    refine ⟨?_, hn _ _ ⟨bs, S, R, I, h⟩⟩
    rw [List.eq_nil_iff_forall_not_mem]
    intro i hi
    rw [rdy [] listed hs hl hlt hO] at hi
    simp at hi
  | succ fuel ih =>
    intro l listed bs S R a w hlen hs hl hlt hnd hO hcl I h
    refine ⟨fun hr => ?_, fun i hi => ?_⟩
    · cases l with
      | nil => exact hn _ _ ⟨bs, S, R, I, h⟩
      | cons x xs =>
        have : x ∈ Region.ready .any ops.toArray listed := by
          rw [rdy _ listed hs hl hlt hO]
          refine ⟨by simp, fun d hd => ⟨(hO.self x (by simp)).2 d hd, fun hm => ?_⟩⟩
          rcases List.mem_cons.1 hm with rfl | hm
          · exact (hO.self d (by simp)).1 hd
          · exact ((List.pairwise_cons.1 hO.pair).1 d hm).2 hd
        rw [hr] at this
        simp at this
    · rw [rdy l listed hs hl hlt hO] at hi
      obtain ⟨him, hdeps⟩ := hi
      obtain ⟨l1, l2, rfl⟩ := List.append_of_mem him
      have hil := hlt i him
      have hpairs : ∀ x ∈ l1, okPair cx.xs ops x i = true := fun x hx => by
        have hp := (List.pairwise_append.1 hO.pair).2.2 x hx i (by simp)
        rcases hp.1 with h1 | h1
        · exact absurd (by simp [hx] : x ∈ l1 ++ i :: l2) (isAnc_left hcl _ x i (fun d hd => (hdeps d hd).2) h1)
        · exact h1
      have hb := evOps_bring hT hcn l1 bs S R a w I hpairs h
      have hsub : (l1 ++ l2).Sublist (l1 ++ i :: l2) := List.Sublist.append (List.Sublist.refl l1) (List.sublist_cons_self i l2)
      have hni : i ∉ l1 ++ l2 := by
        have := hnd
        rw [List.nodup_append] at this
        obtain ⟨_, h2, h3⟩ := this
        simp only [List.mem_append]
        rintro (h | h)
        · exact h3 i h i (by simp) rfl
        · exact (List.nodup_cons.1 h2).1 h
      simp only [evOps] at hb
      split at hb
      · exact hb.elim
      · rename_i o ho
        refine evOp_sound I hT HX hcn ho hb (fun a w ⟨bs', S', R', J, h'⟩ => ?_) hq
        refine ih (l1 ++ l2) _ bs' S' R' a w (by simp at hlen ⊢; omega) (by simp [hs]) (fun j hj => ?_) (fun j hj => hlt j (hsub.subset hj)) (hnd.sublist hsub) ⟨hO.pair.sublist hsub, fun x hx => hO.self x (hsub.subset hx)⟩ (fun j hj d hd hm => ?_) J h'
        · by_cases e : j = i
          · subst e
            simp [Array.getD, hs, hj, hni]
          · have e1 : (listed.setIfInBounds i true).getD j false = listed.getD j false := by
              simp only [Array.getD_eq_getD_getElem?, Array.getElem?_setIfInBounds_ne (Ne.symm e)]
            rw [e1, hl j hj]
            simp [e]
        · by_cases e : j = i
          · subst e
            exact (hdeps d hd).2 (hsub.subset hm)
          · refine hcl j (fun hj' => hj ?_) d hd (hsub.subset hm)
            simp only [List.mem_append, List.mem_cons] at hj' ⊢
            rcases hj' with h | h | h
            · exact .inl h
            · exact absurd h e
            · exact .inr h
theorem Inv.drew (I : Inv w0 M0 R0 n dfs bs S R a w) : Inv w0 M0 R0 n dfs bs S R a { w with drawn := w.drawn + 1 } :=
  { I with
    hb := fun j h hj => (I.hb j h hj).keep fun _ _ => rfl
    wf := ⟨I.wf.frame, I.wf.os, I.wf.tape, I.wf.output, I.wf.size⟩ }
theorem region_draw {cx : Cx} (hm : cx.P.follows .mixedOrders = true) (hT : TblOk cx.P cx.tbl) (HX : XSnd cx w0 M0 R0 n dfs) (hcn : cx.n = n) {id : Nat} {ops : Array Oper} {gts : List Nat} {K : St → Hp → Prop} {Kp : List PanicEntry → Hp → Prop} {Q : Exit → Act → World → Prop}
    (I : Inv w0 M0 R0 n dfs bs S R a w) {l : List Nat} (h1 : okList ops.toList.length l = true) (h2 : okOrder cx.xs ops.toList ops.toList.length l = true) (h : evOps cx ops.toList gts true l S R K Kp)
    (hn : ∀ a w, Nx w0 M0 R0 n dfs K a w → Q .normal a w) (hq : ∀ ch a w, Px w0 M0 R0 n dfs Kp ch a w → Q (.panic ch) a w) : (Code.region id ops true).wp cx.P Q a w := by
  refine wp_region_any hm ?_
  unfold okList at h1
  simp only [Bool.and_eq_true] at h1
  obtain ⟨⟨⟨e1, e2⟩, e3⟩, e4⟩ := h1
  rw [allB_iff] at e2 e3
  have hnd : ∀ l : List Nat, nodupB l = true → l.Nodup := by
    intro l
    induction l with
    | nil => intro _; exact List.nodup_nil
    | cons x xs ih =>
      intro h
      simp only [nodupB] at h
      split at h
      · cases h
      · rename_i hm
        exact List.nodup_cons.2 ⟨memB_false.1 hm, ih h⟩
  have := wpAny_of (ops := ops.toList) hT HX hcn hn hq ops.toList.length l (Array.replicate ops.size false) bs S R a _ (Nat.le_of_eq (Nat.eq_of_beq_eq_true e1)) (by simp) (fun i hi => ?_) (fun i hi => by have := e3 i hi; simpa [Nat.blt_eq] using this) (hnd l e4) (okOrder_iff h2) (fun j hj d hd => ?_) I.drew h
  · simpa using this
  · have : i ∈ l := memB_iff.1 (e2 i (List.mem_range.2 hi))
    simp [Array.getD, this]
  · exfalso
    have hjl : ¬ j < ops.toList.length := fun hlt => hj (memB_iff.1 (e2 j (List.mem_range.2 hlt)))
    unfold depsOf at hd
    rw [List.getElem?_eq_none (Nat.le_of_not_lt hjl)] at hd
    simp at hd
end
end Go.KE
