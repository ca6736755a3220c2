/-
  == of arrays and structs.
-/
import Derived.Test.YtdmcbbeebjcagaaV0
import Derived.Laws.Tables
import Derived.LoopN
import Derived.Orders
import Derived.KernelRfl
set_option linter.all false
set_option linter.unusedSectionVars false
namespace Go.Vab
open Go

theorem Ty.heights_get : ∀ (ts : List Ty) (f : Nat) (t : Ty), ts[f]? = some t → t.height ≤ Ty.heights ts
  | [], _, _, h => by simp at h
  | t :: ts, 0, u, h => by simp at h; subst h; simp [Ty.heights]; omega
  | t :: ts, f + 1, u, h => by
    have := Ty.heights_get ts f u (by simpa using h)
    simp [Ty.heights]; omega

theorem eqItems_ints {P : Program} {tt : Nat → Option TI} (T : TTok P tt) {w : World} {e : Nat} {i : TI} (he : tt e = some i) {k : IntKind} (hk : i.ty = .int k) (d : Nat) : ∀ (xs ys : List Int) (n : Nat) (pre pre' : List Value),
    xs.length = ys.length → pre.length = n → pre'.length = n →
    (Op.eqItems (d + 1) e 1 (pre ++ xs.map (Value.int k)).toArray (pre' ++ ys.map (Value.int k)).toArray (List.range' n xs.length)).run P w = .ok (decide (xs = ys)) w
  | [], [], _, _, _, _, _, _ => by simp [Op.eqItems]
  | [], _ :: _, _, _, _, h, _, _ => by simp at h
  | _ :: _, [], _, _, _, h, _, _ => by simp at h
  | x :: xs, y :: ys, n, pre, pre', h, h1, h2 => by
    have a1 := run_part_tt T he w (E := ⟨0, fun _ => 0, fun _ => 0, fun _ => 0, fun _ => 0, fun _ => false, fun _ => .cell⟩) (v := .int k x) (pre := pre) (mid := [.int k x]) (post := xs.map (Value.int k)) (by rw [hk]; simp [hasTy]) (by simp [VRl])
    have a2 := run_part_tt T he w (E := ⟨0, fun _ => 0, fun _ => 0, fun _ => 0, fun _ => 0, fun _ => false, fun _ => .cell⟩) (v := .int k y) (pre := pre') (mid := [.int k y]) (post := ys.map (Value.int k)) (by rw [hk]; simp [hasTy]) (by simp [VRl])
    rw [hk] at a1 a2
    simp only [ofCells, Ty.isAgg, Bool.false_eq_true, if_false, List.getD_cons_zero] at a1 a2
    have ih := eqItems_ints T (w := w) he hk d xs ys (n + 1) (pre ++ [.int k x]) (pre' ++ [.int k y]) (by simpa using h) (by simp [h1]) (by simp [h2])
    simp only [List.length_cons, List.range'_succ, Op.eqItems, Sem.run_bind, List.map_cons, Nat.mul_one]
    rw [show pre ++ Value.int k x :: xs.map (Value.int k) = pre ++ [.int k x] ++ xs.map (Value.int k) by simp, show pre' ++ Value.int k y :: ys.map (Value.int k) = pre' ++ [.int k y] ++ ys.map (Value.int k) by simp]
    rw [h1] at a1
    rw [h2] at a2
    simp only [a1, a2, Result.andThen_ok, run_equalIn_int w d e k k x y (T.int e i k he hk)]
    by_cases hxy : x = y
    · subst hxy
      simp only [beq_self_eq_true, Bool.not_true, Bool.false_eq_true, if_false, ih]
      simp
    · have : (x == y) = false := by simpa using hxy
      simp [this, hxy]

mutual
theorem eq_sound {P : Program} {tt : Nat → Option TI} (T : TTok P tt) {E : Gh} {w : World} : ∀ (x y : AV) (tid : Nat) (i : TI) (d : Nat) (xv yv : Value) (r : Bool), tt tid = some i → hasTy x i.ty = true → hasTy y i.ty = true →
    eqv x y = some r → VRel E x xv → VRel E y yv → i.ty.height < d → (Op.equalIn d tid xv yv).run P w = .ok r w
  | .int k a, y, tid, i, d, xv, yv, r, ht, hx, hy, he, rx, ry, hd => by
    obtain ⟨d, rfl⟩ : ∃ m, d = m + 1 := ⟨d - 1, by omega⟩
    cases y <;> simp only [eqv] at he <;> try (cases he; done)
    rename_i k' b
    split at he
    · rename_i hk; subst hk
      simp at he; subst he
      simp only [VRel] at rx ry; subst rx; subst ry
      have hty : i.ty = .int k := by cases h : i.ty <;> rw [h] at hx <;> simp [hasTy, AV.oneCell] at hx; rw [hx]
      exact run_equalIn_int w d tid k k a b (T.int tid i k ht hty)
    · cases he
  | .ints k xs, y, tid, i, d, xv, yv, r, ht, hx, hy, he, rx, ry, hd => by
    obtain ⟨d, rfl⟩ : ∃ m, d = m + 1 := ⟨d - 1, by omega⟩
    cases y <;> simp only [eqv] at he <;> try (cases he; done)
    rename_i k' ys
    split at he
    · rename_i hk; obtain ⟨rfl, hl⟩ := hk
      simp at he; subst he
      simp only [VRel] at rx ry; subst rx; subst ry
      cases h : i.ty with
      | arr n u =>
        rw [h] at hx hd
        obtain ⟨rfl, hn⟩ := hasTy_ints_arr hx
        obtain ⟨e, j, hu, hej, hju⟩ := T.arr tid i n _ ht h
        obtain ⟨f, z, hf, _⟩ := T.info e j hej
        simp only [Ty.height] at hd
        obtain ⟨d, rfl⟩ : ∃ m, d = m + 1 := ⟨d - 1, by omega⟩
        rw [run_equalIn_array w (d + 1) _ _ hu hf, cellsOf_tt T hej, hju]
        have := eqItems_ints T (w := w) hej hju d xs ys 0 [] [] hl rfl rfl
        simpa [List.range_eq_range', hn, Ty.size] using this
      | _ => rw [h] at hx; simp [hasTy, AV.oneCell] at hx
    · cases he
  | .node vs, y, tid, i, d, xv, yv, r, ht, hx, hy, he, rx, ry, hd => by
    obtain ⟨d, rfl⟩ : ∃ m, d = m + 1 := ⟨d - 1, by omega⟩
    cases y <;> simp only [eqv] at he <;> try (cases he; done)
    rename_i us
    simp only [VRel] at rx ry
    obtain ⟨l, rfl, hl⟩ := rx
    obtain ⟨l', rfl, hl'⟩ := ry
    cases h : i.ty with
    | arr n u =>
      rw [h] at hx hy hd
      obtain ⟨hn, ha⟩ := hasTy_node_arr hx
      obtain ⟨hn', ha'⟩ := hasTy_node_arr hy
      obtain ⟨e, j, hu, hej, hju⟩ := T.arr tid i n _ ht h
      obtain ⟨f, z, hf, _⟩ := T.info e j hej
      simp only [Ty.height] at hd
      rw [run_equalIn_array w d _ _ hu hf, cellsOf_tt T hej]
      have := eqItems_sound T (w := w) vs us e j d 0 [] [] l l' r hej (by rw [hju]; exact ha) (by rw [hju]; exact ha') he hl hl' (by simp) (by simp) (by rw [hju]; omega)
      simpa [List.range_eq_range', hn] using this
    | struct ts =>
      rw [h] at hx hy hd
      simp only [hasTy] at hx hy
      obtain ⟨fs, hu, hsz, hst, hfs⟩ := T.struct tid i ts ht h
      simp only [Ty.height] at hd
      have hfo : P.fieldsOf tid = fs := by simp [Program.fieldsOf, hu]
      rw [run_equalIn_struct w d tid _ _ (by rw [hfo]; exact hu) hst, hfo]
      exact eqFields_sound T (w := w) vs us ts fs.toList d [] [] l l' r (by simpa using hsz) (fun f x hf => by
        obtain ⟨q1, q2, j, q3, q4, _⟩ := hfs f x (by simpa using hf)
        have := Ty.heights_get ts f j.ty q4
        exact ⟨q1, by simpa using q2, j, q3, q4, by omega⟩) hx hy he hl hl' rfl
    | int k => rw [h] at hx; simp [hasTy] at hx
    | cell => rw [h] at hx; simp [hasTy, AV.oneCell] at hx
  | .junk, y, _, _, _, _, _, _, _, _, _, he, _, _, _ => by cases y <;> simp [eqv] at he
  | .undef, y, _, _, _, _, _, _, _, _, _, he, _, _, _ => by cases y <;> simp [eqv] at he
  | .bool _, y, _, _, _, _, _, _, _, _, _, he, _, _, _ => by cases y <;> simp [eqv] at he
  | .str _, y, _, _, _, _, _, _, _, _, _, he, _, _, _ => by cases y <;> simp [eqv] at he
  | .nilptr, y, _, _, _, _, _, _, _, _, _, he, _, _, _ => by cases y <;> simp [eqv] at he
  | .ptr .., y, _, _, _, _, _, _, _, _, _, he, _, _, _ => by cases y <;> simp [eqv] at he
  | .win .., y, _, _, _, _, _, _, _, _, _, he, _, _, _ => by cases y <;> simp [eqv] at he
  | .nilslice, y, _, _, _, _, _, _, _, _, _, he, _, _, _ => by cases y <;> simp [eqv] at he
  | .slice .., y, _, _, _, _, _, _, _, _, _, he, _, _, _ => by cases y <;> simp [eqv] at he
  | .nilmap, y, _, _, _, _, _, _, _, _, _, he, _, _, _ => by cases y <;> simp [eqv] at he
  | .map _, y, _, _, _, _, _, _, _, _, _, he, _, _, _ => by cases y <;> simp [eqv] at he
  | .nilfn, y, _, _, _, _, _, _, _, _, _, he, _, _, _ => by cases y <;> simp [eqv] at he
  | .fn .., y, _, _, _, _, _, _, _, _, _, he, _, _, _ => by cases y <;> simp [eqv] at he
  | .tuple _, y, _, _, _, _, _, _, _, _, _, he, _, _, _ => by cases y <;> simp [eqv] at he
theorem eqItems_sound {P : Program} {tt : Nat → Option TI} (T : TTok P tt) {E : Gh} {w : World} : ∀ (vs us : List AV) (e : Nat) (j : TI) (d n : Nat) (pre pre' l l' : List Value) (r : Bool), tt e = some j → hasTyAll vs j.ty = true → hasTyAll us j.ty = true →
    eqvs vs us = some r → VRs E vs l → VRs E us l' → pre.length = n * j.ty.size → pre'.length = n * j.ty.size → j.ty.height < d →
    (Op.eqItems d e j.ty.size (pre ++ l).toArray (pre' ++ l').toArray (List.range' n vs.length)).run P w = .ok r w
  | [], [], _, _, _, _, _, _, _, _, r, _, _, _, he, _, _, _, _, _ => by simp [eqvs] at he; subst he; simp [Op.eqItems]
  | [], _ :: _, _, _, _, _, _, _, _, _, _, _, _, _, he, _, _, _, _, _ => by simp [eqvs] at he
  | _ :: _, [], _, _, _, _, _, _, _, _, _, _, _, _, he, _, _, _, _, _ => by simp [eqvs] at he
  | v :: vs, u :: us, e, j, d, n, pre, pre', l, l', r, hej, ha, hb, he, hl, hl', h1, h2, hd => by
    simp only [hasTyAll, Bool.and_eq_true] at ha hb
    simp only [VRs] at hl hl'
    obtain ⟨m1, m2, rfl, c1, c2⟩ := hl
    obtain ⟨k1, k2, rfl, g1, g2⟩ := hl'
    simp only [eqvs] at he
    cases ev : eqv v u with
    | none => rw [ev] at he; simp at he
    | some a =>
      cases evs : eqvs vs us with
      | none => rw [ev, evs] at he; simp at he
      | some b =>
        rw [ev, evs] at he; simp at he; subst he
        have a1 := run_part_tt T hej w (pre := pre) (post := m2) ha.1 c1
        have a2 := run_part_tt T hej w (pre := pre') (post := k2) hb.1 g1
        have q1 := eq_sound T (w := w) v u e j d _ _ a hej ha.1 hb.1 ev (VRel.of_cells ha.1 c1) (VRel.of_cells hb.1 g1) hd
        have l1 := VRl.len v _ m1 ha.1 c1
        have l2 := VRl.len u _ k1 hb.1 g1
        have ih := eqItems_sound T (w := w) vs us e j d (n + 1) (pre ++ m1) (pre' ++ k1) m2 k2 b hej ha.2 hb.2 evs c2 g2 (by rw [List.length_append, h1, l1, Nat.succ_mul]) (by rw [List.length_append, h2, l2, Nat.succ_mul]) hd
        simp only [List.length_cons, List.range'_succ, Op.eqItems, Sem.run_bind]
        rw [h1] at a1
        rw [h2] at a2
        rw [← List.append_assoc, ← List.append_assoc]
        simp only [a1, a2, q1, Result.andThen_ok]
        cases a
        · simp
        · simp only [Bool.not_true, Bool.false_eq_true, if_false, Bool.true_and]; exact ih
theorem eqFields_sound {P : Program} {tt : Nat → Option TI} (T : TTok P tt) {E : Gh} {w : World} : ∀ (vs us : List AV) (ts : List Ty) (fs : List Field) (d : Nat) (pre pre' l l' : List Value) (r : Bool), fs.length = ts.length →
    (∀ (f : Nat) (x : Field), fs[f]? = some x → x.name ≠ "_" ∧ x.offset = pre.length + Ty.sizes (ts.take f) ∧ ∃ j, tt x.type = some j ∧ ts[f]? = some j.ty ∧ j.ty.height < d) →
    hasTys vs ts = true → hasTys us ts = true → eqvs vs us = some r → VRs E vs l → VRs E us l' → pre'.length = pre.length →
    (Op.eqFields d (pre ++ l).toArray (pre' ++ l').toArray fs).run P w = .ok r w
  | [], us, ts, fs, d, pre, pre', l, l', r, hlen, hfs, ha, hb, he, hl, hl', h1 => by
    cases ts with
    | cons _ _ => simp [hasTys] at ha
    | nil =>
      cases us with
      | cons _ _ => simp [hasTys] at hb
      | nil =>
        cases fs with
        | cons _ _ => simp at hlen
        | nil => simp [eqvs] at he; subst he; simp [Op.eqFields]
  | v :: vs, us, ts, fs, d, pre, pre', l, l', r, hlen, hfs, ha, hb, he, hl, hl', h1 => by
    cases ts with
    | nil => simp [hasTys] at ha
    | cons t ts =>
      cases us with
      | nil => simp [hasTys] at hb
      | cons u us =>
        cases fs with
        | nil => simp at hlen
        | cons f fs =>
          simp only [hasTys, Bool.and_eq_true] at ha hb
          simp only [VRs] at hl hl'
          obtain ⟨m1, m2, rfl, c1, c2⟩ := hl
          obtain ⟨k1, k2, rfl, g1, g2⟩ := hl'
          obtain ⟨f1, f2, j, f3, f4, f5⟩ := hfs 0 f rfl
          simp at f4; subst f4
          simp [Ty.sizes] at f2
          simp only [eqvs] at he
          cases ev : eqv v u with
          | none => rw [ev] at he; simp at he
          | some a =>
            cases evs : eqvs vs us with
            | none => rw [ev, evs] at he; simp at he
            | some b =>
              rw [ev, evs] at he; simp at he; subst he
              have a1 := run_part_tt T f3 w (pre := pre) (post := m2) ha.1 c1
              have a2 := run_part_tt T f3 w (pre := pre') (post := k2) hb.1 g1
              have q1 := eq_sound T (w := w) v u f.type j d _ _ a f3 ha.1 hb.1 ev (VRel.of_cells ha.1 c1) (VRel.of_cells hb.1 g1) f5
              have l1 := VRl.len v _ m1 ha.1 c1
              have l2 := VRl.len u _ k1 hb.1 g1
              have ih := eqFields_sound T (w := w) vs us ts fs d (pre ++ m1) (pre' ++ k1) m2 k2 b (by simpa using hlen) (fun g x hg => by
                obtain ⟨z1, z2, z3⟩ := hfs (g + 1) x (by simpa using hg)
                exact ⟨z1, by rw [z2]; simp [Ty.sizes, l1]; omega, by simpa using z3⟩) ha.2 hb.2 evs c2 g2 (by simp [h1, l1, l2])
              rw [h1] at a2
              rw [← List.append_assoc, ← List.append_assoc]
              simp only [Op.eqFields, f1, ne_eq, not_false_eq_true, if_true, Sem.run_bind, f2, a1, a2, q1, Result.andThen_ok]
              cases a
              · simp
              · simp only [Bool.not_true, Bool.false_eq_true, if_false, Bool.true_and]; exact ih
end

theorem eq_bin {P : Program} {tt : Nat → Option TI} (T : TTok P tt) {E : Gh} {w : World} {t : Nat} {i : TI} (ht : tt t = some i) (hagg : i.ty.isAgg = true) {op : BinOp} {x y v : AV} {xo yo : Operand} {xv yv : Value} (hx : VRel E x xv) (hy : VRel E y yv) (he : mEq i.ty op x y = some v) :
    ∃ z, ((do eqGuard op t xo yo xv yv; binOp op t xv yv : Sem Value)).run P w = .ok z w ∧ VRel E v z := by
  unfold mEq at he
  split at he
  · rename_i hty
    rw [Bool.and_eq_true] at hty
    have hof := ofCells_cells hty.1 hx
    have hof' := ofCells_cells hty.2 hy
    rw [hagg] at hof hof'
    simp only [ofCells, if_true, Array.toArray_toList] at hof hof'
    have hg := T.guard t i ht hagg
    rw [← hof, ← hof']
    simp only [Sem.run_bind, run_eqGuard_agg w op t xo yo _ _ hg, Result.andThen_ok]
    have main : ∀ b, eqv x y = some b → (Op.equalIn 10000 t (.agg xv.cells) (.agg yv.cells)).run P w = .ok b w := fun b hb => by
      have hh := T.high t i ht
      exact eq_sound T x y t i 10000 _ _ b ht hty.1 hty.2 hb (by rw [hof]; exact hx) (by rw [hof']; exact hy) (by omega)
    cases op <;> simp only at he <;> try (cases he; done)
    all_goals
      obtain ⟨b, hb, he⟩ := bnd_eq_some.1 he
      simp at he; subst he
      simp only [VRel]
      refine ⟨_, ?_, rfl⟩
      first
        | (rw [run_eql_struct, main b hb]; rfl)
        | (rw [run_neq_struct, main b hb]; rfl)
  · cases he

end Go.Vab

/-
  Values and rows that are written out, or made.
-/
namespace Go.Vab
open Go

theorem put1_get1 : ∀ (r x r' : AV) (i : Nat), r.put [i] x = some r' → r'.get [i] = some x
  | .node vs, x, r', i, h => by
    simp only [AV.put] at h
    cases hv : vs[i]? with
    | none => rw [hv] at h; cases h
    | some v =>
      rw [hv] at h
      have hi : i < vs.length := (List.getElem?_eq_some_iff.1 hv).1
      simp only [Option.map_some, Option.some.injEq] at h
      subst h
      simp [AV.get, hi]
  | .ints k xs, x, r', i, h => by
    simp only [AV.put] at h
    cases x <;> simp at h
    obtain ⟨⟨rfl, hi⟩, rfl⟩ := h
    simp [AV.get, hi]
  | .junk, _, _, _, h => by simp [AV.put] at h
  | .undef, _, _, _, h => by simp [AV.put] at h
  | .bool _, _, _, _, h => by simp [AV.put] at h
  | .int _ _, _, _, _, h => by simp [AV.put] at h
  | .str _, _, _, _, h => by simp [AV.put] at h
  | .nilptr, _, _, _, h => by simp [AV.put] at h
  | .ptr .., _, _, _, h => by simp [AV.put] at h
  | .win .., _, _, _, h => by simp [AV.put] at h
  | .nilslice, _, _, _, h => by simp [AV.put] at h
  | .slice .., _, _, _, h => by simp [AV.put] at h
  | .nilmap, _, _, _, h => by simp [AV.put] at h
  | .map _, _, _, _, h => by simp [AV.put] at h
  | .nilfn, _, _, _, h => by simp [AV.put] at h
  | .fn .., _, _, _, h => by simp [AV.put] at h
  | .tuple _, _, _, _, h => by simp [AV.put] at h

/-- A part's place is there. -/
theorem put1_sub {r x r' : AV} {t : Ty} {i : Nat} (h : r.put [i] x = some r') (ht : hasTy r t = true) : ∃ o u, Ty.sub t [i] = some (o, u) := by
  cases r with
  | node vs =>
    simp only [AV.put] at h
    cases hv : vs[i]? with
    | none => rw [hv] at h; cases h
    | some v =>
      cases t with
      | arr n u => exact ⟨i * u.size, u, by simp [Ty.sub]⟩
      | struct ts =>
        simp only [hasTy] at ht
        obtain ⟨u, hu, _⟩ := hasTys_get vs ts i v ht hv
        exact ⟨_, u, by simp only [Ty.sub, hu]; rfl⟩
      | int k => simp [hasTy] at ht
      | cell => simp [hasTy, AV.oneCell] at ht
  | ints k xs =>
    cases t with
    | arr n u => exact ⟨i * u.size, u, by simp [Ty.sub]⟩
    | _ => simp [hasTy, AV.oneCell] at ht
  | _ => simp [AV.put] at h

theorem foldl_set (off : Nat) : ∀ (vs : List Value) (j : Nat) (cs : Array Value), off + j + vs.length ≤ cs.size →
    ((vs.zipIdx j).foldl (fun cs (c, j) => cs.setIfInBounds (off + j) c) cs).toList = cs.toList.take (off + j) ++ vs ++ cs.toList.drop (off + j + vs.length)
  | [], j, cs, _ => by simp
  | v :: vs, j, cs, h => by
    simp only [List.length_cons] at h
    simp only [List.zipIdx_cons, List.foldl_cons]
    have hl : off + j < cs.toList.length := by rw [Array.length_toList]; omega
    rw [foldl_set off vs (j + 1) (cs.setIfInBounds (off + j) v) (by simp; omega), Array.toList_setIfInBounds, set_eq_take_drop _ _ _ hl]
    have e1 : (List.take (off + j) cs.toList).length = off + j := by rw [List.length_take]; omega
    rw [show off + (j + 1) = off + j + 1 by omega, List.length_cons]
    generalize hA : List.take (off + j) cs.toList = A at *
    generalize hD : List.drop (off + j + 1) cs.toList = D at *
    rw [show A ++ v :: D = (A ++ [v]) ++ D by simp]
    have e3 : (A ++ [v]).length = off + j + 1 := by simp [e1]
    rw [← e3, List.take_left']
    · rw [List.drop_append, e3]
      have : List.drop (off + j + 1 + vs.length) (A ++ [v]) = [] := List.drop_eq_nil_of_le (by rw [e3]; omega)
      rw [this, ← hD, List.drop_drop]
      simp only [List.nil_append, List.append_assoc, List.cons_append]
      congr 4
      omega
    · rfl

def partsRel (E : Gh) : List (Nat × AV) → List (Nat × Value) → Prop
  | [], [] => True
  | (i, v) :: ps, (j, x) :: qs => i = j ∧ VRel E v x ∧ partsRel E ps qs
  | _, _ => False

theorem fill_sound {E : Gh} {t : Ty} {place : Nat → Option (Nat × Nat)} (hplace : ∀ i o u, Ty.sub t [i] = some (o, u) → (∀ r x r' : AV, r.put [i] x = some r' → hasTy r t = true → place i = some (o, u.size))) :
    ∀ (ps : List (Nat × AV)) (qs : List (Nat × Value)) (r r' : AV) (cells : Array Value), fillRow t r ps = some r' → hasTy r t = true → VRl E r cells.toList → partsRel E ps qs →
    ∃ cells', Instr.fill place cells qs = some cells' ∧ hasTy r' t = true ∧ VRl E r' cells'.toList
  | [], [], r, r', cells, h, ht, hl, _ => by simp [fillRow] at h; subst h; exact ⟨cells, rfl, ht, hl⟩
  | [], _ :: _, _, _, _, _, _, _, hp => by simp [partsRel] at hp
  | _ :: _, [], _, _, _, _, _, _, hp => by simp [partsRel] at hp
  | (i, v) :: ps, (j, x) :: qs, r, r', cells, h, ht, hl, hp => by
    simp only [partsRel] at hp
    obtain ⟨rfl, hv, hp⟩ := hp
    simp only [fillRow] at h
    obtain ⟨r1, h1, h⟩ := bnd_eq_some.1 h
    split at h
    · rename_i ht1
      obtain ⟨o, u, hs⟩ := put1_sub h1 ht
      have hpl := hplace i o u hs r v r1 h1 ht
      have hg := put1_get1 _ _ _ _ h1
      -- some cells of r1: their layout tells v's
      have hvu : hasTy v u = true := by
        -- the layout of a part, without its cells
        cases r with
        | node vs =>
          simp only [AV.put] at h1
          cases hvv : vs[i]? with
          | none => rw [hvv] at h1; cases h1
          | some v0 =>
            rw [hvv] at h1
            simp only [Option.map_some, Option.some.injEq] at h1
            subst h1
            have hi : i < vs.length := (List.getElem?_eq_some_iff.1 hvv).1
            cases t with
            | arr n u' =>
              simp [Ty.sub] at hs
              obtain ⟨_, rfl⟩ := hs
              obtain ⟨_, ha⟩ := hasTy_node_arr ht1
              rw [hasTyAll_iff] at ha
              exact ha v (List.mem_set hi v)
            | struct ts =>
              simp only [hasTy] at ht1
              obtain ⟨u', hu', hvu'⟩ := hasTys_get _ ts i v ht1 (by simp [hi])
              simp [Ty.sub, hu'] at hs
              rw [← hs.2]; exact hvu'
            | int k => simp [hasTy] at ht
            | cell => simp [hasTy, AV.oneCell] at ht
        | ints k xs =>
          simp only [AV.put] at h1
          cases v <;> simp at h1
          obtain ⟨⟨rfl, hi⟩, rfl⟩ := h1
          cases t with
          | arr n u' =>
            obtain ⟨rfl, _⟩ := hasTy_ints_arr ht
            simp [Ty.sub] at hs
            rw [← hs.2]; simp [hasTy]
          | _ => simp [hasTy, AV.oneCell] at ht
        | _ => simp [AV.put] at h1
      have hc := VRel.cells hvu hv
      obtain ⟨_, pre, mid, post, e1, e2, e3, e4⟩ := put_spec [i] r r1 v t h1 ht _ hl o u hs hvu _ hc
      have hlen := VRl.len v u _ hvu hc
      rw [Array.length_toList] at hlen
      have hsz : cells.size = pre.length + mid.length + post.length := by rw [← Array.length_toList, e1]; simp; omega
      have e3' : mid.length = x.cells.size := by rw [e3, Array.length_toList]
      have hset := foldl_set o x.cells.toList 0 cells (by rw [Array.length_toList]; omega)
      have hfold : ∃ cs : Array Value, x.cells.zipIdx.foldl (fun cs (c, j) => cs.setIfInBounds (o + j) c) cells = cs ∧ cs.toList = pre ++ x.cells.toList ++ post := by
        refine ⟨_, rfl, ?_⟩
        have : (x.cells.zipIdx.foldl (fun cs (c, j) => cs.setIfInBounds (o + j) c) cells) = ((x.cells.toList.zipIdx 0).foldl (fun cs (c, j) => cs.setIfInBounds (o + j) c) cells) := by
          rw [← Array.foldl_toList, Array.toList_zipIdx]
        rw [this, hset, e1, ← e2]
        simp only [Nat.add_zero, Array.length_toList]
        rw [show pre ++ mid ++ post = pre ++ (mid ++ post) by simp, List.take_left' rfl, List.drop_length_add_append, ← e3', List.drop_left' rfl]
      obtain ⟨cs, hcs, hcl⟩ := hfold
      obtain ⟨cells', f1, f2, f3⟩ := fill_sound hplace ps qs r1 r' cs h ht1 (by rw [hcl]; exact e4) hp
      refine ⟨cells', ?_, f2, f3⟩
      simp only [Instr.fill, hpl]
      have hc1 : (x.cells.size ≠ u.size || o + x.cells.size > cells.size) = false := by
        simp only [ne_eq, hlen, not_true_eq_false, decide_false, Bool.false_or, decide_eq_false_iff_not]
        omega
      simp only [Bool.or_eq_true, decide_eq_true_eq] at *
      rw [if_neg (by simpa using hc1), hcs]
      exact f1
    · cases h

theorem places_ok {P : Program} : ∀ (fs : List Field), (∀ (f : Nat) x, fs[f]? = some x → ∃ i, P.info? x.type = some i) →
    ∃ places, fs.mapM (fun f => (P.info? f.type).map fun i => (f.offset, i.size)) = some places ∧ ∀ (f : Nat) x, fs[f]? = some x → places[f]? = some (x.offset, P.cellsOf x.type)
  | [], _ => ⟨[], by simp, by simp⟩
  | f :: fs, h => by
    obtain ⟨i, hi⟩ := h 0 f rfl
    obtain ⟨ps, h1, h2⟩ := places_ok fs (fun g x hg => h (g + 1) x (by simpa using hg))
    refine ⟨(f.offset, i.size) :: ps, by simp [List.mapM_cons, hi, h1], fun g x hg => ?_⟩
    cases g with
    | zero => simp at hg; subst hg; simp [Program.cellsOf, hi]
    | succ g => simpa using h2 g x (by simpa using hg)

theorem build_sound {P : Program} {tt : Nat → Option TI} (T : TTok P tt) {E : Gh} {w : World} {t : Nat} {i : TI} (ht : tt t = some i) (hagg : i.ty.isAgg = true) {ps : List (Nat × AV)} {qs : Array (Nat × Value)} {v : AV} (hp : partsRel E ps qs.toList)
    (he : fillRow i.ty i.zero ps = some v) : ∃ y, (Instr.build t qs).run P w = .ok y w ∧ VRel E v y := by
  obtain ⟨f, z, hf, hfs, hfb, hz, hzr⟩ := T.info t i ht
  have hzt := T.zero t i ht
  have hzc := VRel.cells hzt (hzr E)
  cases hty : i.ty with
  | arr n u =>
    obtain ⟨e, j, hu, hej, hju⟩ := T.arr t i n u ht hty
    obtain ⟨fe, _, hfe, hfes, _⟩ := T.info e j hej
    rw [hty] at he hzt
    have key := fill_sound (E := E) (t := .arr n u) (place := fun k => some (k * fe.size, fe.size)) (fun k o u' hs _ _ _ _ _ => by
      simp [Ty.sub] at hs
      obtain ⟨rfl, rfl⟩ := hs
      rw [hfes, hju]) ps qs.toList i.zero v z.cells he hzt hzc hp
    obtain ⟨cells, g1, g2, g3⟩ := key
    refine ⟨.agg cells, run_build w t qs cells ?_, ?_⟩
    · simp only [Program.built, hf, hu, hz, hfe]; exact g1
    · have := VRel.of_cells g2 g3
      simpa [ofCells, Ty.isAgg] using this
  | struct ts =>
    obtain ⟨fs, hu, hsz, _, hfs'⟩ := T.struct t i ts ht hty
    obtain ⟨places, hp1, hp2⟩ := places_ok (P := P) fs.toList (fun g x hg => by
      obtain ⟨_, _, j, hj, _⟩ := hfs' g x (by simpa using hg)
      obtain ⟨q, _, hq, _⟩ := T.info _ j hj
      exact ⟨q, hq⟩)
    rw [hty] at he hzt
    have key := fill_sound (E := E) (t := .struct ts) (place := fun k => places[k]?) (fun k o u' hs r x r' hput htr => by
      simp only [Ty.sub] at hs
      cases hk : ts[k]? with
      | none => rw [hk] at hs; cases hs
      | some u =>
        rw [hk] at hs
        simp at hs
        obtain ⟨rfl, rfl⟩ := hs
        have hkl : k < fs.size := by rw [hsz]; exact (List.getElem?_eq_some_iff.1 hk).1
        have hpk := hp2 k fs[k] (by simp [hkl])
        obtain ⟨_, ho, j, hj, hju, _⟩ := hfs' k fs[k] (Array.getElem?_eq_getElem hkl)
        rw [hk] at hju
        have hju := Option.some.inj hju
        rw [hpk, ho, cellsOf_tt T hj, ← hju]) ps qs.toList i.zero v z.cells he hzt hzc hp
    obtain ⟨cells, g1, g2, g3⟩ := key
    refine ⟨.agg cells, run_build w t qs cells ?_, ?_⟩
    · simp only [Program.built, hf, hu, hz, hp1]
      have : (places.toArray[·]? : Nat → Option (Nat × Nat)) = fun k => places[k]? := by funext k; simp
      rw [this]; exact g1
    · have := VRel.of_cells g2 g3
      simpa [ofCells, Ty.isAgg] using this
  | int k => rw [hty] at hagg; cases hagg
  | cell => rw [hty] at hagg; cases hagg

end Go.Vab

/-
  Every operation but a call.
-/
namespace Go.Vab
open Go

/-- What an operation puts into its temporary. -/
def NextIs (n : Next) (x : Value) : Prop := n = .value x ∨ (n = .skip ∧ x = Go.undef)

theorem str_sound {P : Program} {tt : Nat → Option TI} (T : TTok P tt) {E : Gh} {h : Heap} {w : World} (R : RelHeap E h w) {s d e : Nat} {el : TI} (hs : P.underlying s = some (.slice e)) (hd : P.underlying d = some .string) (hel : tt e = some el)
    (hk : el.ty = .int .u8) {x v : AV} {xv : Value} (hx : VRel E x xv) (he0 : mStr x h = some v) :
    ∃ y, (convert s d xv).run P w = .ok y w ∧ VRel E v y := by
  have hns : ∀ b, x ≠ .str b := by rintro b rfl; simp [mStr] at he0
  have he : (bnd (mElems (.int .u8) x h) fun r => match r with | .ints _ xs => some (AV.str ⟨(xs.map fun n => UInt8.ofNat n.toNat).toArray⟩) | _ => none) = some v := by
    cases x <;> first | exact he0 | exact absurd rfl (hns _)
  obtain ⟨r, hr, he⟩ := bnd_eq_some.1 he
  obtain ⟨n, l, k1, k2, k3, k4, k5⟩ := elems_spec (P := P) R hr hx
  obtain ⟨_, hlr⟩ : True ∧ True := ⟨trivial, trivial⟩
  cases r with
  | ints k xs =>
    simp at he; subst he
    obtain ⟨hk8, hn⟩ := hasTy_ints_arr k2
    injection hk8 with hk8
    subst hk8
    simp only [VRl] at k3; subst k3
    have hue := T.int e el .u8 hel hk
    have conv : ∀ a l c, (convert s d (.slice a l c)).run P w = (Conv.bytesToString (.slice a l c)).run P w := fun a l c => run_convert_bytes_string w s d e a l c hs hue hd
    have hfc := k5 w rfl n (Nat.le_refl _)
    simp only [Ty.size, Nat.mul_one] at hfc
    rw [← hn, show xs.length = (xs.map (Value.int .u8)).length by simp, List.take_length] at hfc
    have fold : ∀ (ns : List Int) (s : ByteArray), (ns.foldl (fun r n => r.push (UInt8.ofNat n.toNat)) s).data.toList = s.data.toList ++ ns.map fun n => UInt8.ofNat n.toNat := by
      intro ns
      induction ns with
      | nil => intro s; simp
      | cons n ns ih => intro s; simp [ih]
    cases x with
    | nilslice =>
      simp only [VRel] at hx; subst hx
      simp [mElems] at hr
      subst hr
      refine ⟨.string .empty, ?_, ?_⟩
      · rw [conv]; rfl
      · simp only [VRel]; rfl
    | slice i ver path t' off len cap =>
      simp only [VRel] at hx
      obtain ⟨a, c, rfl, _⟩ := hx
      have hln : len = n := by
        simp only [Builtin.lenOf, Sem.run_pure] at k4
        injection k4
      refine ⟨.string (xs.foldl (fun r n => r.push (UInt8.ofNat n.toNat)) ByteArray.empty), ?_, ?_⟩
      · rw [conv, run_bytesToString w a len c xs]
        simpa [Builtin.firstCells, ← hn, hln] using hfc
      · simp only [VRel]
        congr 1
        have h1 := fold xs ByteArray.empty
        generalize List.foldl (fun r n => ByteArray.push r (UInt8.ofNat n.toNat)) ByteArray.empty xs = z at *
        cases z with
        | mk zd =>
          congr 1
          apply Array.ext'
          simpa using h1
    | str b => exact absurd rfl (hns b)
    | _ => simp [mElems] at hr
  | _ => simp at he

theorem make_sound {P : Program} {tt : Nat → Option TI} (T : TTok P tt) {E : Gh} {h : Heap} {w : World} (R : RelHeap E h w) {t e : Nat} {el : TI} (hu : P.underlying t = some (.slice e)) (hel : tt e = some el) (hne : el.ty.size ≠ 0)
    {l c v : AV} {lv cv : Value} {h' : Heap} (hl : VRel E l lv) (hc : VRel E c cv) (he : mMake el.ty el.bytes el.zero l c h = some (v, h')) :
    ∃ E' w' y, (Instr.makeSlice t lv cv).run P w = .ok y w' ∧ VRel E' v y ∧ Moves E h w E' h' w' := by
  unfold mMake at he
  split at he
  · rename_i k1 n k2 m
    split at he
    · rename_i hcond
      obtain ⟨h0, hnm, hmb, hmr, hzt⟩ := hcond
      simp only [VRel] at hl hc; subst hl; subst hc
      obtain ⟨n, rfl⟩ := Int.eq_ofNat_of_zero_le h0
      obtain ⟨m, rfl⟩ := Int.eq_ofNat_of_zero_le (show 0 ≤ m by omega)
      simp only [Int.toNat_natCast] at he
      obtain ⟨f, z, hf, hfs, hfb, hz, hzr⟩ := T.info e el hel
      have hzt := T.zero e el hel
      have hzc := VRel.cells hzt (hzr E)
      have hzl := VRl.len _ _ _ hzt hzc
      rw [Array.length_toList] at hzl
      have hti : ∀ w, (typeInfo e).run P w = .ok f w := fun w => by simp [typeInfo, hf]
      have hwm : IntKind.i64.wrap (m : Int) = m := by
        unfold roomBound at hmr
        unfold IntKind.wrap
        simp [IntKind.bits, IntKind.signed]; omega
      have hwn : IntKind.i64.wrap (n : Int) = n := by
        unfold roomBound at hmr
        unfold IntKind.wrap
        simp [IntKind.bits, IntKind.signed]; omega
      have hbytes : ¬ ((f.bytes : Int) * (m : Int) > 2 ^ 48) := by
        rw [hfb]
        unfold roomBound at hmb
        have : (m : Int) * (el.bytes : Int) = (el.bytes : Int) * (m : Int) := Int.mul_comm _ _
        omega
      -- the new cells
      have hrep : ∀ q : Nat, ∃ l, VRl E (match el.zero with | .int k z => .ints k (List.replicate q z) | z => .node (List.replicate q z)) l ∧ l.length = q * el.ty.size ∧
          hasTy (match el.zero with | .int k z => AV.ints k (List.replicate q z) | z => .node (List.replicate q z)) (.arr q el.ty) = true ∧ l = ((List.range (q * el.ty.size)).map fun x => z.cells[x % z.cells.size]!) := by
        intro q
        have hflat : ∀ q : Nat, (List.range (q * z.cells.size)).map (fun x => z.cells[x % z.cells.size]!) = (List.replicate q z.cells.toList).flatten := by
          intro q
          induction q with
          | zero => simp
          | succ q ih =>
            rw [Nat.succ_mul, Nat.add_comm, List.range_add, List.map_append, List.replicate_succ, List.flatten_cons]
            congr 1
            · apply List.ext_getElem?
              intro k
              by_cases hk : k < z.cells.size
              · simp [hk, Nat.mod_eq_of_lt hk]
              · simp [hk]
            · rw [← ih, List.map_map]
              apply List.map_congr_left
              intro x _
              simp [Nat.add_mod_left]
        cases hzz : el.zero with
        | int k z0 =>
          have hk : el.ty = .int k := by rw [hzz] at hzt; cases hx : el.ty <;> rw [hx] at hzt <;> simp [hasTy, AV.oneCell] at hzt; rw [hzt]
          have hzv : z = .int k z0 := by have := hzr E; rw [hzz] at this; simpa only [VRel] using this
          refine ⟨(List.replicate q z0).map (Value.int k), by simp only [VRl], by simp [hk, Ty.size], by rw [hk]; simp [hasTy], ?_⟩
          rw [hk, hzv]
          simp [Ty.size, Value.cells, Nat.mod_one]
          rw [List.map_const']; simp
        | _ =>
          have hnode : ∀ (zz : AV), el.zero = zz → (∀ k n, zz ≠ .int k n) → ∃ l, VRl E (.node (List.replicate q zz)) l ∧ l.length = q * el.ty.size ∧ hasTy (.node (List.replicate q zz)) (.arr q el.ty) = true ∧
              l = ((List.range (q * el.ty.size)).map fun x => z.cells[x % z.cells.size]!) := by
            intro zz hzz hni
            have hv : ∀ q, VRs E (List.replicate q zz) ((List.replicate q z.cells.toList).flatten) := by
              intro q
              induction q with
              | zero => simp [VRs]
              | succ q ih =>
                rw [List.replicate_succ, List.replicate_succ, List.flatten_cons]
                exact VRs.cons (by rw [← hzz]; exact hzc) ih
            refine ⟨(List.replicate q z.cells.toList).flatten, by simp only [VRl]; exact hv q, ?_, ?_, ?_⟩
            · simp [hzl]
            · have hall : hasTyAll (List.replicate q zz) el.ty = true := by
                rw [hasTyAll_iff]; intro v hv
                rw [List.eq_of_mem_replicate hv, ← hzz]; exact hzt
              rw [hzz] at hzt
              cases hx : el.ty with
              | int k =>
                rw [hx] at hzt
                cases zz <;> simp [hasTy] at hzt
                exact absurd rfl (hni _ _)
              | _ => rw [hx] at hall; simp only [hasTy, Bool.and_eq_true, decide_eq_true_eq]; exact ⟨by simp, hall⟩
            · rw [← hzl]; exact (hflat q).symm
          exact hnode _ hzz (by simp)
      obtain ⟨cl, c1, c2, c3, c4⟩ := hrep m
      have he1 := Option.some.inj he
      obtain ⟨e1, e2⟩ := Prod.mk.inj he1
      subst e1; subst e2
      refine ⟨E.push w.heap.size cl.length 0 true (.arr 0 el.ty), { w with heap := w.heap.push (.cells cl.toArray e (0, 0)) }, .slice (some ⟨w.heap.size, 0, none⟩) n m, ?_, ?_, ?_⟩
      · have htl : (decide ((m : Int) < 0) || decide ((f.bytes : Int) * (m : Int) > 2 ^ 48)) = false := by
          rw [Bool.or_eq_false_iff]; exact ⟨by simp, by simpa using hbytes⟩
        have hln : decide ((n : Int) < 0) = false := by simp
        have hgt : decide ((n : Int) > (m : Int)) = false := by simp; omega
        simp only [Instr.makeSlice, Sem.run_bind, run_underlying hu w, Result.andThen_ok, asInt, asIntOf, Sem.run_pure, hti, hwm, hwn, htl, hln, hgt, Bool.or_self, Bool.false_eq_true, if_false, run_askRoom, Int.toNat_natCast, run_sizeOf_tt T hel w]
        by_cases hz0 : m * el.ty.size = 0
        · have hcl : cl = [] := List.eq_nil_of_length_eq_zero (by rw [c2]; exact hz0)
          subst hcl
          simp [hz0, newRow]
          congr 2
          apply Array.ext'
          simp
        · have hzv : (zeroValue e).run P w = .ok z w := by simp [zeroValue, hti, hz]
          simp only [hz0, if_false, Sem.run_bind, hzv, Result.andThen_ok, Sem.run_pure, newRow, run_newObj]
          have : (Array.range (m * el.ty.size)).map (fun x => z.cells[x % z.cells.size]!) = cl.toArray := by
            apply Array.ext'
            rw [c4]; simp
          rw [this]
      · simp only [VRel]
        refine ⟨_, m, rfl, by simp [Gh.push, R.n], by simp [Gh.push, R.n], by omega, fun x hx => by simpa using hx, fun hx => (by cases hx), fun _ => ⟨0, 0, by simp [Gh.push, R.n, Ty.sub], fun _ => by simp [Gh.push, R.n], fun hx => (by cases hx)⟩⟩
      · exact moves_push R ⟨_, 0, .own⟩ cl.length true (.arr 0 el.ty) (by simp) (by simp only [if_true]; exact ⟨m, _, rfl, c3⟩) (by simp) c1 (.inl ⟨cl.toArray, e, (0, 0), [], rfl, by simp, by simp, by simp⟩) ⟨rfl, rfl, rfl⟩
    · cases he
  · cases he

end Go.Vab

/-
  Every operation but a call of a Go function, at the model's own step.
-/
namespace Go.Vab
open Go

section
variable {P : Program} {C : Ctx} (T : TTok P C.tt) {E : Gh} {h : Heap} {w : World} (R : RelHeap E h w)

theorem withTy_some {α : Type} {t : Nat} {f : TI → Option α} {a : α} (h : withTy C t f = some a) : ∃ i, C.tt t = some i ∧ f i = some a := by
  unfold withTy at h
  split at h
  · exact ⟨_, by assumption, h⟩
  · cases h

theorem pureV_some {h h' : Heap} {x : Option AV} {v : AV} (he : pureV h x = some (v, h')) : x = some v ∧ h' = h := by
  unfold pureV at he
  obtain ⟨a, h1, h2⟩ := bnd_eq_some.1 he
  simp at h2
  exact ⟨by rw [h1, h2.1], h2.2.symm⟩

theorem optRel_map {V : Operand → AV} {ev : Operand → Value} (hV : ∀ x, VRel E (V x) (ev x)) (o : Option Operand) : optRel E (o.map V) (o.map ev) := by
  cases o <;> simp [optRel, hV]

theorem partsRel_map {V : Operand → AV} {ev : Operand → Value} (hV : ∀ x, VRel E (V x) (ev x)) : ∀ (l : List (Nat × Operand)), partsRel E (l.map fun p => (p.1, V p.2)) (l.map fun p => (p.1, ev p.2))
  | [] => trivial
  | (_, x) :: l => ⟨rfl, hV x, partsRel_map hV l⟩

theorem un_sound {P : Program} {w : World} {E : Gh} {op : UnOp} {x v : AV} {xv : Value} (hx : VRel E x xv) (he : mUn op x = some v) : ∃ y, (Op.unary op xv).run P w = .ok y w ∧ VRel E v y := by
  cases op <;> cases x <;> simp [mUn] at he <;> subst he <;> simp only [VRel] at hx <;> subst hx <;> simp only [VRel] <;> refine ⟨_, ?_, rfl⟩ <;> simp [Op.unary, Op.intArith, Op.intBits]

theorem makeFunc_rel {V : Operand → AV} {ev : Operand → Value} (hV : ∀ x, VRel E (V x) (ev x)) : ∀ (l : List Operand), VRc E (l.map V) (l.map ev)
  | [] => by simp [VRc]
  | x :: l => by simp only [List.map_cons, VRc]; exact ⟨_, _, rfl, hV x, makeFunc_rel hV l⟩

include T R

theorem builtin_sound {b : Builtin} {ats : Array TypeId} {ty : TypeId} {consts : Array Bool} {as : List AV} {xs : List Value} (has : VRc E as xs) {v : AV} {h' : Heap} (he : evBuiltin C b ats as h = some (v, h')) :
    ∃ E' w' y, (builtin b ats ty consts xs.toArray).run P w = .ok (.value y) w' ∧ VRel E' v y ∧ Moves E h w E' h' w' := by
  unfold evBuiltin at he
  split at he
  · -- len
    rename_i x
    simp only [VRc] at has
    obtain ⟨xv, l, rfl, hx, rfl⟩ := has
    split at he
    · rename_i t ht
      obtain ⟨i, hi, he⟩ := withTy_some he
      have main : ∀ y, (Builtin.len_ ats ty #[xv]).run P w = .ok y w → VRel E v y → h' = h → ∃ E' w' y, (builtin .len ats ty consts #[xv]).run P w = .ok (.value y) w' ∧ VRel E' v y ∧ Moves E h w E' h' w' := by
        intro y h1 h2 h3
        subst h3
        exact ⟨E, w, y, by simp [builtin, h1], h2, Moves.refl R⟩
      have hat : ats[0]? = some t := ht
      split at he
      · rename_i n u hty
        simp at he; obtain ⟨rfl, rfl⟩ := he
        obtain ⟨e, j, hu, _⟩ := T.arr t i n u hi hty
        exact main (goInt n) (by simp [Builtin.len_, hat, run_underlying hu w]) (by simp only [VRel]; rfl) rfl
      · split at he
        · rename_i e hel
          obtain ⟨h1, rfl⟩ := pureV_some he
          obtain ⟨hu, _⟩ := T.elem t i e hi hel
          cases x <;> simp [mLenS] at h1
          · subst h1
            simp only [VRel] at hx; subst hx
            exact main (goInt 0) (by simp [Builtin.len_, hat, run_underlying hu w]) (by simp only [VRel]; rfl) rfl
          · subst h1
            simp only [VRel] at hx
            obtain ⟨a, c, rfl, _⟩ := hx
            exact main _ (by simp [Builtin.len_, hat, run_underlying hu w]; rfl) (by simp only [VRel]; rfl) rfl
        · split at he
          · rename_i hstr
            obtain ⟨h1, rfl⟩ := pureV_some he
            have hu := T.str t i hi hstr
            cases x <;> simp [mLenT] at h1
            subst h1
            simp only [VRel] at hx; subst hx
            exact main _ (by simp [Builtin.len_, hat, run_underlying hu w]; rfl) (by simp only [VRel]; rfl) rfl
          · cases he
    · cases he
  · -- append
    rename_i s x
    simp only [VRc] at has
    obtain ⟨sv, l, rfl, hs, xv, l, rfl, hx, rfl⟩ := has
    split at he
    · rename_i t u ht hu'
      obtain ⟨i, hi, he⟩ := withTy_some he
      obtain ⟨j, hj, he⟩ := withTy_some he
      split at he
      · rename_i e hel hjt
        obtain ⟨el, he1, he⟩ := withTy_some he
        obtain ⟨hu, el', hel', hne⟩ := T.elem t i e hi hel
        rw [he1] at hel'; injection hel' with hel'; subst hel'
        obtain ⟨d, hd, _, _, hdi, _⟩ := T.cell u j hj hjt
        obtain ⟨E', w', y, h1, h2, h3⟩ := append_sound T R (ats := ats) (ty := ty) ht hu' hu he1 hne hd hdi hs hx he
        exact ⟨E', w', y, by simp [builtin, h1], h2, h3⟩
      · cases he
    · cases he
  · -- copy
    rename_i d x
    simp only [VRc] at has
    obtain ⟨dv, l, rfl, hd, xv, l, rfl, hx, rfl⟩ := has
    split at he
    · rename_i t ht
      obtain ⟨i, hi, he⟩ := withTy_some he
      split at he
      · rename_i e hel
        obtain ⟨el, he1, he⟩ := withTy_some he
        obtain ⟨hu, _⟩ := T.elem t i e hi hel
        obtain ⟨w', y, h1, h2, h3⟩ := copy_sound T R (ats := ats) (ty := ty) ht hu he1 hd hx he
        exact ⟨E, w', y, by simp [builtin, h1], h2, h3⟩
      · cases he
    · cases he
  · -- min
    rename_i x y
    obtain ⟨h1, rfl⟩ := pureV_some he
    unfold mMin at h1
    split at h1
    · rename_i k a k' b
      simp only [VRc, VRel] at has
      obtain ⟨_, l, rfl, rfl, _, l, rfl, rfl, rfl⟩ := has
      split at h1
      · rename_i hk; subst hk
        simp at h1; subst h1
        refine ⟨E, w, .int k (if b < a then b else a), ?_, by simp only [VRel], Moves.refl R⟩
        simp [builtin, Builtin.min_, Builtin.min2]
      · cases h1
    · cases h1
  · cases he

end

end Go.Vab

/-
  Every operation but a call of a Go function: joined.
-/
namespace Go.Vab
open Go

theorem evOp_sound {P : Program} {C : Ctx} (T : TTok P C.tt) {E : Gh} {h : Heap} {w : World} (R : RelHeap E h w) {quiet : Bool} {V : Operand → AV} {ev : Operand → Value} (hV : ∀ x, VRel E (V x) (ev x)) {o : Oper} {v : AV} {h' : Heap}
    (he : evOp C quiet V h o.op = some (v, h')) (hnc : ∀ c f, o.op = .call c → c.callee ≠ .value f) :
    ∃ E' w' n x, (execOp ev o).run P w = .ok n w' ∧ NextIs n x ∧ VRel E' v x ∧ Moves E h w E' h' w' := by
  have pure_ok : ∀ y, h' = h → VRel E v y → (execOp ev o).run P w = .ok (.value y) w → ∃ E' w' n x, (execOp ev o).run P w = .ok n w' ∧ NextIs n x ∧ VRel E' v x ∧ Moves E h w E' h' w' := by
    intro y h1 h2 h3
    subst h1
    exact ⟨E, w, _, y, h3, .inl rfl, h2, Moves.refl R⟩
  cases hop : o.op with
  | move x =>
    rw [hop] at he; simp [evOp] at he; obtain ⟨rfl, rfl⟩ := he
    exact pure_ok _ rfl (hV x) (by simp [execOp, hop])
  | assign x =>
    rw [hop] at he; simp [evOp] at he; obtain ⟨rfl, rfl⟩ := he
    exact pure_ok _ rfl (hV x) (by simp [execOp, hop])
  | pick c a b =>
    rw [hop] at he; simp only [evOp] at he
    obtain ⟨hp1, hh⟩ := pureV_some he
    clear he
    subst hh
    unfold mPick at hp1
    split at hp1
    · rename_i t ht
      have hp2 := Option.some.inj hp1
      subst hp2
      have hc := hV c
      rw [ht] at hc; simp only [VRel] at hc
      cases t
      · exact pure_ok (ev b) rfl (by simpa using hV b) (by simp [execOp, hop, hc, asBool])
      · exact pure_ok (ev a) rfl (by simpa using hV a) (by simp [execOp, hop, hc, asBool])
    · cases hp1
  | alloc e =>
    rw [hop] at he; simp only [evOp] at he
    obtain ⟨i, hi, he⟩ := withTy_some he
    obtain ⟨z, hz, hzr⟩ := run_zero_tt T hi w
    obtain ⟨E', w', a, h1, h2, h3⟩ := new_sound (P := P) R (t := e) (hzr E) he
    exact ⟨E', w', _, _, by simp [execOp, hop, Instr.alloc, hz, h1], .inl rfl, h2, h3⟩
  | box e x =>
    rw [hop] at he; simp only [evOp] at he
    obtain ⟨i, hi, he⟩ := withTy_some he
    obtain ⟨E', w', a, h1, h2, h3⟩ := new_sound (P := P) R (t := e) (hV x) he
    exact ⟨E', w', _, _, by simp [execOp, hop, Instr.box, h1], .inl rfl, h2, h3⟩
  | build t parts =>
    rw [hop] at he; simp only [evOp] at he
    obtain ⟨i, hi, he⟩ := withTy_some he
    obtain ⟨h1, hh⟩ := pureV_some he
    split at h1
    · rename_i hagg
      obtain ⟨y, h2, h3⟩ := build_sound T (w := w) hi hagg (qs := parts.map fun (i, x) => (i, ev x)) (by rw [Array.toList_map]; exact partsRel_map hV _) h1
      exact pure_ok y hh h3 (by simp only [execOp, hop]; simp [h2])
    · cases h1
  | buildSlice t len parts =>
    rw [hop] at he; simp only [evOp] at he
    obtain ⟨i, hi, he⟩ := withTy_some he
    split at he
    · rename_i e hel
      obtain ⟨el, he1, he⟩ := withTy_some he
      unfold mBuildSlice at he
      obtain ⟨r, hr, he⟩ := bnd_eq_some.1 he
      split at he
      · rename_i hcond
        rw [Bool.and_eq_true, decide_eq_true_eq] at hcond
        obtain ⟨hrow, hsm⟩ := hcond
        obtain ⟨hu, _⟩ := T.elem t i e hi hel
        obtain ⟨z, hz, hzr⟩ := run_zero_tt T he1 w
        have hzt := T.zero e el he1
        have hzc := VRel.cells hzt (hzr E)
        have hzl := VRl.len _ _ _ hzt hzc
        rw [Array.length_toList] at hzl
        -- the zero row's cells
        have hflat : ∀ q : Nat, (List.range (q * z.cells.size)).map (fun x => z.cells[x % z.cells.size]!) = (List.replicate q z.cells.toList).flatten := by
          intro q
          induction q with
          | zero => simp
          | succ q ih =>
            rw [Nat.succ_mul, Nat.add_comm, List.range_add, List.map_append, List.replicate_succ, List.flatten_cons]
            congr 1
            · apply List.ext_getElem?
              intro k
              by_cases hk : k < z.cells.size
              · simp [hk, Nat.mod_eq_of_lt hk]
              · simp [hk]
            · rw [← ih, List.map_map]
              apply List.map_congr_left
              intro x _
              simp [Nat.add_mod_left]
        have hrep : VRl E (zeroRow len el.zero) ((List.replicate len z.cells.toList).flatten) := by
          unfold zeroRow
          split
          · rename_i k z0 hzz
            have hzv : z = .int k z0 := by have := hzr E; rw [hzz] at this; simpa only [VRel] using this
            simp only [VRl]
            rw [hzv]; simp [Value.cells]
          · simp only [VRl]
            have hv : ∀ q, VRs E (List.replicate q el.zero) ((List.replicate q z.cells.toList).flatten) := by
              intro q
              induction q with
              | zero => simp [VRs]
              | succ q ih =>
                rw [List.replicate_succ, List.replicate_succ, List.flatten_cons]
                exact VRs.cons hzc ih
            exact hv len
        have key := fill_sound (E := E) (t := .arr len el.ty) (place := fun k => some (k * el.ty.size, el.ty.size)) (fun k o u' hs _ _ _ _ _ => by
          simp [Ty.sub] at hs
          obtain ⟨rfl, rfl⟩ := hs
          rfl) _ (parts.map fun (i, x) => (i, ev x)).toList _ _ ((Array.range (len * el.ty.size)).map fun x => z.cells[x % z.cells.size]!) hr hrow (by
            rw [Array.toList_map, Array.toList_range, ← hzl, hflat len]; exact hrep) (by rw [Array.toList_map]; exact partsRel_map hV _)
        obtain ⟨cells, g1, g2, g3⟩ := key
        have he3 := Prod.mk.inj (Option.some.inj he)
        obtain ⟨e1, e2⟩ := he3
        subst e1; subst e2
        refine ⟨E.push w.heap.size cells.size 0 true (.arr 0 el.ty), { w with heap := w.heap.push (.cells cells e (0, 0)) }, .value (.slice (some ⟨w.heap.size, 0, none⟩) len len), _, ?_, .inl rfl, ?_, ?_⟩
        · have hns : ¬ (len * el.ty.size > 2 ^ 24) := by omega
          simp only [execOp, hop, Instr.buildSlice, Sem.run_bind, run_underlying hu w, Result.andThen_ok, run_sizeOf_tt T he1 w, hns, if_false]
          by_cases hz0 : len * el.ty.size = 0
          · have hcells : ∀ (zz : Array Value), ((Array.range (len * el.ty.size)).map fun x => zz[x % zz.size]!) = ((Array.range (len * el.ty.size)).map fun x => z.cells[x % z.cells.size]!) := by
              intro zz
              apply Array.ext'
              simp [hz0]
            rw [if_pos hz0]
            simp only [Sem.run_bind, Sem.run_pure, Result.andThen_ok]
            rw [hcells #[], g1]
            simp only [newRow, Sem.run_bind, run_newObj, Result.andThen_ok, Sem.run_pure]
          · simp only [hz0, if_false, Sem.run_bind, hz, Result.andThen_ok, Sem.run_pure, g1, newRow, run_newObj]
        · simp only [VRel]
          refine ⟨_, len, rfl, by simp [Gh.push, R.n], by simp [Gh.push, R.n], Nat.le_refl _, fun x hx => by simpa using hx, fun hx => (by cases hx), fun _ => ⟨0, 0, by simp [Gh.push, R.n, Ty.sub], fun _ => by simp [Gh.push, R.n], fun hx => (by cases hx)⟩⟩
        · exact moves_push R ⟨_, 0, .own⟩ cells.size true (.arr 0 el.ty) (by simp) (by simp only [if_true]; exact ⟨len, _, rfl, g2⟩) (by simp) g3 (.inl ⟨cells, e, (0, 0), [], rfl, by simp, by simp, by simp⟩) ⟨rfl, rfl, rfl⟩
      · cases he
    · cases he
  | load t p =>
    rw [hop] at he; simp only [evOp] at he
    obtain ⟨i, hi, he⟩ := withTy_some he
    obtain ⟨h1, hh⟩ := pureV_some he
    have hp := hV p
    cases hpv : V p with
    | win b ver path t' off n =>
      rw [hpv] at h1 hp
      simp only [mLoad] at h1
      split at h1
      · rename_i hbt
        obtain ⟨y, h2, h3⟩ := win_load T R hi hbt hp h1
        exact pure_ok y hh h3 (by simp [execOp, hop, h2])
      · cases h1
    | _ =>
      rw [hpv] at h1 hp
      obtain ⟨y, h2, h3⟩ := load_sound T R hi (by first | exact hp) h1 (by simp)
      exact pure_ok y hh h3 (by simp [execOp, hop, h2])
  | store t p x =>
    rw [hop] at he; simp only [evOp] at he
    obtain ⟨i, hi, he⟩ := withTy_some he
    unfold stU at he
    obtain ⟨h1, hs, he⟩ := bnd_eq_some.1 he
    simp at he; obtain ⟨rfl, rfl⟩ := he
    obtain ⟨w', h2, h3⟩ := store_sound T R hi (hV p) (hV x) hs
    exact ⟨E, w', .skip, Go.undef, by simp [execOp, hop, h2], .inr ⟨rfl, rfl⟩, by simp only [VRel], h3⟩
  | nilCheck x =>
    rw [hop] at he; simp only [evOp] at he
    obtain ⟨h1, hh⟩ := pureV_some he
    have hx := hV x
    cases hxv : V x <;> rw [hxv] at h1 hx <;> simp [mNilCheck] at h1
    · subst h1
      have hx2 := hx
      simp only [VRel] at hx2
      obtain ⟨a, ha, _⟩ := hx2
      exact pure_ok (ev x) hh hx (by simp [execOp, hop, ha])
    · subst h1
      have hx2 := hx
      simp only [VRel] at hx2
      obtain ⟨cs, ha, _⟩ := hx2
      exact pure_ok (ev x) hh hx (by simp [execOp, hop, ha])
  | binOp op t x y yt =>
    rw [hop] at he; simp only [evOp] at he
    obtain ⟨i, hi, he⟩ := withTy_some he
    obtain ⟨h1, hh⟩ := pureV_some he
    have fin : (∃ z, ((do eqGuard op t x y (ev x) (ev y); binOp op t (ev x) (ev y) : Sem Value)).run P w = .ok z w ∧ VRel E v z) → ∃ E' w' n x, (execOp ev o).run P w = .ok n w' ∧ NextIs n x ∧ VRel E' v x ∧ Moves E h w E' h' w' := by
      rintro ⟨z, h2, h3⟩
      refine pure_ok z hh h3 ?_
      simp only [execOp, hop]
      rw [Sem.run_bind, h2]
      rfl
    unfold binAny at h1
    split at h1
    · rename_i n u hty; exact fin (eq_bin T hi (by rw [hty]; rfl) (hV x) (hV y) (by rw [hty]; exact h1))
    · rename_i ts hty; exact fin (eq_bin T hi (by rw [hty]; rfl) (hV x) (hV y) (by rw [hty]; exact h1))
    · exact fin (bin_int (hV x) (hV y) h1)
    · split at h1
      · rename_i e hel; exact fin (bin_slc (T.elem t i e hi hel).1 (hV x) (hV y) h1)
      · split at h1
        · rename_i a hpt; exact fin (bin_ptr (T.pt t i a hi hpt) (hV x) (hV y) h1)
        · split at h1
          · exact fin (bin_str (hV x) (hV y) h1)
          · split at h1
            · rename_i hb; exact fin (bin_bool (T.bool t i hi hb) (hV x) (hV y) h1)
            · cases h1
  | unOp op t x =>
    rw [hop] at he; simp only [evOp] at he
    obtain ⟨h1, hh⟩ := pureV_some he
    obtain ⟨y, h2, h3⟩ := un_sound (P := P) (w := w) (hV x) h1
    exact pure_ok y hh h3 (by simp [execOp, hop, h2])
  | convert s t x =>
    rw [hop] at he; simp only [evOp] at he
    obtain ⟨i, hi, he⟩ := withTy_some he
    obtain ⟨j, hj, he⟩ := withTy_some he
    split at he
    · rename_i k hk
      obtain ⟨h1, hh⟩ := pureV_some he
      have hu := T.int t i k hi (T.kind t i k hi hk)
      obtain ⟨d, hd, _⟩ := T.und hj
      cases hxv : V x <;> rw [hxv] at h1 <;> simp [mConv] at h1
      rename_i k' n
      subst h1
      have hx := hV x
      rw [hxv] at hx; simp only [VRel] at hx
      refine pure_ok (.int k (k.wrap n)) hh (by simp only [VRel]) ?_
      simp [execOp, hop, convert, run_underlying hd w, run_underlying hu w, hx, Conv.intToInt]
    · split at he
      · rename_i e hstr hel
        obtain ⟨el, he1, he⟩ := withTy_some he
        split at he
        · rename_i hk8
          obtain ⟨h1, hh⟩ := pureV_some he
          obtain ⟨y, h2, h3⟩ := str_sound T R (T.elem s j e hj hel).1 (T.str t i hi hstr) he1 (T.kind e el .u8 he1 hk8) (hV x) h1
          exact pure_ok y hh h3 (by simp [execOp, hop, h2])
        · cases he
      · cases he
  | sliceToArrayPointer t x =>
    rw [hop] at he; simp only [evOp] at he
    obtain ⟨i, hi, he⟩ := withTy_some he
    split at he
    · rename_i n u hty
      obtain ⟨h1, hh⟩ := pureV_some he
      obtain ⟨e, j, hu, _⟩ := T.arr t i n u hi hty
      have hx := hV x
      cases hxv : V x <;> rw [hxv] at h1 hx <;> simp [mArrayAt] at h1
      rename_i b ver path t' off len cap
      obtain ⟨⟨⟨hb, hle⟩, h0⟩, rfl⟩ := h1
      have hte := Ty.beq_eq _ _ hb
      subst hte
      simp only [VRel] at hx
      obtain ⟨a, c, ha, g1, g2, g3, g4, g5, g6⟩ := hx
      refine pure_ok (.pointer (some a)) hh ?_ ?_
      · simp only [VRel]
        refine ⟨a, rfl, g1, g2, fun hv => ?_⟩
        obtain ⟨o, q, s1, s2, _⟩ := g6 hv
        exact ⟨o, q, s1, s2 (by omega)⟩
      · have hnl : ¬ len < n := by omega
        simp [execOp, hop, Instr.arrayAt, run_underlying hu w, ha, hnl]
    · cases he
  | makeFunc fn first caps =>
    rw [hop] at he; simp only [evOp] at he
    cases fn with
    | func f =>
      simp only at he
      split at he
      · rename_i hf
        simp at he; obtain ⟨rfl, rfl⟩ := he
        have hfirst : first = #[] := Array.eq_empty_of_size_eq_zero hf
        subst hfirst
        refine pure_ok (.func (.func f) #[] (caps.map ev)) rfl ?_ (by simp only [execOp, hop, Instr.makeFunc, Sem.run_bind, Sem.run_pure, Result.andThen_ok, Array.map_empty])
        simp only [VRel]
        exact ⟨caps.toList.map ev, by congr 1; apply Array.ext'; simp, makeFunc_rel hV _⟩
      · cases he
    | _ => simp at he
  | makeSlice t l c =>
    rw [hop] at he; simp only [evOp] at he
    obtain ⟨i, hi, he⟩ := withTy_some he
    split at he
    · rename_i e hel
      obtain ⟨el, he1, he⟩ := withTy_some he
      obtain ⟨hu, j, hj, hne⟩ := T.elem t i e hi hel
      rw [he1] at hj; injection hj with hj; subst hj
      obtain ⟨E', w', y, h1, h2, h3⟩ := make_sound T R hu he1 hne (hV l) (hV c) he
      exact ⟨E', w', _, y, by simp [execOp, hop, h1], .inl rfl, h2, h3⟩
    · cases he
  | slice t x lo hi mx =>
    rw [hop] at he; simp only [evOp] at he
    split at he
    · cases he
    · rename_i hsome
      obtain ⟨i, hi', he⟩ := withTy_some he
      have hsome' : ¬ ((mx.map V).isSome = true ∧ (hi.map V).isNone = true) := by simpa using hsome
      have hlo := optRel_map hV lo
      have hhi := optRel_map hV hi
      have hmx := optRel_map hV mx
      split at he
      · rename_i n u hty
        obtain ⟨h1, hh⟩ := pureV_some he
        obtain ⟨e, j, hu, hej, hju⟩ := T.arr t i n u hi' hty
        obtain ⟨a, l, q, m, r1, r2, r3⟩ := sliceA_sound T (w := w) hlo hhi hmx hsome' rfl hej hju (hV x) h1
        refine pure_ok _ hh r3 ?_
        simp [execOp, hop, Instr.sliceAt, run_underlying hu w, r2, Instr.sureAddr, r1, run_sizeOf_tt T hej w]
      · split at he
        · rename_i e hel
          obtain ⟨el, he1, he⟩ := withTy_some he
          obtain ⟨h1, hh⟩ := pureV_some he
          obtain ⟨y, h2, h3⟩ := sliceS_sound T (w := w) hlo hhi hmx hsome' he1 (T.elem t i e hi' hel).1 (hV x) h1
          exact pure_ok y hh h3 (by simp [execOp, hop, h2])
        · split at he
          · rename_i a hpt
            obtain ⟨j, hj, he⟩ := withTy_some he
            obtain ⟨h1, hh⟩ := pureV_some he
            have hu := T.pt t i a hi' hpt
            cases hjt : j.ty with
            | arr n u =>
              obtain ⟨e, k, hua, hek, hku⟩ := T.arr a j n u hj hjt
              rw [hjt] at h1
              obtain ⟨a', l, q, m, r1, r2, r3⟩ := sliceA_sound T (w := w) hlo hhi hmx hsome' rfl hek hku (hV x) h1
              refine pure_ok _ hh r3 ?_
              simp [execOp, hop, Instr.sliceAt, Instr.slice, run_underlying hu w, run_underlying hua w, r2, asAddr, r1, run_sizeOf_tt T hek w]
            | _ => rw [hjt] at h1; cases hxv : V x <;> rw [hxv] at h1 <;> simp [mSliceA] at h1
          · cases hstr : i.str with
            | false => rw [hstr] at he; simp at he
            | true =>
              rw [hstr] at he
              cases mx with
              | some _ => simp at he
              | none =>
              simp only at he
              obtain ⟨h1, hh⟩ := pureV_some he
              have hu := T.str t i hi' hstr
              have hx := hV x
              cases hxv : V x <;> rw [hxv] at h1 hx <;> simp only [mSliceT] at h1 <;> try (cases h1; done)
              rename_i s
              obtain ⟨q, hq, h1⟩ := bnd_eq_some.1 h1
              obtain ⟨l, hl, h1⟩ := bnd_eq_some.1 h1
              simp at h1; subst h1
              simp only [VRel] at hx
              obtain ⟨r1, _⟩ := bounds_run (P := P) (w := w) (isS := false) (len := s.size) (m := s.size) hlo hhi (mx := none) (mx' := none) trivial (by simp) (Nat.le_refl s.size) rfl (by simpa using hq) hl
              refine pure_ok (.string (s.extract l q)) hh (by simp only [VRel]) ?_
              simp [execOp, hop, Instr.sliceAt, Instr.slice, run_underlying hu w, hx, r1]
  | fieldAddr s x f =>
    rw [hop] at he; simp only [evOp] at he
    obtain ⟨i, hi, he⟩ := withTy_some he
    obtain ⟨h1, hh⟩ := pureV_some he
    obtain ⟨y, h2, h3⟩ := fieldAddr_sound T (w := w) hi (hV x) h1
    exact pure_ok y hh h3 (by simp [execOp, hop, h2])
  | field s x f =>
    rw [hop] at he; simp only [evOp] at he
    obtain ⟨i, hi, he⟩ := withTy_some he
    obtain ⟨h1, hh⟩ := pureV_some he
    obtain ⟨y, h2, h3⟩ := field_sound T (w := w) hi (hV x) h1
    exact pure_ok y hh h3 (by simp [execOp, hop, h2])
  | indexAddr t x ix =>
    rw [hop] at he; simp only [evOp] at he
    obtain ⟨i, hi, he⟩ := withTy_some he
    split at he
    · rename_i n u hty
      obtain ⟨h1, hh⟩ := pureV_some he
      obtain ⟨y, h2, h3⟩ := idxA_sound T (w := w) hi hty (hV x) (hV ix) h1
      exact pure_ok y hh h3 (by simp [execOp, hop, h2])
    · split at he
      · rename_i e hel
        obtain ⟨el, he1, he⟩ := withTy_some he
        obtain ⟨h1, hh⟩ := pureV_some he
        obtain ⟨y, h2, h3⟩ := idxS_sound T (w := w) he1 (T.elem t i e hi hel).1 (hV x) (hV ix) h1
        exact pure_ok y hh h3 (by simp [execOp, hop, h2])
      · cases he
  | index t x ix =>
    rw [hop] at he; simp only [evOp] at he
    obtain ⟨i, hi, he⟩ := withTy_some he
    split at he
    · rename_i n u hty
      obtain ⟨h1, hh⟩ := pureV_some he
      obtain ⟨y, h2, h3⟩ := indexA_sound T (w := w) hi hty (hV x) (hV ix) h1
      exact pure_ok y hh h3 (by simp [execOp, hop, h2])
    · split at he
      · rename_i hstr
        obtain ⟨h1, hh⟩ := pureV_some he
        have hu := T.str t i hi hstr
        unfold mIndexT at h1
        obtain ⟨k, hk, h1⟩ := bnd_eq_some.1 h1
        obtain ⟨kk, hix⟩ := asNat_spec (hV ix) hk
        have hx := hV x
        cases hxv : V x <;> rw [hxv] at h1 hx <;> simp only at h1 <;> try (cases h1; done)
        rename_i s
        simp only [VRel] at hx
        split at h1
        · rename_i c hc
          simp at h1; subst h1
          refine pure_ok (.int .u8 c.toNat) hh (by simp only [VRel]) ?_
          have hsk : s[k]? = some c := by
            rw [List.getElem?_eq_some_iff] at hc
            obtain ⟨hlt, hcc⟩ := hc
            have hlt' : k < s.size := by simpa using hlt
            rw [getElem?_pos s k hlt']
            congr 1
          simp [execOp, hop, Instr.index, hix, asIntOf, run_underlying hu w, hx, hsk]
        · cases h1
      · cases he
  | extract x ix =>
    rw [hop] at he; simp only [evOp] at he
    obtain ⟨h1, hh⟩ := pureV_some he
    have hx := hV x
    cases hxv : V x <;> rw [hxv] at h1 hx <;> simp [mExtract] at h1
    rename_i vs
    simp only [VRel] at hx
    obtain ⟨xs, hxs, hr⟩ := hx
    have get : ∀ (vs : List AV) (xs : List Value) (k : Nat), VRc E vs xs → vs[k]? = some v → ∃ y, xs[k]? = some y ∧ VRel E v y := by
      intro vs
      induction vs with
      | nil => intro xs k _ hk; simp at hk
      | cons a vs ih =>
        intro xs k hr hk
        simp only [VRc] at hr
        obtain ⟨y, ys, rfl, h2, h3⟩ := hr
        cases k with
        | zero => simp at hk; subst hk; exact ⟨y, rfl, h2⟩
        | succ k => simpa using ih ys k h3 (by simpa using hk)
    obtain ⟨y, h2, h3⟩ := get vs xs ix hr h1
    exact pure_ok y hh h3 (by simp [execOp, hop, Instr.extract, hxs, h2])
  | call c =>
    rw [hop] at he; simp only [evOp] at he
    cases hc : c.callee with
    | value f => exact absurd hc (hnc c f hop)
    | builtin b =>
      rw [hc] at he
      obtain ⟨E', w', y, h1, h2, h3⟩ := builtin_sound T R (ty := o.type) (consts := c.args.map fun | .const _ => true | _ => false) (makeFunc_rel hV _) he
      refine ⟨E', w', _, y, ?_, .inl rfl, h2, h3⟩
      simp only [execOp, hop, resolve, hc, Sem.run_bind, Sem.run_pure, Result.andThen_ok, invoke]
      have e : (c.args.toList.map ev).toArray = c.args.map ev := by apply Array.ext'; simp
      rw [e] at h1
      exact h1
    | invoke r m => rw [hc] at he; cases he
  | _ => rw [hop] at he; simp [evOp] at he

end Go.Vab

/-
  Regions, code, bodies.
-/
namespace Go.Vab
open Go

def Spec (P : Program) (f : Nat) (args : List AV) (h : Heap) (v : AV) (h' : Heap) : Prop :=
  ∀ (E : Gh) (w : World) (xs : List Value), RelHeap E h w → VRc E args xs →
    Calls P f xs.toArray w fun e w' => ∃ E' x, e = .returned x ∧ VRel E' v x ∧ Moves E h w E' h' w'

def Callable (P : Program) (f : Nat) : Prop := ∃ fn, P.funcs[f]? = some fn ∧ (fn.name == "runtime.NumGoroutine") = false ∧ fn.body.isNone = false

def CallOK (P : Program) (call : Calling) : Prop := ∀ f args h v h', call f args h = some (v, h') → Spec P f args h v h' ∧ Callable P f

def EnvR (E : Gh) (env : Env) (a : Act) : Prop := ∀ t, VRel E (env.get t) (a.tmps.getD t Go.undef)
def LocR (E : Gh) (loc env : Env) (a : Act) : Prop := ∀ t, VRel E (look loc env t) (a.tmps.getD t Go.undef)
def VolFree (vol : List Nat) (env : Env) : Prop := ∀ t, vol.contains t = true → env.get t = .junk

theorem get_put : ∀ (env : Env) (t : Nat) (v : AV) (s : Nat), (env.put t v).get s = if s = t then v else env.get s
  | [], t, v, s => by simp [Env.put, Env.get]
  | (k, w) :: r, t, v, s => by
    simp only [Env.put]
    split
    · rename_i h; subst h
      simp only [Env.get]; split <;> rfl
    · rename_i h
      simp only [Env.get, get_put r t v s]
      by_cases h1 : s = k
      · subst h1; rw [if_pos rfl, if_neg (fun e => h e.symm), if_pos rfl]
      · simp [h1]

theorem look_nil (env : Env) (t : Nat) : look [] env t = env.get t := rfl

theorem look_cons (d : Nat) (v : AV) (loc env : Env) (t : Nat) : look ((d, v) :: loc) env t = if t = d then v else look loc env t := by
  unfold look
  simp only [Env.has, Env.get]
  by_cases h : t = d <;> simp [h]

theorem commit_get (vol : List Nat) : ∀ (loc env : Env) (t : Nat), (commit vol loc env).get t = if vol.contains t = true then env.get t else look loc env t
  | [], env, t => by simp [commit, look_nil]
  | (d, v) :: loc, env, t => by
    simp only [commit, look_cons]
    split
    · rename_i hd
      rw [commit_get vol loc env t]
      by_cases ht : vol.contains t = true
      · rw [if_pos ht, if_pos ht]
      · rw [if_neg ht, if_neg ht]
        by_cases e : t = d
        · subst e; exact absurd hd ht
        · rw [if_neg e]
    · rename_i hd
      rw [get_put, commit_get vol loc env t]
      by_cases e : t = d
      · subst e; rw [if_pos rfl, if_neg hd, if_pos rfl]
      · rw [if_neg e, if_neg e]

theorem EnvR.commit {vol : List Nat} {E : Gh} {loc env : Env} {a : Act} (h : LocR E loc env a) (hv : VolFree vol env) : EnvR E (commit vol loc env) a ∧ VolFree vol (commit vol loc env) := by
  constructor
  · intro t
    rw [commit_get]
    split
    · rename_i ht; rw [hv t ht]; simp only [VRel]
    · exact h t
  · intro t ht
    rw [commit_get, if_pos ht]; exact hv t ht

theorem opvF_rel {E : Gh} {σ : Nat → AV} {a : Act} (h : ∀ t, VRel E (σ t) (a.tmps.getD t Go.undef)) (x : Operand) : VRel E (opvF σ x) (a.eval x) := by
  cases x with
  | tmp t => exact h t
  | const v =>
    simp only [opvF, Act.eval]
    unfold ofConst
    split <;> simp only [VRel]
  | func f => simp only [opvF, Act.eval, VRel]; exact ⟨[], rfl, by simp only [VRc]⟩
  | global g => simp only [opvF, VRel]

theorem opv_rel {E : Gh} {loc env : Env} {a : Act} (h : LocR E loc env a) (x : Operand) : VRel E (opv loc env x) (a.eval x) := opvF_rel h x

theorem LocR.put {E E' : Gh} {loc env : Env} {a : Act} (h : LocR E loc env a) (hx : Ext E E') {d : Nat} {v : AV} {x : Value} (hv : VRel E' v x) (hd : d < a.tmps.size) : LocR E' ((d, v) :: loc) env (a.put (some d) x) := by
  intro t
  rw [look_cons]
  simp only [Act.put]
  by_cases e : t = d
  · subst e
    rw [if_pos rfl]
    simpa [Array.getD, hd] using hv
  · rw [if_neg e]
    have := VRel.mono hx _ _ (h t)
    have e2 : (a.tmps.setIfInBounds d x).getD t Go.undef = a.tmps.getD t Go.undef := by
      simp only [Array.getD_eq_getD_getElem?]
      rw [Array.getElem?_setIfInBounds_ne (fun q => e q.symm)]
    rw [e2]; exact this

theorem LocR.ext {E E' : Gh} {loc env : Env} {a : Act} (h : LocR E loc env a) (hx : Ext E E') : LocR E' loc env a := fun t => VRel.mono hx _ _ (h t)

theorem EnvR.ext {E E' : Gh} {env : Env} {a : Act} (h : EnvR E env a) (hx : Ext E E') : EnvR E' env a := fun t => VRel.mono hx _ _ (h t)

theorem VRc.map {E : Gh} {V : Operand → AV} {ev : Operand → Value} (hV : ∀ x, VRel E (V x) (ev x)) (l : List Operand) : VRc E (l.map V) (l.map ev) := makeFunc_rel hV l

theorem VRc.app {E : Gh} : ∀ (as bs : List AV) (xs ys : List Value), VRc E as xs → VRc E bs ys → VRc E (as ++ bs) (xs ++ ys)
  | [], bs, xs, ys, h, h' => by simp only [VRc] at h; subst h; simpa using h'
  | a :: as, bs, xs, ys, h, h' => by
    simp only [VRc] at h
    obtain ⟨y, l, rfl, h1, h2⟩ := h
    simp only [List.cons_append, VRc]
    exact ⟨y, l ++ ys, rfl, h1, VRc.app as bs l ys h2 h'⟩

theorem still_some {call : Calling} {f : Nat} {args : List AV} {h : Heap} {v : AV} {h' : Heap} (he : still call f args h = some (v, h')) : (∀ t, call f args (h ++ t) = some (v, h ++ t)) ∧ h' = h := by
  unfold still at he
  split at he
  · rename_i hx
    simp at he
    obtain ⟨rfl, rfl⟩ := he
    exact ⟨hx.choose_spec, rfl⟩
  · cases he

theorem still_of {call : Calling} {f : Nat} {args : List AV} {h : Heap} {v : AV} (he : ∀ t, call f args (h ++ t) = some (v, h ++ t)) : still call f args h = some (v, h) := by
  have hx : ∃ v, ∀ t, call f args (h ++ t) = some (v, h ++ t) := ⟨v, he⟩
  unfold still
  rw [dif_pos hx]
  have h1 := hx.choose_spec []
  rw [he []] at h1
  simp at h1
  rw [← h1]

section
variable {P : Program} {C : Ctx} (T : TTok P C.tt) (hcall : CallOK P C.call) {E : Gh} {h : Heap} {w : World} (R : RelHeap E h w)
include T hcall R

omit T in
theorem call_wp {quiet : Bool} {V : Operand → AV} {a : Act} (hV : ∀ x, VRel E (V x) (a.eval x)) {o : Oper} {c : Call} {f : Operand} (hop : o.op = .call c) (hc : c.callee = .value f) {v : AV} {h' : Heap}
    (he : evOp C quiet V h o.op = some (v, h')) {K : Act → World → Prop} {Q : Exit → Act → World → Prop} (hK : ∀ E' w' x, VRel E' v x → Moves E h w E' h' w' → K (a.put o.dst x) w') : o.wp P a w K Q := by
  rw [hop] at he
  simp only [evOp, hc, callOf] at he
  have hf := hV f
  cases hfv : V f <;> rw [hfv] at he hf <;> try (cases he; done)
  rename_i g caps
  have he' : C.call g (c.args.toList.map V ++ caps) h = some (v, h') := by
    simp only at he
    split at he
    · obtain ⟨h1, rfl⟩ := still_some he; simpa using h1 []
    · exact he
  obtain ⟨hs, fn, hfn, hname, hbody⟩ := hcall _ _ _ _ _ he'
  simp only [VRel] at hf
  obtain ⟨cs, hcs, hr⟩ := hf
  have hcalls := hs E w _ R (VRc.app _ _ _ _ (VRc.map hV c.args.toList) hr)
  unfold Oper.wp
  have hrun : (execOp a.eval o).run P w = .ok (.enter g (c.args.map a.eval ++ cs.toArray)) w := by
    simp only [execOp, hop, resolve, hc, hcs, Deferred.ofValue, Sem.run_bind, Sem.run_pure, Result.andThen_ok, invoke, callFunc, run_program, hfn, hname, hbody, Bool.false_eq_true, if_false, Array.empty_append]
  rw [hrun, Oper.upon_enter]
  have e : (c.args.toList.map a.eval ++ cs).toArray = c.args.map a.eval ++ cs.toArray := by apply Array.ext'; simp
  rw [← e]
  refine hcalls.mono fun en w' hp => ?_
  obtain ⟨E', x, rfl, h1, h2⟩ := hp
  exact hK E' w' x h1 h2

theorem op_wp {quiet : Bool} {V : Operand → AV} {a : Act} (hV : ∀ x, VRel E (V x) (a.eval x)) {o : Oper} {v : AV} {h' : Heap}
    (he : evOp C quiet V h o.op = some (v, h')) {K : Act → World → Prop} {Q : Exit → Act → World → Prop} (hK : ∀ E' w' x, VRel E' v x → Moves E h w E' h' w' → K (a.put o.dst x) w') : o.wp P a w K Q := by
  by_cases hnc : ∀ c f, o.op = .call c → c.callee ≠ .value f
  · obtain ⟨E', w', n, x, h1, h2, h3, h4⟩ := evOp_sound T R hV he hnc
    unfold Oper.wp
    rw [h1]
    rcases h2 with rfl | ⟨rfl, rfl⟩
    · rw [Oper.upon_value]; exact hK E' w' x h3 h4
    · rw [Oper.upon_skip]; exact hK E' w' _ h3 h4
  · have : ∃ c f, o.op = .call c ∧ c.callee = .value f := by
      apply Classical.byContradiction
      intro hn
      exact hnc fun c f h1 h2 => hn ⟨c, f, h1, h2⟩
    obtain ⟨c, f, h1, h2⟩ := this
    exact call_wp hcall R hV h1 h2 he hK

theorem one_wpF {quiet : Bool} {ops : Array Oper} {o : Oper} {σ : Nat → AV} {a : Act} (hL : ∀ t, VRel E (σ t) (a.tmps.getD t Go.undef)) {v : AV} {h' : Heap} (he : evOneF C quiet ops.toList o σ h = some (v, h'))
    {K : Act → World → Prop} {Q : Exit → Act → World → Prop} (hK : ∀ E' w' x, VRel E' v x → Moves E h w E' h' w' → K (a.put o.dst x) w') :
    if Region.wanted o (yielded ops a.tmps) then o.wp P a w K Q ∨ (o.asks P a w ∧ LetsOut Q) else K (a.put o.dst Go.undef) w := by
  have hV := opvF_rel hL
  have skip : v = .undef → h' = h → K (a.put o.dst Go.undef) w := fun h1 h2 => by
    subst h1; subst h2
    exact hK E w _ (by simp only [VRel]) (Moves.refl R)
  cases hg : o.guard with
  | none =>
    simp only [Region.wanted, hg, if_true]
    simp only [evOneF, hg] at he
    exact .inl (op_wp T hcall R hV he hK)
  | some p =>
    obtain ⟨j, want⟩ := p
    simp only [evOneF, hg] at he
    split at he
    · rename_i d hd
      have hy : yielded ops a.tmps j = match a.tmps[d]? with | some (.bool b) => some b | _ => none := by
        unfold dstOf at hd
        rw [Array.getElem?_toList] at hd
        unfold yielded
        cases hj : ops[j]? with
        | none => rw [hj] at hd; cases hd
        | some oj =>
          rw [hj] at hd; simp only at hd; simp only [Option.bind_some, hd]
          cases a.tmps[d]? with
          | none => rfl
          | some z => cases z <;> rfl
      have hl := hL d
      unfold gdo at he
      split at he
      · rename_i b hb
        rw [hb] at hl; simp only [VRel] at hl
        have hb2 : a.tmps[d]? = some (.bool b) := by
          rw [Array.getD_eq_getD_getElem?] at hl
          cases hq : a.tmps[d]? with
          | none => rw [hq] at hl; simp [Go.undef] at hl
          | some z => rw [hq] at hl; simp only [Option.getD_some] at hl; rw [hl]
        rw [hb2] at hy
        simp only at hy
        split at he
        · rename_i hbw
          subst hbw
          simp only [Region.wanted, hg, hy, beq_self_eq_true, if_true]
          exact .inl (op_wp T hcall R hV he hK)
        · rename_i hbw
          simp at he
          have : (some b == some want) = false := by simpa using hbw
          simp only [Region.wanted, hg, hy, this, Bool.false_eq_true, if_false]
          exact skip he.1.symm he.2.symm
      · rename_i hb
        rw [hb] at hl; simp only [VRel] at hl
        have hyn : yielded ops a.tmps j = none := by
          rw [hy]
          rw [Array.getD_eq_getD_getElem?] at hl
          cases hq : a.tmps[d]? with
          | none => rfl
          | some z => rw [hq] at hl; simp only [Option.getD_some] at hl; rw [hl]; rfl
        simp at he
        simp only [Region.wanted, hg, hyn]
        exact skip he.1.symm he.2.symm
      · cases he
    · cases he

theorem one_wp {quiet : Bool} {ops : Array Oper} {o : Oper} {loc env : Env} {a : Act} (hL : LocR E loc env a) {v : AV} {h' : Heap} (he : evOne C quiet ops.toList o loc env h = some (v, h'))
    {K : Act → World → Prop} {Q : Exit → Act → World → Prop} (hK : ∀ E' w' x, VRel E' v x → Moves E h w E' h' w' → K (a.put o.dst x) w') :
    if Region.wanted o (yielded ops a.tmps) then o.wp P a w K Q ∨ (o.asks P a w ∧ LetsOut Q) else K (a.put o.dst Go.undef) w := one_wpF T hcall R hL he hK

end

theorem Act.put_size (a : Act) (d : Option Tmp) (v : Value) : (a.put d v).tmps.size = a.tmps.size := by cases d <;> simp [Act.put]
theorem Act.put_defers (a : Act) (d : Option Tmp) (v : Value) : (a.put d v).defers = a.defers := by cases d <;> rfl

theorem ops_wp {P : Program} {C : Ctx} (T : TTok P C.tt) (hcall : CallOK P C.call) {quiet : Bool} {ops : Array Oper} {Q : Exit → Act → World → Prop} : ∀ (os : List Oper) (loc env : Env) (E : Gh) (h : Heap) (w : World) (a : Act) (s' : St),
    RelHeap E h w → LocR E loc env a → VolFree C.vol env → a.tmps.size = C.ntmps → evOps C quiet ops.toList os loc env h = some s' →
    (∀ E' w' a', EnvR E' s'.env a' → VolFree C.vol s'.env → Moves E h w E' s'.heap w' → a'.defers = a.defers → a'.tmps.size = C.ntmps → Q .normal a' w') → wpList P ops Q os a w
  | [], loc, env, E, h, w, a, s', R, hL, hv, hn, he, hQ => by
    simp [evOps] at he; subst he
    obtain ⟨h1, h2⟩ := EnvR.commit hL hv
    exact hQ E w a h1 h2 (Moves.refl R) rfl hn
  | o :: os, loc, env, E, h, w, a, s', R, hL, hv, hn, he, hQ => by
    simp only [evOps] at he
    obtain ⟨⟨v, h1⟩, he1, he2⟩ := bnd_eq_some.1 he
    unfold wpList
    refine one_wp T hcall R hL he1 (fun E' w' x hx hm => ?_)
    cases hd : o.dst with
    | none =>
      rw [hd] at he2
      refine ops_wp T hcall os loc env E' h1 w' _ s' hm.rel (hL.ext hm.ext) hv hn he2 fun E'' w'' a'' g1 g2 g3 g4 g5 => hQ E'' w'' a'' g1 g2 (hm.trans g3) g4 g5
    | some d =>
      rw [hd] at he2
      simp only at he2
      split at he2
      · rename_i hlt
        refine ops_wp T hcall os ((d, v) :: loc) env E' h1 w' _ s' hm.rel (hL.put hm.ext hx (by rw [hn]; exact hlt)) hv (by rw [Act.put_size]; exact hn) he2 fun E'' w'' a'' g1 g2 g3 g4 g5 => hQ E'' w'' a'' g1 g2 (hm.trans g3) (by rw [g4, Act.put_defers]) g5
      · cases he2

end Go.Vab

/-
  Statements whose order is open.
-/
namespace Go.Vab
open Go

theorem readyF_eq (ops : Array Oper) (listed : Array Bool) : readyF ops listed = Region.ready .any ops listed := rfl

theorem any_wp {P : Program} {C : Ctx} (T : TTok P C.tt) (hcall : CallOK P C.call) {qt : Bool} {ops : Array Oper} {Q : Exit → Act → World → Prop} {q : (Nat → AV) × Heap → Prop} : ∀ (n : Nat) (listed : Array Bool) (s : (Nat → AV) × Heap) (E : Gh) (w : World) (a : Act),
    RelHeap E s.2 w → (∀ t, VRel E (s.1 t) (a.tmps.getD t Go.undef)) → a.tmps.size = C.ntmps → AnyRun C qt ops q n listed s →
    (∀ s' E' w' a', q s' → (∀ t, VRel E' (s'.1 t) (a'.tmps.getD t Go.undef)) → Moves E s.2 w E' s'.2 w' → a'.defers = a.defers → a'.tmps.size = C.ntmps → Q .normal a' w') → wpAny P .any ops Q n listed a w
  | 0, listed, s, E, w, a, R, hL, hn, he, hQ => by
    simp only [AnyRun] at he
    exact ⟨he.1, hQ s E w a he.2 hL (Moves.refl R) rfl hn⟩
  | n + 1, listed, s, E, w, a, R, hL, hn, he, hQ => by
    simp only [AnyRun] at he
    refine ⟨fun h0 => hQ s E w a (he.1 h0) hL (Moves.refl R) rfl hn, fun i hi => ?_⟩
    have hi2 := hi
    unfold wpOp
    cases ho : ops[i]? with
    | none =>
      exfalso
      unfold Region.ready at hi
      rw [List.mem_filter] at hi
      have := List.mem_range.1 hi.1
      rw [Array.getElem?_eq_none_iff] at ho
      omega
    | some o =>
      simp only
      obtain ⟨s', h1, h2⟩ := he.2 i hi2 o ho
      unfold stepF at h1
      obtain ⟨⟨v, h'⟩, h3, h4⟩ := bnd_eq_some.1 h1
      refine one_wpF T hcall R hL h3 (fun E' w' x hx hm => ?_)
      cases hd : o.dst with
      | none =>
        rw [hd] at h4
        simp at h4; subst h4
        exact any_wp T hcall n _ (s.1, h') E' w' _ hm.rel (fun t => VRel.mono hm.ext _ _ (hL t)) hn h2 fun s'' E'' w'' a'' g1 g2 g3 g4 g5 => hQ s'' E'' w'' a'' g1 g2 (hm.trans g3) g4 g5
      | some d =>
        rw [hd] at h4
        simp only at h4
        split at h4
        · rename_i hlt
          simp at h4; subst h4
          refine any_wp T hcall n _ (updF s.1 d v, h') E' w' _ hm.rel (fun t => ?_) (by rw [Act.put_size]; exact hn) h2 fun s'' E'' w'' a'' g1 g2 g3 g4 g5 => hQ s'' E'' w'' a'' g1 g2 (hm.trans g3) (by rw [g4, Act.put_defers]) g5
          simp only [updF, Act.put]
          by_cases e : t = d
          · subst e
            rw [if_pos rfl]
            have : t < a.tmps.size := by rw [hn]; exact hlt
            simpa [Array.getD, this] using hx
          · rw [if_neg e]
            have e2 : (a.tmps.setIfInBounds d x).getD t Go.undef = a.tmps.getD t Go.undef := by
              simp only [Array.getD_eq_getD_getElem?]
              rw [Array.getElem?_setIfInBounds_ne (fun q => e q.symm)]
            rw [e2]; exact VRel.mono hm.ext _ _ (hL t)
        · cases h4

end Go.Vab

/-
  Two statements whose order is open: the evaluator's answer is the same both ways.
-/
namespace Go.Vab
open Go

theorem evOp_congr {C : Ctx} {q : Bool} {V V' : Operand → AV} {h : Heap} (op : Op) (hV : ∀ x ∈ op.operands.toList, V x = V' x) : evOp C q V h op = evOp C q V' h op := by
  cases op <;> simp only [evOp] <;> simp only [Op.operands] at hV
  case move x => rw [hV x (by simp)]
  case assign x => rw [hV x (by simp)]
  case pick c a b => rw [hV c (by simp), hV a (by simp), hV b (by simp)]
  case box e x => rw [hV x (by simp)]
  case build t ps =>
    have : (ps.toList.map fun p => (p.1, V p.2)) = ps.toList.map fun p => (p.1, V' p.2) := List.map_congr_left fun p hp => by rw [hV p.2 (by simp; exact ⟨_, by simpa using hp⟩)]
    rw [this]
  case buildSlice t l ps =>
    have : (ps.toList.map fun p => (p.1, V p.2)) = ps.toList.map fun p => (p.1, V' p.2) := List.map_congr_left fun p hp => by rw [hV p.2 (by simp; exact ⟨_, by simpa using hp⟩)]
    rw [this]
  case load t p => rw [hV p (by simp)]
  case store t p x => rw [hV p (by simp), hV x (by simp)]
  case nilCheck x => rw [hV x (by simp)]
  case binOp op t x y u => rw [hV x (by simp), hV y (by simp)]
  case unOp op t x => rw [hV x (by simp)]
  case convert s t x => rw [hV x (by simp)]
  case sliceToArrayPointer t x => rw [hV x (by simp)]
  case makeFunc f first caps =>
    cases f <;> simp only
    split
    · congr 3
      exact List.map_congr_left fun x hx => hV x (by simp; exact .inr (by simpa using hx))
    · rfl
  case makeSlice t l c => rw [hV l (by simp), hV c (by simp)]
  case slice t x lo hi mx =>
    have h1 : lo.map V = lo.map V' := by
      cases lo with
      | none => rfl
      | some y => simp only [Option.map_some]; rw [hV y (by simp)]
    have h2 : hi.map V = hi.map V' := by
      cases hi with
      | none => rfl
      | some y => simp only [Option.map_some]; rw [hV y (by simp)]
    have h3 : mx.map V = mx.map V' := by
      cases mx with
      | none => rfl
      | some y => simp only [Option.map_some]; rw [hV y (by simp)]
    rw [h1, h2, h3, hV x (by simp)]
  case fieldAddr s x f => rw [hV x (by simp)]
  case field s x f => rw [hV x (by simp)]
  case indexAddr t x i => rw [hV x (by simp), hV i (by simp)]
  case index t x i => rw [hV x (by simp), hV i (by simp)]
  case extract x i => rw [hV x (by simp)]
  case call c =>
    have h1 : c.args.toList.map V = c.args.toList.map V' := List.map_congr_left fun x hx => hV x (by simp only [Call.operands]; split <;> simp <;> simp at hx <;> simp [hx])
    cases hc : c.callee <;> simp only [h1]
    rename_i f
    rw [hV f (by simp [Call.operands, hc])]

theorem pureV_kind {x : Option AV} {h h' : Heap} {v : AV} (he : pureV h x = some (v, h')) : h' = h ∧ ∀ g : Heap, pureV g x = some (v, g) := by
  unfold pureV at he ⊢
  obtain ⟨y, rfl, h2⟩ := bnd_eq_some.1 he
  simp at h2
  obtain ⟨rfl, rfl⟩ := h2
  exact ⟨rfl, fun g => rfl⟩

theorem withTy_of {α : Type} {C : Ctx} {t : Nat} {f : TI → Option α} {i : TI} (h : C.tt t = some i) : withTy C t f = f i := by
  unfold withTy; rw [h]

theorem blkAt_app {h : Heap} {i ver : Nat} {b : Blk} (e : blkAt h i ver = some b) (t : Heap) : blkAt (h ++ t) i ver = some b := by
  unfold blkAt at e ⊢
  cases hb : h[i]? with
  | none => rw [hb] at e; cases e
  | some c =>
    rw [hb] at e
    have : (h ++ t)[i]? = some c := by
      rw [List.getElem?_append_left (List.getElem?_eq_some_iff.1 hb).1]; exact hb
    rw [this]; exact e

theorem mLoad_app {t : Ty} {p v : AV} {h : Heap} (e : mLoad t p h = some v) (g : Heap) : mLoad t p (h ++ g) = some v := by
  unfold mLoad at e ⊢
  split
  · simp only at e
    split at e
    · rename_i hb
      rw [if_pos hb]
      obtain ⟨b, h1, h2⟩ := bnd_eq_some.1 e
      rw [blkAt_app h1 g]; exact h2
    · cases e
  · simp only at e
    split at e
    · rename_i hb
      rw [if_pos hb]
      obtain ⟨b, h1, h2⟩ := bnd_eq_some.1 e
      rw [blkAt_app h1 g]; exact h2
    · cases e
  · simp only at e; cases e

theorem mElems_app {t : Ty} {p v : AV} {h : Heap} (e : mElems t p h = some v) (g : Heap) : mElems t p (h ++ g) = some v := by
  unfold mElems at e ⊢
  split
  · exact e
  · simp only at e
    split at e
    · rename_i hb
      rw [if_pos hb]
      obtain ⟨b, h1, h2⟩ := bnd_eq_some.1 e
      rw [blkAt_app h1 g]; exact h2
    · cases e
  · exact e
  · simp only at e; cases e

theorem mStr_app {p v : AV} {h : Heap} (e : mStr p h = some v) (g : Heap) : mStr p (h ++ g) = some v := by
  unfold mStr at e ⊢
  split
  · cases e
  · simp only at e
    obtain ⟨b, h1, h2⟩ := bnd_eq_some.1 e
    rw [mElems_app h1 g]; exact h2

/-- No memory is looked at. -/
def Uni (m : Heap → Option (AV × Heap)) : Prop := ∀ h v h', m h = some (v, h') → h' = h ∧ ∀ g, m g = some (v, g)

theorem Uni.none : Uni fun _ => none := fun _ _ _ h => by cases h
theorem Uni.some (x : AV) : Uni fun h => some (x, h) := fun h v h' he => by simp at he; obtain ⟨rfl, rfl⟩ := he; exact ⟨rfl, fun _ => rfl⟩
theorem Uni.pureV (x : Option AV) : Uni fun h => pureV h x := fun _ _ _ he => pureV_kind he
theorem Uni.withTy {C : Ctx} {t : Nat} {m : TI → Heap → Option (AV × Heap)} (hm : ∀ i, Uni (m i)) : Uni fun h => withTy C t fun i => m i h := fun h v h' he => by
  obtain ⟨i, hi, he⟩ := withTy_some he
  simp only [withTy_of hi]
  exact hm i h v h' he
theorem Uni.withTy' {C : Ctx} {t : Nat} {m : Heap → TI → Option (AV × Heap)} (hm : ∀ i, Uni (fun h => m h i)) : Uni fun h => Go.Vab.withTy C t (m h) := fun h v h' he => by
  obtain ⟨i, hi, he⟩ := withTy_some he
  simp only [withTy_of hi]
  exact hm i h v h' he

theorem evOp_pure {C : Ctx} {q k : Bool} {V : Operand → AV} (op : Op) (hk : kindOf k op = .pure) : Uni fun h => evOp C q V h op := by
  cases op <;> simp only [kindOf] at hk <;> simp only [evOp]
  all_goals try (cases hk; done)
  all_goals try (exact Uni.none)
  all_goals try (exact Uni.some _)
  all_goals try (exact Uni.pureV _)
  all_goals try (exact Uni.withTy fun i => Uni.pureV _)
  case sliceToArrayPointer t x =>
    refine Uni.withTy fun i => ?_
    cases i.ty <;> first | exact Uni.none | exact Uni.pureV _
  case makeFunc f first caps =>
    cases f <;> simp only
    · split
      · exact Uni.some _
      · exact Uni.none
    all_goals exact Uni.none
  case slice t x lo hi mx =>
    split
    · exact Uni.none
    refine Uni.withTy fun i => ?_
    cases i.ty <;> simp only
    case arr => exact Uni.pureV _
    all_goals
      cases i.elem <;> simp only
      · cases i.pt <;> simp only
        · cases i.str <;> cases mx <;> first | exact Uni.none | exact Uni.pureV _
        · exact Uni.withTy fun i => Uni.pureV _
      · exact Uni.withTy fun i => Uni.pureV _
  case indexAddr t x i =>
    refine Uni.withTy fun i => ?_
    cases i.ty <;> simp only
    case arr => exact Uni.pureV _
    all_goals
      cases i.elem <;> simp only
      · exact Uni.none
      · exact Uni.withTy fun i => Uni.pureV _
  case index t x i =>
    refine Uni.withTy fun i => ?_
    cases i.ty <;> simp only
    case arr => exact Uni.pureV _
    all_goals
      split
      · exact Uni.pureV _
      · exact Uni.none
  case call c =>
    revert hk
    cases c.callee <;> (try simp only) <;> intro hk
    case value => cases k <;> simp at hk
    case invoke => exact Uni.none
    case builtin b =>
      generalize c.args.toList.map V = as
      cases b <;> simp only at hk <;> try (cases hk; done)
      case len =>
        unfold evBuiltin
        match as with
        | [] => exact Uni.none
        | [x] =>
          simp only
          cases c.argTypes[0]? <;> simp only
          · exact Uni.none
          · refine Uni.withTy fun i => ?_
            cases i.ty <;> simp only
            case arr => exact Uni.some _
            all_goals
              cases i.elem <;> simp only
              · split
                · exact Uni.pureV _
                · exact Uni.none
              · exact Uni.pureV _
        | _ :: _ :: _ => exact Uni.none
      case min =>
        unfold evBuiltin
        match as with
        | [] => exact Uni.none
        | [x] => exact Uni.none
        | [x, y] => exact Uni.pureV _
        | _ :: _ :: _ :: _ => exact Uni.none

/-- What is behind does not count. -/
def Ead (m : Heap → Option (AV × Heap)) : Prop := ∀ h v h', m h = some (v, h') → h' = h ∧ ∀ t, m (h ++ t) = some (v, h ++ t)

theorem Uni.ead {m : Heap → Option (AV × Heap)} (h : Uni m) : Ead m := fun g v g' he => ⟨(h g v g' he).1, fun _ => (h g v g' he).2 _⟩

theorem Ead.pureV {f : Heap → Option AV} (hf : ∀ h v, f h = .some v → ∀ t, f (h ++ t) = .some v) : Ead fun h => Go.Vab.pureV h (f h) := fun h v h' he => by
  unfold Go.Vab.pureV at he
  obtain ⟨y, h1, h2⟩ := bnd_eq_some.1 he
  simp at h2
  obtain ⟨rfl, rfl⟩ := h2
  exact ⟨rfl, fun t => by simp only [Go.Vab.pureV, hf _ _ h1 t, bnd_some]⟩

theorem Ead.withTy {C : Ctx} {t : Nat} {m : TI → Heap → Option (AV × Heap)} (hm : ∀ i, Ead (m i)) : Ead fun h => withTy C t fun i => m i h := fun h v h' he => by
  obtain ⟨i, hi, he⟩ := withTy_some he
  simp only [withTy_of hi]
  exact hm i h v h' he

theorem Ead.still (call : Calling) (f : Nat) (args : List AV) : Ead fun h => still call f args h := fun h v h' he => by
  obtain ⟨h1, rfl⟩ := still_some he
  exact ⟨rfl, fun t => still_of fun t' => by simpa [List.append_assoc] using h1 (t ++ t')⟩

theorem evOp_read {C : Ctx} {q : Bool} {V : Operand → AV} (op : Op) (hk : kindOf q op = .read) : Ead fun h => evOp C q V h op := by
  cases op <;> simp only [kindOf] at hk <;> simp only [evOp]
  all_goals try (cases hk; done)
  case lookup => exact Uni.none.ead
  case load t p => exact Ead.withTy fun i => Ead.pureV fun h v e t => mLoad_app e t
  case convert s t x =>
    refine Ead.withTy fun i => Ead.withTy fun j => ?_
    cases i.kind <;> simp only
    · cases i.str <;> cases j.elem <;> simp only <;> try (exact Uni.none.ead)
      refine Ead.withTy fun el => ?_
      cases el.kind
      · exact Uni.none.ead
      · rename_i k
        cases k <;> first | exact Uni.none.ead | exact Ead.pureV fun h v e t => mStr_app e t
    · exact (Uni.pureV _).ead
  case call c =>
    revert hk
    cases c.callee <;> (try simp only) <;> intro hk
    case value f =>
      cases q
      · simp at hk
      · unfold callOf
        cases V f
        case fn => exact Ead.still _ _ _
        all_goals exact Uni.none.ead
    case builtin b => cases b <;> cases hk
    case invoke => cases hk

theorem evOp_alloc {C : Ctx} {q k : Bool} {V : Operand → AV} {h h' : Heap} {v : AV} (op : Op) (hk : kindOf k op = .alloc) (he : evOp C q V h op = some (v, h')) : ∃ b, h' = h ++ b := by
  cases op <;> simp only [kindOf] at hk <;> simp only [evOp] at he
  all_goals try (cases hk; done)
  case makeMap => cases he
  case alloc e =>
    obtain ⟨i, hi, he⟩ := withTy_some he
    unfold mNew at he
    split at he
    · simp at he; exact ⟨_, he.2.symm⟩
    · cases he
  case box e x =>
    obtain ⟨i, hi, he⟩ := withTy_some he
    unfold mNew at he
    split at he
    · simp at he; exact ⟨_, he.2.symm⟩
    · cases he
  case buildSlice t l ps =>
    obtain ⟨i, hi, he⟩ := withTy_some he
    split at he
    · obtain ⟨i, hi, he⟩ := withTy_some he
      unfold mBuildSlice at he
      obtain ⟨r, h1, h2⟩ := bnd_eq_some.1 he
      split at h2
      · simp at h2; exact ⟨_, h2.2.symm⟩
      · cases h2
    · cases he
  case makeSlice t l c =>
    obtain ⟨i, hi, he⟩ := withTy_some he
    split at he
    · obtain ⟨i, hi, he⟩ := withTy_some he
      unfold mMake at he
      split at he
      · split at he
        · simp only [Option.some.injEq, Prod.mk.injEq] at he; exact ⟨_, he.2.symm⟩
        · cases he
      · cases he
    · cases he
  case call c =>
    revert hk
    cases c.callee <;> (try simp only) <;> intro hk
    case value f => cases k <;> simp at hk
    case builtin b => cases b <;> cases hk
    case invoke => cases hk


theorem opvF_congr {σ τ : Nat → AV} {x : Operand} (h : ∀ t, x = .tmp t → σ t = τ t) : opvF σ x = opvF τ x := by
  cases x with
  | tmp t => exact h t rfl
  | _ => rfl

theorem evOneF_congr {C : Ctx} {q : Bool} {ops : List Oper} {o : Oper} {σ τ : Nat → AV} {h : Heap} (hr : ∀ t ∈ reads ops o, σ t = τ t) : evOneF C q ops o σ h = evOneF C q ops o τ h := by
  have e : evOp C q (opvF σ) h o.op = evOp C q (opvF τ) h o.op := evOp_congr o.op fun x hx => opvF_congr fun t ht => hr t (by
    unfold reads
    rw [List.mem_append]; left
    rw [List.mem_filterMap]
    exact ⟨x, hx, by rw [ht]⟩)
  unfold evOneF
  cases hg : o.guard with
  | none => exact e
  | some p =>
    obtain ⟨j, want⟩ := p
    simp only
    cases hd : dstOf ops j with
    | none => rfl
    | some d =>
      simp only
      rw [e, hr d (by unfold reads; rw [List.mem_append]; right; rw [hg]; simp [hd])]

theorem gdo_cases {y : AV} {want : Bool} {m : Option (AV × Heap)} {h : Heap} {r : AV × Heap} (he : gdo y want m h = some r) : (m = some r ∧ y = .bool want) ∨ (r = (.undef, h) ∧ ((∃ b, y = .bool b ∧ b ≠ want) ∨ y = .undef)) := by
  unfold gdo at he
  split at he
  · rename_i b
    split at he
    · rename_i hb; exact .inl ⟨he, by rw [hb]⟩
    · rename_i hb; simp at he; exact .inr ⟨he.symm, .inl ⟨b, rfl, hb⟩⟩
  · simp at he; exact .inr ⟨he.symm, .inr rfl⟩
  · cases he

theorem gdo_skip {y : AV} {want : Bool} (m : Option (AV × Heap)) (h : Heap) (hy : (∃ b, y = .bool b ∧ b ≠ want) ∨ y = .undef) : gdo y want m h = some (.undef, h) := by
  rcases hy with ⟨b, rfl, hb⟩ | rfl
  · simp [gdo, hb]
  · rfl

theorem gdo_do {want : Bool} (m : Option (AV × Heap)) (h : Heap) : gdo (.bool want) want m h = m := by simp [gdo]

section
variable {C : Ctx} {q : Bool} {ops : List Oper} {o : Oper} {σ : Nat → AV} {h h' : Heap} {v : AV}

theorem evOneF_pure (hk : kindOf q o.op = .pure) (he : evOneF C q ops o σ h = some (v, h')) : h' = h ∧ ∀ g, evOneF C q ops o σ g = some (v, g) := by
  unfold evOneF at he ⊢
  cases hg : o.guard with
  | none => rw [hg] at he; exact evOp_pure o.op hk h v h' he
  | some p =>
    obtain ⟨j, want⟩ := p
    rw [hg] at he
    simp only at he ⊢
    cases hd : dstOf ops j with
    | none => rw [hd] at he; cases he
    | some d =>
      rw [hd] at he
      simp only at he ⊢
      rcases gdo_cases he with ⟨h1, h2⟩ | ⟨h1, h2⟩
      · obtain ⟨rfl, h3⟩ := evOp_pure o.op hk h v h' h1
        exact ⟨rfl, fun g => by rw [h2, gdo_do]; exact h3 g⟩
      · simp at h1; obtain ⟨rfl, rfl⟩ := h1
        exact ⟨rfl, fun g => gdo_skip _ _ h2⟩

theorem evOneF_read (hk : kindOf q o.op = .read) (he : evOneF C q ops o σ h = some (v, h')) : h' = h ∧ ∀ t, evOneF C q ops o σ (h ++ t) = some (v, h ++ t) := by
  unfold evOneF at he ⊢
  cases hg : o.guard with
  | none => rw [hg] at he; exact evOp_read o.op hk h v h' he
  | some p =>
    obtain ⟨j, want⟩ := p
    rw [hg] at he
    simp only at he ⊢
    cases hd : dstOf ops j with
    | none => rw [hd] at he; cases he
    | some d =>
      rw [hd] at he
      simp only at he ⊢
      rcases gdo_cases he with ⟨h1, h2⟩ | ⟨h1, h2⟩
      · obtain ⟨rfl, h3⟩ := evOp_read o.op hk h v h' h1
        exact ⟨rfl, fun g => by rw [h2, gdo_do]; exact h3 g⟩
      · simp at h1; obtain ⟨rfl, rfl⟩ := h1
        exact ⟨rfl, fun g => gdo_skip _ _ h2⟩

theorem evOneF_alloc (hk : kindOf q o.op = .alloc) (he : evOneF C q ops o σ h = some (v, h')) : ∃ t, h' = h ++ t := by
  unfold evOneF at he
  cases hg : o.guard with
  | none => rw [hg] at he; exact evOp_alloc o.op hk he
  | some p =>
    obtain ⟨j, want⟩ := p
    rw [hg] at he
    simp only at he
    cases hd : dstOf ops j with
    | none => rw [hd] at he; cases he
    | some d =>
      rw [hd] at he
      simp only at he
      rcases gdo_cases he with ⟨h1, h2⟩ | ⟨h1, h2⟩
      · exact evOp_alloc o.op hk h1
      · simp at h1; obtain ⟨rfl, rfl⟩ := h1
        exact ⟨[], by simp⟩
end

def setF (σ : Nat → AV) (d : Option Nat) (v : AV) : Nat → AV := match d with
  | some d => updF σ d v
  | none => σ

theorem stepF_some {C : Ctx} {q : Bool} {ops : List Oper} {o : Oper} {s s' : (Nat → AV) × Heap} : stepF C q ops o s = some s' ↔ ∃ v, evOneF C q ops o s.1 s.2 = some (v, s'.2) ∧ (∀ d, o.dst = some d → d < C.ntmps) ∧ s'.1 = setF s.1 o.dst v := by
  unfold stepF
  rw [bnd_eq_some]
  constructor
  · rintro ⟨⟨v, h'⟩, h1, h2⟩
    cases hd : o.dst with
    | none =>
      rw [hd] at h2; simp at h2; subst h2
      exact ⟨v, h1, (fun d h => by cases h), rfl⟩
    | some d =>
      rw [hd] at h2; simp only at h2
      split at h2
      · rename_i hlt
        simp at h2; subst h2
        exact ⟨v, h1, (fun d' h => by simp at h; subst h; exact hlt), rfl⟩
      · cases h2
  · rintro ⟨v, h1, h2, h3⟩
    refine ⟨(v, s'.2), h1, ?_⟩
    cases hd : o.dst with
    | none => rw [hd] at h3; simp only; rw [Option.some.injEq]; exact Prod.ext h3.symm rfl
    | some d =>
      rw [hd] at h3
      simp only
      rw [if_pos (h2 d hd), Option.some.injEq]; exact Prod.ext h3.symm rfl

theorem setF_get {σ : Nat → AV} {d : Option Nat} {v : AV} {l : List Nat} (h : (match d with | some d => !l.contains d | none => true) = true) : ∀ t ∈ l, setF σ d v t = σ t := by
  intro t ht
  cases d with
  | none => rfl
  | some d =>
    simp only [setF, updF]
    rw [if_neg]
    rintro rfl
    simp at h
    exact h ht

theorem setF_comm {σ : Nat → AV} {d e : Option Nat} {v u : AV} (h : (match d, e with | some d, some e => decide (d ≠ e) | _, _ => true) = true) : setF (setF σ d v) e u = setF (setF σ e u) d v := by
  cases d with
  | none => rfl
  | some d =>
    cases e with
    | none => rfl
    | some e =>
      simp at h
      funext t
      simp only [setF, updF]
      by_cases h1 : t = d <;> by_cases h2 : t = e
      · exact absurd (h1.symm.trans h2) h
      all_goals simp [h1, h2]
      all_goals (try (intro h3; exact absurd (by omega) h))
      all_goals (try (intro h3; exact absurd h3.symm h))

/-- Two statements of which neither stands ahead: the one behind may run first. -/
theorem swapF {C : Ctx} {q : Bool} {ops : List Oper} {p o : Oper} (hf : pairFree q ops p o = true) {s s1 s2 : (Nat → AV) × Heap} (h1 : stepF C q ops p s = some s1) (h2 : stepF C q ops o s1 = some s2) :
    ∃ s3, stepF C q ops o s = some s3 ∧ stepF C q ops p s3 = some s2 := by
  unfold pairFree at hf
  simp only [Bool.and_eq_true] at hf
  obtain ⟨⟨⟨hk, hpo⟩, hop⟩, hdd⟩ := hf
  obtain ⟨v, a1, a2, a3⟩ := stepF_some.1 h1
  obtain ⟨u, b1, b2, b3⟩ := stepF_some.1 h2
  rw [a3] at b1
  rw [evOneF_congr (setF_get hpo)] at b1
  have back : ∀ h, evOneF C q ops p (setF s.1 o.dst u) h = evOneF C q ops p s.1 h := fun h => evOneF_congr (setF_get hop)
  have last : ∀ g, evOneF C q ops o s.1 s.2 = some (u, g) → evOneF C q ops p s.1 g = some (v, s2.2) → ∃ s3, stepF C q ops o s = some s3 ∧ stepF C q ops p s3 = some s2 := fun g c1 c2 =>
    ⟨(setF s.1 o.dst u, g), stepF_some.2 ⟨u, c1, b2, rfl⟩, stepF_some.2 ⟨v, by rw [back]; exact c2, a2, by rw [b3, a3]; exact setF_comm hdd⟩⟩
  by_cases kp : kindOf q p.op = .pure
  · obtain ⟨e1, e2⟩ := evOneF_pure kp a1
    rw [e1] at b1
    exact last _ b1 (e2 _)
  by_cases ko : kindOf q o.op = .pure
  · obtain ⟨e1, e2⟩ := evOneF_pure ko b1
    exact last _ (e2 _) (by rw [e1]; exact a1)
  cases hp : kindOf q p.op <;> cases ho : kindOf q o.op <;> simp only [hp, ho, pairOk] at hk kp ko <;> try (simp at hk kp ko; done)
  · obtain ⟨e1, e2⟩ := evOneF_read hp a1
    obtain ⟨e3, e4⟩ := evOneF_read ho b1
    rw [e1] at b1
    refine last _ b1 ?_
    rw [e3, e1]; rw [e1] at a1; exact a1
  · obtain ⟨e1, e2⟩ := evOneF_read hp a1
    rw [e1] at b1
    obtain ⟨t, ht⟩ := evOneF_alloc ho b1
    rw [ht] at b1
    refine last _ b1 ?_
    rw [ht]; exact e2 t

noncomputable def stepI (C : Ctx) (q : Bool) (ops : Array Oper) (i : Nat) (s : (Nat → AV) × Heap) : Option ((Nat → AV) × Heap) := match ops[i]? with
  | some o => stepF C q ops.toList o s
  | none => none

noncomputable def runI (C : Ctx) (q : Bool) (ops : Array Oper) : List Nat → (Nat → AV) × Heap → Option ((Nat → AV) × Heap)
  | [], s => some s
  | i :: is, s => bnd (stepI C q ops i s) (runI C q ops is)

theorem moveI {C : Ctx} {k : Bool} {ops : Array Oper} {j : Nat} {post : List Nat} : ∀ (pre : List Nat) (s s' : (Nat → AV) × Heap), runI C k ops (pre ++ j :: post) s = some s' →
    (∀ p ∈ pre, ∀ a b, ops[p]? = some a → ops[j]? = some b → pairFree k ops.toList a b = true) → runI C k ops (j :: (pre ++ post)) s = some s'
  | [], s, s', h, _ => h
  | p :: pre, s, s', h, hf => by
    simp only [List.cons_append, runI] at h
    obtain ⟨s1, h1, h2⟩ := bnd_eq_some.1 h
    have := moveI pre s1 s' h2 fun q hq => hf q (List.mem_cons_of_mem _ hq)
    simp only [runI] at this
    obtain ⟨s2, h3, h4⟩ := bnd_eq_some.1 this
    unfold stepI at h1 h3
    cases ha : ops[p]? with
    | none => rw [ha] at h1; cases h1
    | some a =>
      cases hb : ops[j]? with
      | none => rw [hb] at h3; cases h3
      | some b =>
        rw [ha] at h1; rw [hb] at h3
        obtain ⟨s3, g1, g2⟩ := swapF (hf p (List.mem_cons_self ..) a b ha hb) h1 h3
        simp only [List.cons_append, runI]
        refine bnd_eq_some.2 ⟨s3, by unfold stepI; rw [hb]; exact g1, bnd_eq_some.2 ⟨s2, by unfold stepI; rw [ha]; exact g2, h4⟩⟩

end Go.Vab

/-
  The text's order stands for every order.
-/
namespace Go.Vab
open Go

structure DrawFacts (q : Bool) (ops : Array Oper) (bs : Nat → Nat → Prop) : Prop where
  lt : ∀ i o, ops[i]? = some o → ∀ e ∈ o.after.toList, Region.binds .any e = true → e.on < i
  up : ∀ i o, ops[i]? = some o → ∀ p, bs i p → ∃ e ∈ o.after.toList, Region.binds .any e = true ∧ (e.on = p ∨ bs e.on p)
  free : ∀ i j o p, ops[i]? = some o → ops[j]? = some p → j < i → bs i j ∨ pairFree q ops.toList p o = true

theorem drawOk_facts {q : Bool} {ops : Array Oper} (h : drawOkQ q ops.toList = true) : DrawFacts q ops (fun i p => bef (befores ops.toList) i p = true) := by
  unfold drawOkQ at h
  rw [forced_eq] at h
  unfold drawOkB drawOkAt at h
  simp only [List.all_eq_true, Bool.and_eq_true, Bool.or_eq_true, Bool.not_eq_true', decide_eq_true_eq, decide_eq_false_iff_not, Prod.forall, List.mem_zipIdx_iff_getElem?, List.any_eq_true, Array.getElem?_toList, List.mem_range] at h
  refine ⟨fun i o ho e he hb => ?_, fun i o ho p hp => ?_, fun i j o p ho hp hlt => ?_⟩
  · rcases (h o i ho).1.1 e he with h1 | h1
    · rw [hb] at h1; cases h1
    · exact h1
  · have hpi : p < i := by unfold bef at hp; simp at hp; exact hp.1
    rcases (h o i ho).1.2 p hpi with h1 | h1
    · rw [hp] at h1; cases h1
    · exact h1
  · rcases (h o i ho).2 p j hp with (h1 | h1) | h1
    · exact absurd hlt h1
    · exact .inl h1
    · exact .inr h1

def leftI (n : Nat) (listed : Array Bool) : List Nat := (List.range n).filter fun i => !listed.getD i true

theorem leftI_mem {n : Nat} {listed : Array Bool} (hs : listed.size = n) {i : Nat} : i ∈ leftI n listed ↔ i < n ∧ listed.getD i false = false := by
  unfold leftI
  rw [List.mem_filter, List.mem_range]
  constructor
  · rintro ⟨h1, h2⟩
    refine ⟨h1, ?_⟩
    have : i < listed.size := by omega
    simpa [Array.getD, this] using h2
  · rintro ⟨h1, h2⟩
    refine ⟨h1, ?_⟩
    have : i < listed.size := by omega
    simpa [Array.getD, this] using h2

theorem getD_set {listed : Array Bool} {i k : Nat} (hi : i < listed.size) : (listed.setIfInBounds i true).getD k false = if k = i then true else listed.getD k false := by
  simp only [Array.getD_eq_getD_getElem?]
  by_cases h : k = i
  · subst h; simp [hi]
  · rw [Array.getElem?_setIfInBounds_ne (fun q => h q.symm), if_neg h]

theorem leftI_set {n : Nat} {listed : Array Bool} (hs : listed.size = n) {i : Nat} (hi : i < n) {pre post : List Nat} (h : leftI n listed = pre ++ i :: post) : leftI n (listed.setIfInBounds i true) = pre ++ post := by
  have e : leftI n (listed.setIfInBounds i true) = (leftI n listed).filter fun k => decide (k ≠ i) := by
    unfold leftI
    rw [List.filter_filter]
    apply List.filter_congr
    intro k hk
    have hk' := List.mem_range.1 hk
    simp only [Array.getD_eq_getD_getElem?]
    by_cases h : k = i
    · subst h; simp [hs, hi]
    · rw [Array.getElem?_setIfInBounds_ne (fun q => h q.symm)]; simp [h]
  have nd : (leftI n listed).Nodup := List.nodup_range.filter _
  rw [e, h]
  rw [h] at nd
  rw [List.nodup_append] at nd
  obtain ⟨_, n2, n3⟩ := nd
  rw [List.nodup_cons] at n2
  rw [List.filter_append, List.filter_cons]
  simp only [ne_eq, not_true_eq_false, decide_false, Bool.false_eq_true, if_false]
  rw [List.filter_eq_self.2, List.filter_eq_self.2]
  · intro a ha
    simp only [decide_eq_true_eq]
    rintro rfl; exact n2.1 ha
  · intro a ha
    simp only [decide_eq_true_eq]
    rintro rfl; exact n3 a ha a (List.mem_cons_self ..) rfl

theorem leftI_pre {n : Nat} {listed : Array Bool} {i : Nat} {pre post : List Nat} (h : leftI n listed = pre ++ i :: post) : ∀ p ∈ pre, p < i := by
  have so : (leftI n listed).Pairwise (· < ·) := List.pairwise_lt_range.filter _
  rw [h, List.pairwise_append] at so
  exact fun p hp => so.2.2 p hp i (List.mem_cons_self ..)

theorem readyF_mem {ops : Array Oper} {listed : Array Bool} {i : Nat} : i ∈ readyF ops listed ↔ i < ops.size ∧ listed.getD i true = false ∧ ∃ o, ops[i]? = some o ∧ ∀ e ∈ o.after.toList, Region.binds .any e = true → listed.getD e.on false = true := by
  unfold readyF
  rw [List.mem_filter, List.mem_range]
  constructor
  · rintro ⟨h1, h2⟩
    simp only [Bool.and_eq_true, Bool.not_eq_true'] at h2
    refine ⟨h1, h2.1, ops[i], Array.getElem?_eq_getElem h1, fun e he hb => ?_⟩
    have h3 := h2.2
    rw [Array.getElem?_eq_getElem h1] at h3
    simp only [Option.map_some, Option.getD_some, Array.all_eq_true'] at h3
    have := h3 e (by simpa using he)
    simpa [hb] using this
  · rintro ⟨h1, h2, o, ho, h3⟩
    refine ⟨h1, ?_⟩
    simp only [Bool.and_eq_true, Bool.not_eq_true']
    refine ⟨h2, ?_⟩
    rw [ho]
    simp only [Option.map_some, Option.getD_some, Array.all_eq_true']
    intro e he
    have := h3 e (by simpa using he)
    cases hb : Region.binds .any e
    · rfl
    · simp [this hb]

theorem any_of_run {C : Ctx} {qt : Bool} {ops : Array Oper} {bs : Nat → Nat → Prop} (D : DrawFacts qt ops bs) {q : (Nat → AV) × Heap → Prop} : ∀ (fuel : Nat) (listed : Array Bool) (s fin : (Nat → AV) × Heap),
    listed.size = ops.size → (∀ i, listed.getD i false = true → ∀ p, bs i p → listed.getD p false = true) → (leftI ops.size listed).length ≤ fuel →
    runI C qt ops (leftI ops.size listed) s = some fin → q fin → AnyRun C qt ops q fuel listed s := by
  have none : ∀ (listed : Array Bool), listed.size = ops.size → readyF ops listed = [] → leftI ops.size listed = [] := by
    intro listed hs hr
    have all : ∀ i, i < ops.size → listed.getD i false = true := by
      intro i
      induction i using Nat.strongRecOn with
      | _ i ih =>
        intro hi
        cases hc : listed.getD i false with
        | true => rfl
        | false =>
          exfalso
          have : i ∈ readyF ops listed := readyF_mem.2 ⟨hi, by
            have h2 : i < listed.size := by omega
            simpa [Array.getD, h2] using hc, ops[i], Array.getElem?_eq_getElem hi, fun e he hb => by
            have := D.lt i _ (Array.getElem?_eq_getElem hi) e he hb
            exact ih e.on this (by omega)⟩
          rw [hr] at this; cases this
    rw [List.eq_nil_iff_forall_not_mem]
    intro i hi
    obtain ⟨h1, h2⟩ := (leftI_mem hs).1 hi
    rw [all i h1] at h2; cases h2
  intro fuel
  induction fuel with
  | zero =>
    intro listed s fin hs hc hl hrun hq
    have hnil : leftI ops.size listed = [] := List.length_eq_zero_iff.1 (Nat.le_zero.1 hl)
    rw [hnil] at hrun
    simp [runI] at hrun; subst hrun
    refine ⟨?_, hq⟩
    rw [List.eq_nil_iff_forall_not_mem]
    intro i hi
    obtain ⟨h1, h2, _⟩ := readyF_mem.1 hi
    have : i ∈ leftI ops.size listed := (leftI_mem hs).2 ⟨h1, by
      have h3 : i < listed.size := by omega
      simpa [Array.getD, h3] using h2⟩
    rw [hnil] at this; cases this
  | succ fuel ih =>
    intro listed s fin hs hc hl hrun hq
    refine ⟨fun hr => ?_, fun i hi o ho => ?_⟩
    · rw [none listed hs hr] at hrun
      simp [runI] at hrun; subst hrun; exact hq
    · obtain ⟨h1, h2, o', ho', hafter⟩ := readyF_mem.1 hi
      rw [ho] at ho'; cases ho'
      have hilt : i < listed.size := by omega
      have h2' : listed.getD i false = false := by simpa [Array.getD, hilt] using h2
      have hmem : i ∈ leftI ops.size listed := (leftI_mem hs).2 ⟨h1, h2'⟩
      have hbs : ∀ p, bs i p → listed.getD p false = true := by
        intro p hp
        obtain ⟨e, he, hb, hor⟩ := D.up i o ho p hp
        have hle := hafter e he hb
        rcases hor with rfl | hor
        · exact hle
        · exact hc e.on hle p hor
      obtain ⟨pre, post, hsplit⟩ := List.append_of_mem hmem
      rw [hsplit] at hrun
      have hmv := moveI pre s fin hrun fun p hp a b ha hb => by
        rw [ho] at hb; cases hb
        have hpm : p ∈ leftI ops.size listed := by rw [hsplit]; exact List.mem_append_left _ hp
        rcases D.free i p o a ho ha (leftI_pre hsplit p hp) with h | h
        · have := hbs p h
          rw [((leftI_mem hs).1 hpm).2] at this; cases this
        · exact h
      simp only [runI] at hmv
      obtain ⟨s1, g1, g2⟩ := bnd_eq_some.1 hmv
      unfold stepI at g1
      rw [ho] at g1
      refine ⟨s1, g1, ?_⟩
      have hset := leftI_set hs h1 hsplit
      refine ih (listed.setIfInBounds i true) s1 fin (by simpa using hs) (fun k hk p hp => ?_) ?_ (by rw [hset]; exact g2) hq
      · rw [getD_set hilt] at hk ⊢
        split
        · rfl
        · split at hk
          · rename_i e; subst e; exact hbs p hp
          · exact hc k hk p hp
      · rw [hset]
        rw [hsplit] at hl
        simp at hl ⊢; omega

theorem evOps_run {C : Ctx} {q : Bool} {ops : Array Oper} {env : Env} (hv : VolFree C.vol env) : ∀ (os : List Oper) (k : Nat) (loc : Env) (h : Heap) (s' : St), (∀ j, os[j]? = ops[k + j]?) →
    evOps C q ops.toList os loc env h = some s' → ∃ fin, runI C q ops (List.range' k os.length) (look loc env, h) = some fin ∧ Ends C s' fin
  | [], k, loc, h, s', _, he => by
    simp [evOps] at he; subst he
    refine ⟨_, rfl, fun t ht => ?_, rfl⟩
    simp only [commit_get, ht, Bool.false_eq_true, if_false]
  | o :: os, k, loc, h, s', hl, he => by
    simp only [evOps] at he
    obtain ⟨⟨v, h1⟩, e1, e2⟩ := bnd_eq_some.1 he
    have h0 : ops[k]? = some o := by simpa using (hl 0).symm
    have hl' : ∀ j, os[j]? = ops[k + 1 + j]? := fun j => by
      have := hl (j + 1)
      simpa [Nat.add_assoc, Nat.add_comm 1 j] using this
    rw [List.length_cons, List.range'_succ]
    cases hd : o.dst with
    | none =>
      rw [hd] at e2
      obtain ⟨fin, g1, g2⟩ := evOps_run hv os (k + 1) loc h1 s' hl' e2
      refine ⟨fin, ?_, g2⟩
      simp only [runI]
      refine bnd_eq_some.2 ⟨(look loc env, h1), ?_, g1⟩
      unfold stepI; rw [h0]
      exact stepF_some.2 ⟨v, e1, (fun d hd' => by rw [hd] at hd'; cases hd'), by rw [hd]; rfl⟩
    | some d =>
      rw [hd] at e2
      simp only at e2
      split at e2
      · rename_i hlt
        obtain ⟨fin, g1, g2⟩ := evOps_run hv os (k + 1) ((d, v) :: loc) h1 s' hl' e2
        refine ⟨fin, ?_, g2⟩
        simp only [runI]
        refine bnd_eq_some.2 ⟨(look ((d, v) :: loc) env, h1), ?_, g1⟩
        unfold stepI; rw [h0]
        exact stepF_some.2 ⟨v, e1, (fun d' hd' => by rw [hd] at hd'; cases hd'; exact hlt), by
          rw [hd]; funext t; simp only [setF, updF, look_cons]⟩
      · cases e2

theorem AnyRun.mono {C : Ctx} {qt : Bool} {ops : Array Oper} {q q' : (Nat → AV) × Heap → Prop} (hq : ∀ s, q s → q' s) : ∀ (n : Nat) (listed : Array Bool) (s : (Nat → AV) × Heap), AnyRun C qt ops q n listed s → AnyRun C qt ops q' n listed s
  | 0, _, _, h => ⟨h.1, hq _ h.2⟩
  | n + 1, _, _, h => ⟨fun h0 => hq _ (h.1 h0), fun i hi o ho => by
    obtain ⟨s', h1, h2⟩ := h.2 i hi o ho
    exact ⟨s', h1, AnyRun.mono hq n _ s' h2⟩⟩

theorem evOps_vol {C : Ctx} {q : Bool} {ops : List Oper} {env : Env} : ∀ (os : List Oper) (loc : Env) (h : Heap) (s' : St), VolFree C.vol env →
    evOps C q ops os loc env h = some s' → VolFree C.vol s'.env
  | [], loc, h, s', hv, he => by
    simp [evOps] at he; subst he
    intro t ht
    simp only [commit_get, ht, if_true]; exact hv t ht
  | o :: os, loc, h, s', hv, he => by
    simp only [evOps] at he
    obtain ⟨⟨v, h1⟩, e1, e2⟩ := bnd_eq_some.1 he
    split at e2
    · split at e2
      · exact evOps_vol os _ _ s' hv e2
      · cases e2
    · exact evOps_vol os _ _ s' hv e2

theorem drawOk_any {C : Ctx} {q : Bool} {ops : Array Oper} {s s' : St} (hv : VolFree C.vol s.env) (hok : drawOkQ q ops.toList = true) (he : evOps C q ops.toList ops.toList [] s.env s.heap = some s') : AnyTo C q ops s s' := by
  obtain ⟨fin, h1, h2⟩ := evOps_run hv ops.toList 0 [] s.heap s' (fun j => by simp) he
  have h0 : leftI ops.size (Array.replicate ops.size false) = List.range' 0 ops.toList.length := by
    unfold leftI
    rw [List.range_eq_range', List.filter_eq_self.2]
    · simp
    · intro i hi
      have : i < ops.size := by simpa using hi
      simp [Array.getD, this]
  refine any_of_run (drawOk_facts hok) ops.size (Array.replicate ops.size false) (s.env.get, s.heap) fin (by simp) (fun i hi => ?_) (by rw [h0]; simp) ?_ h2
  · exfalso
    simp only [Array.getD_eq_getD_getElem?, Array.getElem?_replicate] at hi
    split at hi <;> simp at hi
  · rw [h0]
    have : look [] s.env = s.env.get := by funext t; exact look_nil _ _
    rw [← this]; exact h1

theorem draw_wp {P : Program} {C : Ctx} (T : TTok P C.tt) (hcall : CallOK P C.call) (hm : P.follows .mixedOrders = true) {ops : Array Oper} {Q : Exit → Act → World → Prop} {env : Env} {E : Gh} {h : Heap} {w : World} {a : Act} {s' : St} {id : Nat} {q : Bool}
    (R : RelHeap E h w) (hL : EnvR E env a) (hv : VolFree C.vol env) (hv' : VolFree C.vol s'.env) (hn : a.tmps.size = C.ntmps) (hok : AnyTo C q ops ⟨env, h⟩ s')
    (hQ : ∀ E' w' a', EnvR E' s'.env a' → VolFree C.vol s'.env → Moves E h w E' s'.heap w' → a'.defers = a.defers → a'.tmps.size = C.ntmps → Q .normal a' w') : (Code.region id ops true).wp P Q a w := by
  refine wp_region_any hm ?_
  have R' : RelHeap E h { w with drawn := w.drawn + 1 } := ⟨R.n, fun i b hb => ⟨(R.at_ i b hb).ver, (R.at_ i b hb).fits, (R.at_ i b hb).mp, (R.at_ i b hb).body, (R.at_ i b hb).grow⟩, R.inj⟩
  refine any_wp T hcall ops.size _ (env.get, h) E _ a R' hL hn hok fun s2 E' w' a' hs g1 g2 g3 g4 => ?_
  obtain ⟨q1, q2⟩ := hs
  refine hQ E' w' a' (fun t => ?_) hv' ?_ g3 g4
  · by_cases ht : C.vol.contains t = true
    · rw [hv' t ht]; simp only [VRel]
    · have := g1 t
      rw [q1 t (by simpa using ht)] at this
      exact this
  · rw [← q2]
    exact ⟨g2.ext, g2.rel, g2.size, g2.keep, g2.img, g2.io.os, g2.io.tape, g2.io.output⟩

end Go.Vab

/-
  Code and bodies: the evaluator's answer is what a call comes to.
-/
namespace Go.Vab
open Go

def Ex.out : Ex → Exit
  | .nrm => .normal
  | .exit id => .exit id
  | .ret => .ret

def Post (C : Ctx) (E : Gh) (h : Heap) (w : World) (ex : Ex) (s' : St) (e : Exit) (a' : Act) (w' : World) : Prop :=
  e = ex.out ∧ ∃ E', Moves E h w E' s'.heap w' ∧ EnvR E' s'.env a' ∧ VolFree C.vol s'.env ∧ a'.defers = [] ∧ a'.tmps.size = C.ntmps

def Runs (P : Program) (C : Ctx) (c : Code) (s : St) (ex : Ex) (s' : St) : Prop :=
  ∀ (E : Gh) (w : World) (a : Act), RelHeap E s.heap w → EnvR E s.env a → VolFree C.vol s.env → a.defers = [] → a.tmps.size = C.ntmps → c.wp P (Post C E s.heap w ex s') a w

theorem rounds_runs {P : Program} {C : Ctx} {c : Code} (hc : ∀ s ex s', evC C c s = some (ex, s') → Runs P C c s ex s') : ∀ (n : Nat) (s : St) (ex : Ex) (s' : St), roundsN (evC C c) n s = some (ex, s') →
    ∀ (E : Gh) (w : World) (a : Act), RelHeap E s.heap w → EnvR E s.env a → VolFree C.vol s.env → a.defers = [] → a.tmps.size = C.ntmps → Code.rounds P c (Post C E s.heap w ex s') n a w
  | 0, s, ex, s', he => by simp [roundsN] at he
  | n + 1, s, ex, s', he => by
    intro E w a R hL hv hd hn
    simp only [roundsN] at he
    obtain ⟨⟨ex1, s1⟩, h1, h2⟩ := bnd_eq_some.1 he
    rw [rounds_succ]
    refine wp_mono (hc s ex1 s1 h1 E w a R hL hv hd hn) fun e a' w' hp => ?_
    obtain ⟨rfl, E', m, g1, g2, g3, g4⟩ := hp
    cases ex1 with
    | nrm =>
      simp only at h2
      have := rounds_runs hc n s1 ex s' h2 E' w' a' m.rel g1 g2 g3 g4
      -- the invariant goes on from the loop's begin
      have key : ∀ (k : Nat) (a : Act) (w1 : World), Code.rounds P c (Post C E' s1.heap w' ex s') k a w1 → Code.rounds P c (Post C E s.heap w ex s') k a w1 := by
        intro k
        induction k with
        | zero => intro a w1 h; exact h
        | succ k ih =>
          intro a w1 h
          rw [rounds_succ] at h ⊢
          refine wp_mono h fun e a2 w2 hq => ?_
          cases e <;> simp only [Exit.then] at hq ⊢
          · exact ih _ _ hq
          all_goals
            obtain ⟨q1, E2, q2, q3⟩ := hq
            exact ⟨q1, E2, m.trans q2, q3⟩
      exact key n a' w' this
    | exit id =>
      simp at h2; obtain ⟨rfl, rfl⟩ := h2
      exact ⟨rfl, E', m, g1, g2, g3, g4⟩
    | ret =>
      simp at h2; obtain ⟨rfl, rfl⟩ := h2
      exact ⟨rfl, E', m, g1, g2, g3, g4⟩

theorem evLoop_some {f : St → Option (Ex × St)} {s : St} {r : Ex × St} (h : evLoop f s = some r) : ∃ n, roundsN f n s = some r := by
  unfold evLoop at h
  split at h
  · rename_i hx
    simp at h
    rw [← h]
    exact hx.choose_spec
  · cases h

theorem roundsN_mono {f : St → Option (Ex × St)} : ∀ (n : Nat) (s : St) (r : Ex × St), roundsN f n s = some r → roundsN f (n + 1) s = some r
  | 0, _, _, h => by simp [roundsN] at h
  | n + 1, s, r, h => by
    simp only [roundsN] at h ⊢
    obtain ⟨⟨e, s1⟩, h1, h2⟩ := bnd_eq_some.1 h
    rw [h1, bnd_some]
    cases e with
    | nrm => exact roundsN_mono n s1 r h2
    | _ => exact h2

theorem roundsN_le {f : St → Option (Ex × St)} {n m : Nat} {s : St} {r : Ex × St} (hle : n ≤ m) (h : roundsN f n s = some r) : roundsN f m s = some r := by
  induction hle with
  | refl => exact h
  | step _ ih => exact roundsN_mono _ _ _ ih

theorem evLoop_of {f : St → Option (Ex × St)} {s : St} {r : Ex × St} {n : Nat} (h : roundsN f n s = some r) : evLoop f s = some r := by
  unfold evLoop
  have hx : ∃ r, ∃ n, roundsN f n s = some r := ⟨r, n, h⟩
  rw [dif_pos hx]
  have hm := hx.choose_spec.choose_spec
  congr 1
  have h1 := roundsN_le (Nat.le_max_left n hx.choose_spec.choose) h
  have h2 := roundsN_le (Nat.le_max_right n hx.choose_spec.choose) hm
  rw [h1] at h2
  exact (Option.some.inj h2).symm

/-- A loop's round ahead of the others. -/
theorem evLoop_step {f : St → Option (Ex × St)} {s s1 : St} {r : Ex × St} (h : f s = some (.nrm, s1)) (h2 : evLoop f s1 = some r) : evLoop f s = some r := by
  obtain ⟨n, hn⟩ := evLoop_some h2
  exact evLoop_of (n := n + 1) (by simp only [roundsN, h, bnd_some]; exact hn)

theorem evLoop_exit {f : St → Option (Ex × St)} {s s1 : St} {id : Nat} (h : f s = some (.exit id, s1)) : evLoop f s = some (.exit id, s1) :=
  evLoop_of (n := 1) (by simp only [roundsN, h, bnd_some])

theorem evLoop_ret {f : St → Option (Ex × St)} {s s1 : St} (h : f s = some (.ret, s1)) : evLoop f s = some (.ret, s1) :=
  evLoop_of (n := 1) (by simp only [roundsN, h, bnd_some])

theorem evC_sound {P : Program} {C : Ctx} (T : TTok P C.tt) (hcall : CallOK P C.call) (hm : P.follows .mixedOrders = true) : ∀ (c : Code) (s : St) (ex : Ex) (s' : St), evC C c s = some (ex, s') → Runs P C c s ex s'
  | .skip, s, ex, s', he => by
    simp [evC] at he; obtain ⟨rfl, rfl⟩ := he
    exact fun E w a R hL hv hd hn => wp_skip ⟨rfl, E, Moves.refl R, hL, hv, hd, hn⟩
  | .exit id, s, ex, s', he => by
    simp [evC] at he; obtain ⟨rfl, rfl⟩ := he
    exact fun E w a R hL hv hd hn => wp_exit ⟨rfl, E, Moves.refl R, hL, hv, hd, hn⟩
  | .ret, s, ex, s', he => by
    simp [evC] at he; obtain ⟨rfl, rfl⟩ := he
    exact fun E w a R hL hv hd hn => wp_ret ⟨rfl, E, Moves.refl R, hL, hv, hd, hn⟩
  | .region id ops false, s, ex, s', he => by
    simp only [evC] at he
    obtain ⟨s1, h1, h2⟩ := bnd_eq_some.1 he
    simp at h2; obtain ⟨rfl, rfl⟩ := h2
    intro E w a R hL hv hd hn
    refine wp_region_list (ops_wp T hcall ops.toList [] s.env E s.heap w a s1 R (fun t => by rw [look_nil]; exact hL t) hv hn h1 fun E' w' a' g1 g2 g3 g4 g5 => ⟨rfl, E', g3, g1, g2, by rw [g4, hd], g5⟩)
  | .region id ops true, s, ex, s', he => by
    simp only [evC] at he
    split at he
    · rename_i hl
      obtain ⟨s1, h1, h2⟩ := bnd_eq_some.1 he
      simp at h2; obtain ⟨rfl, rfl⟩ := h2
      intro E w a R hL hv hd hn
      have hok' : AnyTo C false ops s s1 := drawOk_any hv (by unfold loud at hl; simp only [Bool.and_eq_true] at hl; exact hl.2) h1
      have hv' : VolFree C.vol s1.env := evOps_vol _ _ _ _ hv h1
      exact draw_wp T hcall hm (env := s.env) (h := s.heap) R hL hv hv' hn hok' fun E' w' a' g1 g2 g3 g4 g5 => ⟨rfl, E', g3, g1, g2, by rw [g4, hd], g5⟩
    obtain ⟨s1, h1, h2⟩ := bnd_eq_some.1 he
    split at h2
    · rename_i hok
      simp at h2; obtain ⟨rfl, rfl⟩ := h2
      intro E w a R hL hv hd hn
      have hok' : AnyTo C true ops s s1 := hok.elim (fun h => drawOk_any hv h h1) (fun h => h)
      have hv' : VolFree C.vol s1.env := evOps_vol _ _ _ _ hv h1
      exact draw_wp T hcall hm (env := s.env) (h := s.heap) R hL hv hv' hn hok' fun E' w' a' g1 g2 g3 g4 g5 => ⟨rfl, E', g3, g1, g2, by rw [g4, hd], g5⟩
    · cases h2
  | .seq x y, s, ex, s', he => by
    simp only [evC] at he
    obtain ⟨⟨ex1, s1⟩, h1, h2⟩ := bnd_eq_some.1 he
    intro E w a R hL hv hd hn
    refine wp_seq (wp_mono (evC_sound T hcall hm x s ex1 s1 h1 E w a R hL hv hd hn) fun e a' w' hp => ?_)
    obtain ⟨rfl, E', m, g1, g2, g3, g4⟩ := hp
    cases ex1 with
    | nrm =>
      simp only [Ex.out, Exit.then]
      refine wp_mono (evC_sound T hcall hm y s1 ex s' h2 E' w' a' m.rel g1 g2 g3 g4) fun e2 a2 w2 hq => ?_
      obtain ⟨q1, E2, q2, q3⟩ := hq
      exact ⟨q1, E2, m.trans q2, q3⟩
    | exit id =>
      simp [sqK] at h2; obtain ⟨rfl, rfl⟩ := h2
      exact ⟨rfl, E', m, g1, g2, g3, g4⟩
    | ret =>
      simp [sqK] at h2; obtain ⟨rfl, rfl⟩ := h2
      exact ⟨rfl, E', m, g1, g2, g3, g4⟩
  | .cond c x y, s, ex, s', he => by
    simp only [evC] at he
    unfold cnd at he
    split at he
    · rename_i t ht
      intro E w a R hL hv hd hn
      have hc : a.eval c = .bool t := by
        have := opv_rel (loc := []) (fun t => by rw [look_nil]; exact hL t) c
        rw [ht] at this; simpa only [VRel] using this
      refine wp_cond hc ?_
      cases t
      · simp only [Bool.false_eq_true, if_false] at he ⊢
        exact evC_sound T hcall hm y s ex s' he E w a R hL hv hd hn
      · simp only [if_true] at he ⊢
        exact evC_sound T hcall hm x s ex s' he E w a R hL hv hd hn
    · cases he
  | .block id c, s, ex, s', he => by
    simp only [evC] at he
    obtain ⟨⟨ex1, s1⟩, h1, h2⟩ := bnd_eq_some.1 he
    simp only [Option.some.injEq] at h2
    intro E w a R hL hv hd hn
    refine wp_block (wp_mono (evC_sound T hcall hm c s ex1 s1 h1 E w a R hL hv hd hn) fun e a' w' hp => ?_)
    obtain ⟨rfl, E', m, g1, g2, g3, g4⟩ := hp
    cases ex1 with
    | nrm =>
      simp [inBlk] at h2; obtain ⟨rfl, rfl⟩ := h2
      exact ⟨rfl, E', m, g1, g2, g3, g4⟩
    | ret =>
      simp [inBlk] at h2; obtain ⟨rfl, rfl⟩ := h2
      exact ⟨rfl, E', m, g1, g2, g3, g4⟩
    | exit j =>
      simp only [inBlk] at h2
      simp only [Ex.out, Exit.inBlock]
      by_cases hj : j = id
      · rw [if_pos hj] at h2 ⊢
        simp at h2; obtain ⟨rfl, rfl⟩ := h2
        exact ⟨rfl, E', m, g1, g2, g3, g4⟩
      · rw [if_neg hj] at h2 ⊢
        simp at h2; obtain ⟨rfl, rfl⟩ := h2
        exact ⟨rfl, E', m, g1, g2, g3, g4⟩
  | .loop c, s, ex, s', he => by
    simp only [evC] at he
    obtain ⟨n, hn'⟩ := evLoop_some he
    intro E w a R hL hv hd hn
    exact wp_loop_rounds n (rounds_runs (fun s ex s' h => evC_sound T hcall hm c s ex s' h) n s ex s' hn' E w a R hL hv hd hn)
  | .rangeFunc .., _, _, _, he => by simp [evC] at he
  | .scope _, _, _, _, he => by simp [evC] at he
  | .label _, _, _, _, he => by simp [evC] at he
  | .goto _, _, _, _, he => by simp [evC] at he
  | .refuse _, _, _, _, he => by simp [evC] at he

theorem enumFrom_get : ∀ (as : List AV) (n t : Nat), (enumFrom n as).get t = if n ≤ t then (match as[t - n]? with | some v => v | none => .junk) else .junk
  | [], n, t => by simp [enumFrom, Env.get]
  | a :: as, n, t => by
    simp only [enumFrom, Env.get, enumFrom_get as (n + 1) t]
    by_cases h : t = n
    · subst h; simp
    · rw [if_neg h]
      by_cases h2 : n ≤ t
      · have h3 : n + 1 ≤ t := by omega
        rw [if_pos h3, if_pos h2]
        obtain ⟨k, rfl⟩ : ∃ k, t = n + (k + 1) := ⟨t - n - 1, by omega⟩
        rw [show n + (k + 1) - (n + 1) = k by omega, show n + (k + 1) - n = k + 1 by omega]
        simp
      · rw [if_neg (by omega), if_neg h2]

theorem VRc.get {E : Gh} : ∀ (as : List AV) (xs : List Value) (k : Nat) (v : AV), VRc E as xs → as[k]? = some v → ∃ y, xs[k]? = some y ∧ VRel E v y
  | [], _, _, _, _, h => by simp at h
  | a :: as, xs, k, v, hr, h => by
    simp only [VRc] at hr
    obtain ⟨y, ys, rfl, h2, h3⟩ := hr
    cases k with
    | zero => simp at h; subst h; exact ⟨y, rfl, h2⟩
    | succ k => simpa using VRc.get as ys k v h3 (by simpa using h)

theorem VRc.length {E : Gh} : ∀ (as : List AV) (xs : List Value), VRc E as xs → xs.length = as.length
  | [], _, h => by simp only [VRc] at h; subst h; rfl
  | a :: as, xs, h => by
    simp only [VRc] at h
    obtain ⟨y, ys, rfl, _, h2⟩ := h
    simp [VRc.length as ys h2]

def resFn (tmps : Array Value) : ResultVar → Sem Value
  | .tmp t => pure (tmps.getD t Go.undef)
  | .cell p t => do loadVar t (← asAddr (tmps.getD p Go.undef))

theorem resAll_sound {P : Program} {C : Ctx} (T : TTok P C.tt) {E : Gh} {w : World} {s : St} {a : Act} (R : RelHeap E s.heap w) (hL : EnvR E s.env a) : ∀ (rs : List ResultVar) (vs : List AV), resAll C s rs = some vs →
    ∃ xs, (rs.mapM (resFn a.tmps)).run P w = .ok xs w ∧ VRc E vs xs
  | [], vs, h => by simp [resAll] at h; subst h; exact ⟨[], by simp, by simp only [VRc]⟩
  | r :: rs, vs, h => by
    simp only [resAll] at h
    obtain ⟨v, h1, h⟩ := bnd_eq_some.1 h
    obtain ⟨vs', h2, h⟩ := bnd_eq_some.1 h
    simp at h; subst h
    obtain ⟨xs, g1, g2⟩ := resAll_sound T R hL rs vs' h2
    cases r with
    | tmp t =>
      simp [resOf] at h1; subst h1
      refine ⟨a.tmps.getD t Go.undef :: xs, ?_, by simp only [VRc]; exact ⟨_, _, rfl, hL t, g2⟩⟩
      simp only [List.mapM_cons, resFn, Sem.run_bind, Sem.run_pure, Result.andThen_ok, g1]
    | cell p t =>
      simp only [resOf] at h1
      obtain ⟨i, hi, h1⟩ := withTy_some h1
      have hp := hL p
      cases hpv : s.env.get p with
      | ptr b ver path t' =>
        rw [hpv] at h1 hp
        obtain ⟨y, q1, q2⟩ := load_sound T R hi hp h1 (by simp)
        simp only [VRel] at hp
        obtain ⟨ad, had, _⟩ := hp
        refine ⟨y :: xs, ?_, by simp only [VRc]; exact ⟨_, _, rfl, q2, g2⟩⟩
        simp only [Instr.loadAt, had, Instr.sureAddr, Sem.run_bind, Sem.run_pure, Result.andThen_ok] at q1
        simp only [List.mapM_cons, resFn, Sem.run_bind, had, asAddr, Sem.run_pure, Result.andThen_ok, q1, g1]
      | win b ver path t' off n =>
        rw [hpv] at h1 hp
        simp only [mLoad] at h1
        split at h1
        · rename_i hbt
          obtain ⟨y, q1, q2⟩ := win_load T R hi hbt hp h1
          simp only [VRel] at hp
          obtain ⟨ad, had, _⟩ := hp
          refine ⟨y :: xs, ?_, by simp only [VRc]; exact ⟨_, _, rfl, q2, g2⟩⟩
          simp only [Instr.loadAt, had, Instr.sureAddr, Sem.run_bind, Sem.run_pure, Result.andThen_ok] at q1
          simp only [List.mapM_cons, resFn, Sem.run_bind, had, asAddr, Sem.run_pure, Result.andThen_ok, q1, g1]
        · cases h1
      | _ => rw [hpv] at h1; simp [mLoad] at h1

/-- THE THEOREM: what the evaluator makes of a body is what the call comes to. -/
theorem get_app_junk : ∀ (l pads : Env) (t : Nat), (∀ p ∈ pads, p.2 = AV.junk) → Env.get (l ++ pads) t = Env.get l t
  | [], [], _, _ => rfl
  | [], (k, v) :: pads, t, h => by
    have h1 := h (k, v) (List.mem_cons_self ..)
    simp only at h1; subst h1
    have h2 := get_app_junk [] pads t fun p hp => h p (List.mem_cons_of_mem _ hp)
    simp only [List.nil_append, Env.get] at h2 ⊢
    rw [h2]; simp
  | (k, v) :: l, pads, t, h => by
    simp only [List.cons_append, Env.get, get_app_junk l pads t h]

theorem env0_get (C : Ctx) (args : List AV) (t : Nat) : (env0 C args).get t = (enumFrom 0 args).get t :=
  get_app_junk _ _ _ fun p hp => by
    rw [List.mem_map] at hp
    obtain ⟨a, _, rfl⟩ := hp
    rfl

theorem body_sound {P : Program} {C : Ctx} (T : TTok P C.tt) (hcall : CallOK P C.call) (hm : P.follows .mixedOrders = true) {f : Nat} {fn : Func} {body : Code} (hf : P.funcs[f]? = some fn) (hb : fn.body = some body) (hnt : fn.ntmps = C.ntmps)
    {args : List AV} {h h' : Heap} {v : AV} (he : evBody C fn body args h = some (v, h')) : Spec P f args h v h' := by
  intro E w xs R hxs
  unfold evBody at he
  split at he
  · rename_i hvol
    rw [Bool.and_eq_true, decide_eq_true_eq] at hvol
    obtain ⟨hvol, hlen⟩ := hvol
    obtain ⟨⟨ex, s⟩, h1, h2⟩ := bnd_eq_some.1 he
    have hxl := VRc.length args xs hxs
    refine calls_of_wp hf hb ?_
    have hL : EnvR E (env0 C args) { tmps := xs.toArray ++ Array.replicate (fn.ntmps - xs.toArray.size) Go.undef, defers := [] } := by
      intro t
      rw [env0_get, enumFrom_get]
      simp only [Nat.zero_le, if_true, Nat.sub_zero]
      split
      · rename_i v hv
        obtain ⟨y, hy, hr⟩ := VRc.get args xs t v hxs hv
        have : (xs.toArray ++ Array.replicate (fn.ntmps - xs.toArray.size) Go.undef).getD t Go.undef = y := by
          rw [Array.getD_eq_getD_getElem?, Array.getElem?_append_left (by simp; exact (List.getElem?_eq_some_iff.1 hy).1)]
          simp [hy]
        rw [this]; exact hr
      · simp only [VRel]
    have hv : VolFree C.vol (env0 C args) := by
      intro t ht
      rw [env0_get, enumFrom_get]
      simp only [Nat.zero_le, if_true, Nat.sub_zero]
      have := (List.all_eq_true.1 hvol) t (by simpa using ht)
      rw [List.getElem?_eq_none (by simpa using this)]
    refine wp_mono (evC_sound T hcall hm body _ ex s h1 E w _ R hL hv rfl (by simp; omega)) fun e a' w' hp => ?_
    obtain ⟨rfl, E', m, g1, g2, g3, g4⟩ := hp
    have fin : ∀ vs, resAll C s fn.results.toList = some vs → oneOrTuple vs = v → s.heap = h' → ∃ x, (results fn a'.tmps).run P w' = .ok x w' ∧ VRel E' v x := by
      intro vs hvs hv1 _
      obtain ⟨ys, q1, q2⟩ := resAll_sound T m.rel g1 fn.results.toList vs hvs
      have hrun : (results fn a'.tmps).run P w' = .ok (if hs : ys.toArray.size = 1 then ys.toArray[0] else .tuple ys.toArray) w' := by
        have e1 : (fn.results.mapM (resFn a'.tmps)).run P w' = .ok ys.toArray w' := by
          rw [Array.mapM_eq_mapM_toList]
          simp [q1]
        have e2 : (results fn a'.tmps).run P w' = ((fn.results.mapM (resFn a'.tmps)).run P w').andThen fun vs w => .ok (if hs : vs.size = 1 then vs[0] else .tuple vs) w := by
          unfold results
          rw [Sem.run_bind]
          rfl
        rw [e2, e1]
        rfl
      refine ⟨_, hrun, ?_⟩
      subst hv1
      match vs, ys, q2 with
      | [], ys, q2 => simp only [VRc] at q2; subst q2; simp only [oneOrTuple, VRel]; exact ⟨[], by simp, by simp only [VRc]⟩
      | [v], ys, q2 =>
        simp only [VRc] at q2
        obtain ⟨y, l, rfl, z1, rfl⟩ := q2
        simpa [oneOrTuple] using z1
      | v1 :: v2 :: vs, ys, q2 =>
        have := VRc.length _ _ q2
        have hne : ¬ ys.toArray.size = 1 := by simp at this ⊢; omega
        rw [dif_neg hne]
        simp only [oneOrTuple, VRel]; exact ⟨ys, rfl, q2⟩
    have fin2 : (bnd (bnd (resAll C s fn.results.toList) fun vs => some (oneOrTuple vs)) fun v => some (v, s.heap)) = some (v, h') → bodyPost P fn (fun e w' => ∃ E' x, e = .returned x ∧ VRel E' v x ∧ Moves E h w E' h' w') .normal a' w' := by
      intro h3
      obtain ⟨v0, k1, k2⟩ := bnd_eq_some.1 h3
      obtain ⟨vs, k3, k4⟩ := bnd_eq_some.1 k1
      have k4 := Option.some.inj k4
      have k5 := Prod.mk.inj (Option.some.inj k2)
      obtain ⟨x, q1, q2⟩ := fin vs k3 (k4.trans k5.1) k5.2
      exact ⟨g3, x, q1, E', x, rfl, q2, by rw [← k5.2]; exact m⟩
    cases ex with
    | exit id => cases h2
    | nrm => exact fin2 h2
    | ret => exact fin2 h2
  · cases he

/-! how code is read -/

noncomputable def evOpsK {β : Type} (C : Ctx) (quiet : Bool) (ops : List Oper) (k : Env → Heap → Option β) : List Oper → Env → Env → Heap → Option β
  | [], loc, env, h => k (commit C.vol loc env) h
  | o :: os, loc, env, h => bnd (evOne C quiet ops o loc env h) fun r => match o.dst with
    | some d => if d < C.ntmps then evOpsK C quiet ops k os ((d, r.1) :: loc) env r.2 else none
    | none => evOpsK C quiet ops k os loc env r.2

theorem bnd_assoc {α β γ : Type} (x : Option α) (f : α → Option β) (g : β → Option γ) : bnd (bnd x f) g = bnd x fun a => bnd (f a) g := by cases x <;> rfl

theorem evOpsK_eq {β : Type} (C : Ctx) (quiet : Bool) (ops : List Oper) (k : Env → Heap → Option β) : ∀ (os : List Oper) (loc env : Env) (h : Heap), bnd (evOps C quiet ops os loc env h) (fun s => k s.env s.heap) = evOpsK C quiet ops k os loc env h
  | [], loc, env, h => rfl
  | o :: os, loc, env, h => by
    simp only [evOps, evOpsK, bnd_assoc]
    congr 1
    funext r
    cases o.dst with
    | none => exact evOpsK_eq C quiet ops k os loc env r.2
    | some d =>
      simp only
      split
      · exact evOpsK_eq C quiet ops k os _ env r.2
      · rfl

def cL : Code → Code | .seq a _ => a | .cond _ a _ => a | c => c
def cR : Code → Code | .seq _ b => b | .cond _ _ b => b | c => c
def cB : Code → Code | .block _ c => c | .loop c => c | c => c
def cOps : Code → Array Oper | .region _ ops _ => ops | _ => #[]
def bodyOf (f : Func) : Code := match f.body with | some c => c | none => .skip

def opAt (L : List Oper) (i : Nat) : Oper := match L.drop i with
  | o :: _ => o
  | [] => default

theorem opsK_p {β : Type} {C : Ctx} {q : Bool} {L : List Oper} {k : Env → Heap → Option β} {i : Nat} {loc env : Env} {h : Heap} {X : Option (AV × Heap)} {Y : AV × Heap → Option β} (d : Nat)
    (hl : List.drop i L = opAt L i :: List.drop (i + 1) L) (hd : (opAt L i).dst = some d) (hlt : decide (d < C.ntmps) = true) (h1 : evOne C q L (opAt L i) loc env h = X)
    (h2 : ∀ r : AV × Heap, evOpsK C q L k (List.drop (i + 1) L) ((d, r.1) :: loc) env r.2 = Y r) : evOpsK C q L k (List.drop i L) loc env h = bnd X Y := by
  rw [hl]
  simp only [evOpsK, h1, hd, of_decide_eq_true hlt, if_true]
  congr 1
  funext r
  exact h2 r

theorem opsK_n {β : Type} {C : Ctx} {q : Bool} {L : List Oper} {k : Env → Heap → Option β} {i : Nat} {loc env : Env} {h : Heap} {X : Option (AV × Heap)} {Y : AV × Heap → Option β}
    (hl : List.drop i L = opAt L i :: List.drop (i + 1) L) (hd : (opAt L i).dst = none) (h1 : evOne C q L (opAt L i) loc env h = X)
    (h2 : ∀ r : AV × Heap, evOpsK C q L k (List.drop (i + 1) L) loc env r.2 = Y r) : evOpsK C q L k (List.drop i L) loc env h = bnd X Y := by
  rw [hl]
  simp only [evOpsK, h1, hd]
  congr 1
  funext r
  exact h2 r

theorem opsK_t {β : Type} {C : Ctx} {q : Bool} {L : List Oper} {k : Env → Heap → Option β} {i : Nat} {loc env : Env} {h : Heap} {Y : Option β} (d : Nat) (v : AV)
    (hl : List.drop i L = opAt L i :: List.drop (i + 1) L) (hd : (opAt L i).dst = some d) (hlt : decide (d < C.ntmps) = true) (h1 : evOne C q L (opAt L i) loc env h = some (v, h))
    (h2 : evOpsK C q L k (List.drop (i + 1) L) ((d, v) :: loc) env h = Y) : evOpsK C q L k (List.drop i L) loc env h = Y := by
  rw [hl]
  simp only [evOpsK, h1, hd, of_decide_eq_true hlt, if_true, bnd_some]
  exact h2

theorem opsK_0 {β : Type} {C : Ctx} {q : Bool} {L : List Oper} {k : Env → Heap → Option β} {env : Env} {h : Heap} {Y : Option β} (h1 : evOpsK C q L k (List.drop 0 L) [] env h = Y) : evOpsK C q L k L [] env h = Y := h1

theorem opsK_e {β : Type} {C : Ctx} {q : Bool} {L : List Oper} {k : Env → Heap → Option β} {i : Nat} {loc env : Env} {h : Heap} {Y : Option β} (hl : List.drop i L = []) (h1 : k (commit C.vol loc env) h = Y) : evOpsK C q L k (List.drop i L) loc env h = Y := by
  rw [hl]; exact h1

theorem ev_seqreg {C : Ctx} {n : Code} {env : Env} {h : Heap} (id : Nat) (ops : Array Oper) (rest : Code) (hn : n = .seq (.region id ops false) rest) :
    evC C n ⟨env, h⟩ = evOpsK C false ops.toList (fun e g => evC C rest ⟨e, g⟩) ops.toList [] env h := by
  subst hn
  rw [← evOpsK_eq]
  simp only [evC, bnd_assoc, bnd_some, sqK_nrm]

theorem ev_reg {C : Ctx} {n : Code} {env : Env} {h : Heap} (id : Nat) (ops : Array Oper) (hn : n = .region id ops false) :
    evC C n ⟨env, h⟩ = evOpsK C false ops.toList (fun e g => some (.nrm, ⟨e, g⟩)) ops.toList [] env h := by
  subst hn
  rw [← evOpsK_eq]
  simp only [evC]

theorem drawOk_iff {ops : List Oper} (h : drawOk ops = true) : drawOkQ true ops = true ∧ loud ops = false := by
  unfold drawOk at h
  simpa only [Bool.and_eq_true, Bool.not_eq_true'] using h

theorem ev_seqdrawL {C : Ctx} {n : Code} {env : Env} {h : Heap} (id : Nat) (ops : Array Oper) (rest : Code) (hn : n = .seq (.region id ops true) rest) (hok : loud ops.toList = true) :
    evC C n ⟨env, h⟩ = evOpsK C false ops.toList (fun e g => evC C rest ⟨e, g⟩) ops.toList [] env h := by
  subst hn
  rw [← evOpsK_eq]
  simp only [evC, hok, if_true, bnd_assoc, bnd_some, sqK_nrm]

theorem ev_seqdraw {C : Ctx} {n : Code} {env : Env} {h : Heap} (id : Nat) (ops : Array Oper) (rest : Code) (hn : n = .seq (.region id ops true) rest) (hok : drawOk ops.toList = true) :
    evC C n ⟨env, h⟩ = evOpsK C true ops.toList (fun e g => evC C rest ⟨e, g⟩) ops.toList [] env h := by
  subst hn
  rw [← evOpsK_eq]
  obtain ⟨h1, h2⟩ := drawOk_iff hok
  simp only [evC, h1, h2, true_or, if_true, Bool.false_eq_true, if_false, bnd_assoc, bnd_some, sqK_nrm]

open Classical in
/-- What is left to be shown where the order of a statement is open and the general law does not know it. -/
noncomputable def anyK (C : Ctx) (ops : Array Oper) (s : St) (e : Env) (g : Heap) : Option (Ex × St) := if AnyTo C true ops s ⟨e, g⟩ then some (.nrm, ⟨e, g⟩) else none

theorem ev_drawany {C : Ctx} {n : Code} {env : Env} {h : Heap} (id : Nat) (ops : Array Oper) (hn : n = .region id ops true) (hok : drawOkQ true ops.toList = false) (hl : loud ops.toList = false) :
    evC C n ⟨env, h⟩ = evOpsK C true ops.toList (fun e g => anyK C ops ⟨env, h⟩ e g) ops.toList [] env h := by
  subst hn
  rw [← evOpsK_eq]
  simp only [evC, hl, Bool.false_eq_true, if_false]
  congr 1
  funext s
  by_cases hA : AnyTo C true ops ⟨env, h⟩ s
  · rw [if_pos (Or.inr hA)]; unfold anyK; rw [if_pos hA]
  · rw [if_neg (fun q => q.elim (fun h => by rw [hok] at h; cases h) hA)]; unfold anyK; rw [if_neg hA]

theorem ev_seqdrawany {C : Ctx} {n : Code} {env : Env} {h : Heap} (id : Nat) (ops : Array Oper) (rest : Code) (hn : n = .seq (.region id ops true) rest) (hok : drawOkQ true ops.toList = false) (hl : loud ops.toList = false) :
    evC C n ⟨env, h⟩ = evOpsK C true ops.toList (fun e g => bnd (anyK C ops ⟨env, h⟩ e g) (sqK (evC C rest))) ops.toList [] env h := by
  subst hn
  rw [← evOpsK_eq]
  simp only [evC, hl, Bool.false_eq_true, if_false, bnd_assoc]
  congr 1
  funext s
  by_cases hA : AnyTo C true ops ⟨env, h⟩ s
  · rw [if_pos (Or.inr hA)]; unfold anyK; rw [if_pos hA]
  · rw [if_neg (fun q => q.elim (fun h => by rw [hok] at h; cases h) hA)]; unfold anyK; rw [if_neg hA]

theorem ev_draw {C : Ctx} {n : Code} {env : Env} {h : Heap} (id : Nat) (ops : Array Oper) (hn : n = .region id ops true) (hok : drawOk ops.toList = true) :
    evC C n ⟨env, h⟩ = evOpsK C true ops.toList (fun e g => some (.nrm, ⟨e, g⟩)) ops.toList [] env h := by
  subst hn
  rw [← evOpsK_eq]
  obtain ⟨h1, h2⟩ := drawOk_iff hok
  simp only [evC, h1, h2, true_or, if_true, Bool.false_eq_true, if_false]

theorem ev_seq {C : Ctx} {n : Code} {s : St} (a b : Code) (hn : n = .seq a b) : evC C n s = bnd (evC C a s) (sqK (evC C b)) := by subst hn; rfl
theorem ev_cond {C : Ctx} {n : Code} {s : St} (t : Nat) (a b : Code) (hn : n = .cond (.tmp t) a b) : evC C n s = cnd (s.env.get t) (evC C a s) (evC C b s) := by subst hn; rfl
theorem ev_block {C : Ctx} {n : Code} {s : St} (id : Nat) (c : Code) (hn : n = .block id c) : evC C n s = bnd (evC C c s) fun r => some (inBlk id r) := by subst hn; rfl
theorem ev_loop {C : Ctx} {n : Code} {s : St} (c : Code) (hn : n = .loop c) : evC C n s = evLoop (evC C c) s := by subst hn; rfl
theorem ev_exit {C : Ctx} {n : Code} {s : St} (id : Nat) (hn : n = .exit id) : evC C n s = some (.exit id, s) := by subst hn; rfl
theorem ev_ret {C : Ctx} {n : Code} {s : St} (hn : n = .ret) : evC C n s = some (.ret, s) := by subst hn; rfl
theorem ev_skip {C : Ctx} {n : Code} {s : St} (hn : n = .skip) : evC C n s = some (.nrm, s) := by subst hn; rfl

@[simp] theorem inBlk_nrm (id : Nat) (s : St) : inBlk id (.nrm, s) = (.nrm, s) := rfl
@[simp] theorem inBlk_ret (id : Nat) (s : St) : inBlk id (.ret, s) = (.ret, s) := rfl
@[simp] theorem inBlk_exit (id j : Nat) (s : St) : inBlk id (.exit j, s) = if j = id then (.nrm, s) else (.exit j, s) := rfl

end Go.Vab

/-
  Memory that nobody looks at any more is let go of.
-/
namespace Go.Vab
open Go

mutual
def AV.under (n : Nat) : AV → Bool
  | .ptr i _ _ _ => decide (i < n)
  | .win i _ _ _ _ _ => decide (i < n)
  | .slice i _ _ _ _ _ _ => decide (i < n)
  | .map i => decide (i < n)
  | .fn _ caps => AV.unders n caps
  | .node vs => AV.unders n vs
  | .tuple vs => AV.unders n vs
  | _ => true
def AV.unders (n : Nat) : List AV → Bool
  | [] => true
  | v :: vs => v.under n && AV.unders n vs
end

def Gh.cut (E : Gh) (n : Nat) : Gh := { E with n := n }

mutual
theorem VRl.under {E : Gh} : ∀ (v : AV) (l : List Value), VRl E v l → v.under E.n = true
  | .bool _, _, _ => rfl
  | .int _ _, _, _ => rfl
  | .str _, _, _ => rfl
  | .nilptr, _, _ => rfl
  | .ptr .., _, hr => by simp only [VRl] at hr; obtain ⟨a, _, hp⟩ := hr; simpa [AV.under] using hp.1
  | .win .., _, hr => by simp only [VRl] at hr; obtain ⟨a, _, hp⟩ := hr; simpa [AV.under] using hp.1
  | .nilslice, _, _ => rfl
  | .slice .., _, hr => by simp only [VRl] at hr; obtain ⟨a, c, _, hp⟩ := hr; simpa [AV.under] using hp.1
  | .nilmap, _, _ => rfl
  | .nilfn, _, _ => rfl
  | .fn _ caps, _, hr => by simp only [VRl] at hr; obtain ⟨cs, _, hp⟩ := hr; simpa [AV.under] using VRc.under caps cs hp
  | .ints _ _, _, _ => rfl
  | .node vs, l, hr => by simp only [VRl] at hr; simpa [AV.under] using VRs.under vs l hr
  | .junk, _, _ => rfl
  | .undef, _, _ => rfl
  | .map _, _, hr => by simp only [VRl] at hr
  | .tuple _, _, hr => by simp only [VRl] at hr
theorem VRs.under {E : Gh} : ∀ (vs : List AV) (l : List Value), VRs E vs l → AV.unders E.n vs = true
  | [], _, _ => rfl
  | v :: vs, l, hr => by
    simp only [VRs] at hr
    obtain ⟨l1, l2, _, h1, h2⟩ := hr
    simp [AV.unders, VRl.under v l1 h1, VRs.under vs l2 h2]
theorem VRel.under {E : Gh} : ∀ (v : AV) (x : Value), VRel E v x → v.under E.n = true
  | .bool _, _, _ => rfl
  | .int _ _, _, _ => rfl
  | .str _, _, _ => rfl
  | .nilptr, _, _ => rfl
  | .ptr .., _, hr => by simp only [VRel] at hr; obtain ⟨a, _, hp⟩ := hr; simpa [AV.under] using hp.1
  | .win .., _, hr => by simp only [VRel] at hr; obtain ⟨a, _, hp⟩ := hr; simpa [AV.under] using hp.1
  | .nilslice, _, _ => rfl
  | .slice .., _, hr => by simp only [VRel] at hr; obtain ⟨a, c, _, hp⟩ := hr; simpa [AV.under] using hp.1
  | .nilmap, _, _ => rfl
  | .nilfn, _, _ => rfl
  | .fn _ caps, _, hr => by simp only [VRel] at hr; obtain ⟨cs, _, hp⟩ := hr; simpa [AV.under] using VRc.under caps cs hp
  | .ints _ _, _, _ => rfl
  | .node vs, _, hr => by simp only [VRel] at hr; obtain ⟨l, _, h⟩ := hr; simpa [AV.under] using VRs.under vs l h
  | .junk, _, _ => rfl
  | .undef, _, _ => rfl
  | .map _, _, hr => by simp only [VRel] at hr; obtain ⟨a, _, hp⟩ := hr; simpa [AV.under] using hp.1
  | .tuple vs, _, hr => by simp only [VRel] at hr; obtain ⟨l, _, h⟩ := hr; simpa [AV.under] using VRc.under vs l h
theorem VRc.under {E : Gh} : ∀ (vs : List AV) (l : List Value), VRc E vs l → AV.unders E.n vs = true
  | [], _, _ => rfl
  | v :: vs, l, hr => by
    simp only [VRc] at hr
    obtain ⟨x, xs, _, h1, h2⟩ := hr
    simp [AV.unders, VRel.under v x h1, VRc.under vs xs h2]
end

section
variable {E : Gh} {n : Nat}

theorem PtrAt.cut {i ver path t a} (hi : i < n) (h : PtrAt E i ver path t a) : PtrAt (E.cut n) i ver path t a := ⟨hi, h.2⟩
theorem WinAt.cut {i ver path t o a} (hi : i < n) (h : WinAt E i ver path t o a) : WinAt (E.cut n) i ver path t o a := ⟨hi, h.2⟩
theorem SlcAt.cut {i ver path t o l c a d} (hi : i < n) (h : SlcAt E i ver path t o l c a d) : SlcAt (E.cut n) i ver path t o l c a d := ⟨hi, h.2⟩
end

mutual
theorem VRl.cut {E : Gh} {n : Nat} : ∀ (v : AV) (l : List Value), v.under n = true → VRl E v l → VRl (E.cut n) v l
  | .bool _, _, _, hr => by simpa only [VRl] using hr
  | .int _ _, _, _, hr => by simpa only [VRl] using hr
  | .str _, _, _, hr => by simpa only [VRl] using hr
  | .nilptr, _, _, hr => by simpa only [VRl] using hr
  | .ptr .., _, hb, hr => by
    simp only [VRl] at hr ⊢
    obtain ⟨a, e, hp⟩ := hr; exact ⟨a, e, hp.cut (by simpa [AV.under] using hb)⟩
  | .win .., _, hb, hr => by
    simp only [VRl] at hr ⊢
    obtain ⟨a, e, hp⟩ := hr; exact ⟨a, e, hp.cut (by simpa [AV.under] using hb)⟩
  | .nilslice, _, _, hr => by simpa only [VRl] using hr
  | .slice .., _, hb, hr => by
    simp only [VRl] at hr ⊢
    obtain ⟨a, c, e, hp⟩ := hr; exact ⟨a, c, e, hp.cut (by simpa [AV.under] using hb)⟩
  | .nilmap, _, _, hr => by simpa only [VRl] using hr
  | .nilfn, _, _, hr => by simpa only [VRl] using hr
  | .fn _ caps, _, hb, hr => by
    simp only [VRl] at hr ⊢
    obtain ⟨cs, e, hp⟩ := hr; exact ⟨cs, e, VRc.cut caps cs (by simpa [AV.under] using hb) hp⟩
  | .ints _ _, _, _, hr => by simpa only [VRl] using hr
  | .node vs, l, hb, hr => by simp only [VRl] at hr ⊢; exact VRs.cut vs l (by simpa [AV.under] using hb) hr
  | .junk, _, _, hr => by simp only [VRl] at hr
  | .undef, _, _, hr => by simp only [VRl] at hr
  | .map _, _, _, hr => by simp only [VRl] at hr
  | .tuple _, _, _, hr => by simp only [VRl] at hr
theorem VRs.cut {E : Gh} {n : Nat} : ∀ (vs : List AV) (l : List Value), AV.unders n vs = true → VRs E vs l → VRs (E.cut n) vs l
  | [], _, _, hr => by simpa only [VRs] using hr
  | v :: vs, l, hb, hr => by
    simp only [AV.unders, Bool.and_eq_true] at hb
    simp only [VRs] at hr ⊢
    obtain ⟨l1, l2, e, h1, h2⟩ := hr
    exact ⟨l1, l2, e, VRl.cut v l1 hb.1 h1, VRs.cut vs l2 hb.2 h2⟩
theorem VRel.cut {E : Gh} {n : Nat} : ∀ (v : AV) (x : Value), v.under n = true → VRel E v x → VRel (E.cut n) v x
  | .bool _, _, _, hr => by simpa only [VRel] using hr
  | .int _ _, _, _, hr => by simpa only [VRel] using hr
  | .str _, _, _, hr => by simpa only [VRel] using hr
  | .nilptr, _, _, hr => by simpa only [VRel] using hr
  | .ptr .., _, hb, hr => by
    simp only [VRel] at hr ⊢
    obtain ⟨a, e, hp⟩ := hr; exact ⟨a, e, hp.cut (by simpa [AV.under] using hb)⟩
  | .win .., _, hb, hr => by
    simp only [VRel] at hr ⊢
    obtain ⟨a, e, hp⟩ := hr; exact ⟨a, e, hp.cut (by simpa [AV.under] using hb)⟩
  | .nilslice, _, _, hr => by simpa only [VRel] using hr
  | .slice .., _, hb, hr => by
    simp only [VRel] at hr ⊢
    obtain ⟨a, c, e, hp⟩ := hr; exact ⟨a, c, e, hp.cut (by simpa [AV.under] using hb)⟩
  | .nilmap, _, _, hr => by simpa only [VRel] using hr
  | .nilfn, _, _, hr => by simpa only [VRel] using hr
  | .fn _ caps, _, hb, hr => by
    simp only [VRel] at hr ⊢
    obtain ⟨cs, e, hp⟩ := hr; exact ⟨cs, e, VRc.cut caps cs (by simpa [AV.under] using hb) hp⟩
  | .ints _ _, _, _, hr => by simpa only [VRel] using hr
  | .node vs, _, hb, hr => by
    simp only [VRel] at hr ⊢
    obtain ⟨l, e, hp⟩ := hr; exact ⟨l, e, VRs.cut vs l (by simpa [AV.under] using hb) hp⟩
  | .junk, _, _, _ => by simp only [VRel]
  | .undef, _, _, hr => by simpa only [VRel] using hr
  | .map i, _, hb, hr => by
    simp only [VRel] at hr ⊢
    obtain ⟨a, e, hp⟩ := hr; exact ⟨a, e, (of_decide_eq_true hb : i < n), hp.2⟩
  | .tuple vs, _, hb, hr => by
    simp only [VRel] at hr ⊢
    obtain ⟨xs, e, hp⟩ := hr; exact ⟨xs, e, VRc.cut vs xs (by simpa [AV.under] using hb) hp⟩
theorem VRc.cut {E : Gh} {n : Nat} : ∀ (vs : List AV) (l : List Value), AV.unders n vs = true → VRc E vs l → VRc (E.cut n) vs l
  | [], _, _, hr => by simpa only [VRc] using hr
  | v :: vs, l, hb, hr => by
    simp only [AV.unders, Bool.and_eq_true] at hb
    simp only [VRc] at hr ⊢
    obtain ⟨x, xs, e, h1, h2⟩ := hr
    exact ⟨x, xs, e, VRel.cut v x hb.1 h1, VRc.cut vs xs hb.2 h2⟩
end

theorem unders_ints (n : Nat) : ∀ ks : List (List Int), AV.unders n (ks.map (AV.ints .u8)) = true
  | [] => rfl
  | k :: ks => by simp [AV.unders, AV.under, unders_ints n ks]
theorem MapAt.under {E : Gh} {w : World} {i : Nat} {v : AV} (h : MapAt E w i v) (n : Nat) : v.under n = true := by
  obtain ⟨ks, es, clock, rfl, _⟩ := h
  simp [AV.under, unders_ints]
theorem BlkAt.under {E : Gh} {w : World} {i : Nat} {b : Blk} (h : BlkAt E w i b) : b.v.under E.n = true := by
  by_cases hm : b.mode = .mp
  · exact (h.mp hm).under _
  · obtain ⟨l, h1, _⟩ := h.body hm
    exact VRl.under _ _ h1

theorem Moves.cut {E E' : Gh} {h h1 t : Heap} {w w' : World} (R : RelHeap E h w) (m : Moves E h w E' (h1 ++ t) w') (hl : h1.length = h.length)
    (hb : ∀ (i : Nat) (b : Blk), h1[i]? = some b → (∃ c : Blk, h[i]? = some c ∧ c.v = b.v) ∨ b.v.under h.length = true) : Moves E h w (E'.cut h.length) h1 w' := by
  have get : ∀ (i : Nat) (b : Blk), h1[i]? = some b → (h1 ++ t)[i]? = some b := fun i b hi => by
    rw [List.getElem?_append_left (List.getElem?_eq_some_iff.1 hi).1]; exact hi
  refine ⟨⟨Nat.le_of_eq R.n, fun i hi => m.ext.ver i hi, fun i hi => m.ext.many i hi, fun i hi => m.ext.ty i hi, fun i hi => m.ext.same i hi⟩, ⟨hl.symm, fun i b hi => ?_, fun i j b c hi hj => ?_⟩, m.size, m.keep, fun x hx => ?_, m.io⟩
  · have q := m.rel.at_ i b (get i b hi)
    refine ⟨q.ver, q.fits, q.mp, fun hm => ?_, q.grow⟩
    obtain ⟨l, h1, h2, h3⟩ := q.body hm
    refine ⟨l, VRl.cut _ _ ?_ h1, h2, h3⟩
    rcases hb i b hi with ⟨c, hc, hv⟩ | hbel
    · have := (R.at_ i c hc).under
      rw [R.n, hv] at this; exact this
    · exact hbel
  · exact m.rel.inj i j b c (get i b hi) (get j c hj)
  · obtain ⟨i, c, hi, ho, he⟩ := hx
    exact m.img x ⟨i, c, get i c hi, ho, he⟩

theorem Spec.drop {P : Program} {f : Nat} {args : List AV} {h h1 : Heap} {v : AV} (t : Heap) (hs : Spec P f args h v (h1 ++ t)) (hl : h1.length = h.length)
    (hb : ∀ (i : Nat) (b : Blk), h1[i]? = some b → (∃ c : Blk, h[i]? = some c ∧ c.v = b.v) ∨ b.v.under h.length = true) (hv : v.under h.length = true) : Spec P f args h v h1 := by
  intro E w xs R hxs
  refine (hs E w xs R hxs).mono fun e w' hp => ?_
  obtain ⟨E', x, rfl, h1, h2⟩ := hp
  exact ⟨E'.cut h.length, x, rfl, VRel.cut _ _ hv h1, h2.cut R hl hb⟩

/-- The memory is as it was, and what is answered points nowhere new. -/
theorem Spec.drop0 {P : Program} {f : Nat} {args : List AV} {h : Heap} {v : AV} (t : Heap) (hs : Spec P f args h v (h ++ t)) (hv : v.under h.length = true) : Spec P f args h v h :=
  hs.drop t rfl (fun i b hb => .inl ⟨b, hb, rfl⟩) hv

end Go.Vab

/-
  A table of types, checked against a program by one computation.
-/
namespace Go.Vab
open Go

def tabOf (l : List (Nat × TI)) (t : Nat) : Option TI := match l with
  | [] => none
  | (k, i) :: r => if t = k then some i else tabOf r t

def valB : Value → Value → Bool
  | .bool a, .bool b => a == b
  | .int k a, .int k' b => decide (k = k') && decide (a = b)
  | .string a, .string b => decide (a.data.toList = b.data.toList)
  | .pointer none, .pointer none => true
  | .slice none a b, .slice none c d => decide (a = c) && decide (b = d)
  | .map none, .map none => true
  | .nilFunc, .nilFunc => true
  | _, _ => false

theorem valB_eq {a b : Value} (h : valB a b = true) : a = b := by
  unfold valB at h
  split at h <;> try (cases h; done)
  all_goals first
    | rfl
    | (simp at h; rw [h])
    | (simp at h; rw [h.1, h.2])
    | skip
  rename_i a b
  simp at h
  congr 1
  cases a; cases b
  simp only at h
  congr 1

def valsB : List Value → List Value → Bool
  | [], [] => true
  | a :: as, b :: bs => valB a b && valsB as bs
  | _, _ => false

theorem valsB_eq : ∀ {as bs : List Value}, valsB as bs = true → as = bs
  | [], [], _ => rfl
  | a :: as, b :: bs, h => by
    simp only [valsB, Bool.and_eq_true] at h
    rw [valB_eq h.1, valsB_eq h.2]
  | [], _ :: _, h => by simp [valsB] at h
  | _ :: _, [], h => by simp [valsB] at h

mutual
def zfl : AV → Option (List Value)
  | .bool b => some [.bool b]
  | .int k n => some [.int k n]
  | .str s => some [.string s]
  | .nilptr => some [.pointer none]
  | .nilslice => some [.slice none 0 0]
  | .nilmap => some [.map none]
  | .nilfn => some [.nilFunc]
  | .ints k xs => some (xs.map (Value.int k))
  | .node vs => zfls vs
  | _ => none
def zfls : List AV → Option (List Value)
  | [] => some []
  | v :: vs => match zfl v, zfls vs with
    | some a, some b => some (a ++ b)
    | _, _ => none
end

mutual
theorem zfl_rel (E : Gh) : ∀ (v : AV) (l : List Value), zfl v = some l → VRl E v l
  | .bool _, l, h => by simp [zfl] at h; simp only [VRl]; exact h.symm
  | .int _ _, l, h => by simp [zfl] at h; simp only [VRl]; exact h.symm
  | .str _, l, h => by simp [zfl] at h; simp only [VRl]; exact h.symm
  | .nilptr, l, h => by simp [zfl] at h; simp only [VRl]; exact h.symm
  | .nilslice, l, h => by simp [zfl] at h; simp only [VRl]; exact h.symm
  | .nilmap, l, h => by simp [zfl] at h; simp only [VRl]; exact h.symm
  | .nilfn, l, h => by simp [zfl] at h; simp only [VRl]; exact h.symm
  | .ints _ _, l, h => by simp [zfl] at h; simp only [VRl]; exact h.symm
  | .node vs, l, h => by simp only [zfl] at h; simp only [VRl]; exact zfls_rel E vs l h
  | .junk, _, h => by simp [zfl] at h
  | .undef, _, h => by simp [zfl] at h
  | .ptr .., _, h => by simp [zfl] at h
  | .win .., _, h => by simp [zfl] at h
  | .slice .., _, h => by simp [zfl] at h
  | .map _, _, h => by simp [zfl] at h
  | .fn .., _, h => by simp [zfl] at h
  | .tuple _, _, h => by simp [zfl] at h
theorem zfls_rel (E : Gh) : ∀ (vs : List AV) (l : List Value), zfls vs = some l → VRs E vs l
  | [], l, h => by simp [zfls] at h; simp only [VRs]; exact h
  | v :: vs, l, h => by
    simp only [zfls] at h
    split at h
    · rename_i a b h1 h2
      simp at h
      simp only [VRs]
      exact ⟨a, b, h.symm, zfl_rel E v a h1, zfls_rel E vs b h2⟩
    · cases h
end

def zeroB (i : TI) (z : Value) : Bool := match zfl i.zero with
  | some cs => (match z with | .agg c => i.ty.isAgg && valsB c.toList cs | z => !i.ty.isAgg && valsB [z] cs)
  | none => false

def descB (P : Program) (l : List (Nat × TI)) (t : Nat) (d : TypeDesc) : Ty → Bool
  | .int k => (match d with | .int k' => decide (k = k') | _ => false)
  | .cell => (match d with | .array _ _ | .struct _ | .int _ | .interface _ => false | _ => true)
  | .arr n u => (match d with | .array n' e => decide (n = n') && (match tabOf l e with | some j => Ty.beq j.ty u | none => false) | _ => false)
  | .struct ts => (match d with
    | .struct fs => decide (fs.size = ts.length) && !P.stoodInHeld t && (List.range fs.size).all fun f => match fs[f]?, ts[f]? with
      | some x, some u => decide (x.name ≠ "_") && decide (x.offset = Ty.sizes (ts.take f)) && (match tabOf l x.type with | some j => Ty.beq j.ty u && decide (j.ty.size ≠ 0) | none => false)
      | _, _ => false
    | _ => false)

def tiB (P : Program) (l : List (Nat × TI)) (t : Nat) (i : TI) : Bool :=
  match P.info? t, P.underlying t with
  | some f, some d =>
    decide (f.size = i.ty.size) && decide (f.bytes = i.bytes) && hasTy i.zero i.ty && decide (i.ty.height ≤ 1000) &&
    (match f.zero with | some z => zeroB i z | none => false) &&
    descB P l t d i.ty &&
    (match i.elem with | some e => (match d with | .slice e' => decide (e = e') && (match tabOf l e with | some j => decide (j.ty.size ≠ 0) | none => false) | _ => false) | none => true) &&
    (match i.kind with | some k => Ty.beq i.ty (.int k) | none => true) &&
    (if i.str then (match d with | .string => true | _ => false) else true) &&
    (match i.pt with | some a => (match d with | .pointer a' => decide (a = a') | _ => false) | none => true) &&
    (if i.bool then (match d with | .bool => true | _ => false) else true) &&
    (if i.ty.isAgg then !P.eqGuardType P.depth t else true)
  | _, _ => false

def ttB (P : Program) (l : List (Nat × TI)) : Bool := l.all fun p => tiB P l p.1 p.2

theorem tabOf_mem : ∀ {l : List (Nat × TI)} {t : Nat} {i : TI}, tabOf l t = some i → (t, i) ∈ l
  | [], _, _, h => by simp [tabOf] at h
  | (k, j) :: r, t, i, h => by
    simp only [tabOf] at h
    split at h
    · rename_i e; subst e; simp at h; subst h; exact List.mem_cons_self ..
    · exact List.mem_cons_of_mem _ (tabOf_mem h)

theorem zeroB_ok {i : TI} {z : Value} (h : zeroB i z = true) (ht : hasTy i.zero i.ty = true) (E : Gh) : VRel E i.zero z := by
  unfold zeroB at h
  split at h
  · rename_i cs hcs
    have hl := zfl_rel E i.zero cs hcs
    have hv := VRel.of_cells ht hl
    split at h
    · rename_i c
      rw [Bool.and_eq_true] at h
      have := valsB_eq h.2
      rw [h.1] at hv
      simpa [ofCells, ← this] using hv
    · rename_i z _
      rw [Bool.and_eq_true] at h
      have := valsB_eq h.2
      have hf : i.ty.isAgg = false := by simpa using h.1
      rw [hf] at hv
      simpa [ofCells, ← this] using hv
  · cases h

theorem ttB_ok {P : Program} {l : List (Nat × TI)} (h : ttB P l = true) : TTok P (tabOf l) := by
  have main : ∀ t i, tabOf l t = some i → ∃ f d, P.info? t = some f ∧ P.underlying t = some d ∧ f.size = i.ty.size ∧ f.bytes = i.bytes ∧ hasTy i.zero i.ty = true ∧ i.ty.height ≤ 1000 ∧
      (∃ z, f.zero = some z ∧ zeroB i z = true) ∧ descB P l t d i.ty = true ∧
      (∀ e, i.elem = some e → d = .slice e ∧ ∃ j, tabOf l e = some j ∧ j.ty.size ≠ 0) ∧ (∀ k, i.kind = some k → i.ty = .int k) ∧ (i.str = true → d = .string) ∧
      (∀ a, i.pt = some a → d = .pointer a) ∧ (i.bool = true → d = .bool) ∧ (i.ty.isAgg = true → P.eqGuardType P.depth t = false) := by
    intro t i ht
    have hb := (List.all_eq_true.1 h) (t, i) (tabOf_mem ht)
    unfold tiB at hb
    split at hb
    · rename_i f d hf hd
      simp only [Bool.and_eq_true, decide_eq_true_eq] at hb
      obtain ⟨⟨⟨⟨⟨⟨⟨⟨⟨⟨⟨b1, b2⟩, b3⟩, b4⟩, b5⟩, b6⟩, b7⟩, b8⟩, b9⟩, b10⟩, b11⟩, b12⟩ := hb
      refine ⟨f, d, hf, hd, b1, b2, b3, b4, ?_, b6, ?_, ?_, ?_, ?_, ?_, ?_⟩
      · cases hz : f.zero with
        | none => rw [hz] at b5; cases b5
        | some z => rw [hz] at b5; exact ⟨z, rfl, b5⟩
      · intro e he
        rw [he] at b7
        simp only at b7
        split at b7
        · rename_i e'
          rw [Bool.and_eq_true, decide_eq_true_eq] at b7
          obtain ⟨q1, q2⟩ := b7
          cases hj : tabOf l e with
          | none => rw [hj] at q2; cases q2
          | some j => rw [hj] at q2; exact ⟨by rw [q1], j, rfl, by simpa using q2⟩
        · cases b7
      · intro k hk
        rw [hk] at b8
        exact Ty.beq_eq _ _ b8
      · intro hs
        rw [hs] at b9
        simp only [if_true] at b9
        split at b9
        · rfl
        · cases b9
      · intro a ha
        rw [ha] at b10
        simp only at b10
        split at b10
        · rw [decide_eq_true_eq] at b10; rw [b10]
        · cases b10
      · intro hs
        rw [hs] at b11
        simp only [if_true] at b11
        split at b11
        · rfl
        · cases b11
      · intro ha
        rw [ha] at b12
        simpa using b12
    · cases hb
  refine ⟨fun t i ht => ?_, fun t i ht => ?_, fun t i k ht hk => ?_, fun t i ht hk => ?_, fun t i n u ht hk => ?_, fun t i ts ht hk => ?_, fun t i e ht he => ?_, fun t i k ht hk => ?_, fun t i ht hs => ?_, fun t i a ht ha => ?_, fun t i ht hb => ?_, fun t i ht => ?_, fun t i ht ha => ?_⟩ <;>
    obtain ⟨f, d, hf, hd, b1, b2, b3, b4, ⟨z, hz, hzb⟩, b6, b7, b8, b9, b10, b11, b12⟩ := main t i ht
  · exact ⟨f, z, hf, b1, b2, hz, zeroB_ok hzb b3⟩
  · exact b3
  · rw [hk] at b6; simp only [descB] at b6
    split at b6
    · rw [decide_eq_true_eq] at b6; rw [hd, b6]
    · cases b6
  · rw [hk] at b6; simp only [descB] at b6
    refine ⟨d, hd, fun n e h => ?_, fun fs h => ?_, fun k h => ?_, fun ms h => ?_⟩ <;> (subst h; cases b6)
  · rw [hk] at b6; simp only [descB] at b6
    split at b6
    · rename_i n' e
      rw [Bool.and_eq_true, decide_eq_true_eq] at b6
      obtain ⟨q1, q2⟩ := b6
      cases hj : tabOf l e with
      | none => rw [hj] at q2; cases q2
      | some j => rw [hj] at q2; exact ⟨e, j, by rw [hd, q1], hj, Ty.beq_eq _ _ q2⟩
    · cases b6
  · rw [hk] at b6; simp only [descB] at b6
    split at b6
    · rename_i fs
      simp only [Bool.and_eq_true, decide_eq_true_eq] at b6
      obtain ⟨⟨q1, q2⟩, q3⟩ := b6
      refine ⟨fs, hd, q1, by simpa using q2, fun g x hx => ?_⟩
      have hg : g < fs.size := (Array.getElem?_eq_some_iff.1 hx).1
      have := (List.all_eq_true.1 q3) g (List.mem_range.2 hg)
      rw [hx] at this
      cases hu : ts[g]? with
      | none => rw [hu] at this; cases this
      | some u =>
        rw [hu] at this
        simp only [Bool.and_eq_true, decide_eq_true_eq] at this
        obtain ⟨⟨r1, r2⟩, r3⟩ := this
        cases hj : tabOf l x.type with
        | none => rw [hj] at r3; cases r3
        | some j =>
          rw [hj] at r3
          simp only [Bool.and_eq_true, decide_eq_true_eq] at r3
          exact ⟨r1, r2, j, rfl, by rw [Ty.beq_eq _ _ r3.1], r3.2⟩
    · cases b6
  · obtain ⟨q1, q2⟩ := b7 e he
    exact ⟨by rw [hd, q1], q2⟩
  · exact b8 k hk
  · rw [hd, b9 hs]
  · rw [hd, b10 a ha]
  · rw [hd, b11 hb]
  · exact b4
  · exact b12 ha

end Go.Vab

/-
  Bytes and words as bit vectors: what the evaluator makes of operations on them.
-/
namespace Go.Vab
open Go

def u8 (x : BitVec 8) : AV := .int .u8 (x.toNat : Int)
def u64 (x : BitVec 64) : AV := .int .u64 (x.toNat : Int)
/-- A whole number that is a count or an index. -/
def nat (n : Nat) : AV := .int .i64 (n : Int)
def bytes (xs : List (BitVec 8)) : AV := .ints .u8 (xs.map fun x => (x.toNat : Int))

def zeros (n : Nat) : List (BitVec 8) := List.replicate n 0#8
@[simp] theorem zeros_len (n : Nat) : (zeros n).length = n := List.length_replicate ..

theorem wrap8 (n : Int) : IntKind.u8.wrap n = ((BitVec.ofInt 8 n).toNat : Int) := by
  have e : IntKind.u8.wrap n = n % (2 ^ 8 : Int) := rfl
  rw [e, BitVec.toNat_ofInt]
  have : (0 : Int) ≤ n % 256 := Int.emod_nonneg _ (by decide)
  have h1 : (2 ^ 8 : Int) = 256 := rfl
  have h2 : ((2 ^ 8 : Nat) : Int) = 256 := rfl
  rw [h1, h2]
  omega

theorem wrap64 (n : Int) : IntKind.u64.wrap n = ((BitVec.ofInt 64 n).toNat : Int) := by
  have e : IntKind.u64.wrap n = n % (2 ^ 64 : Int) := rfl
  rw [e, BitVec.toNat_ofInt]
  have : (0 : Int) ≤ n % 18446744073709551616 := Int.emod_nonneg _ (by decide)
  have h1 : (2 ^ 64 : Int) = 18446744073709551616 := rfl
  have h2 : ((2 ^ 64 : Nat) : Int) = 18446744073709551616 := rfl
  rw [h1, h2]
  omega

theorem wrapi {n : Int} (h : -9223372036854775808 ≤ n ∧ n < 9223372036854775808) : IntKind.i64.wrap n = n := by
  have e : IntKind.i64.wrap n = (if (true && decide (n % (2 ^ 64 : Int) ≥ (2 ^ 63 : Int))) = true then n % (2 ^ 64 : Int) - (2 ^ 64 : Int) else n % (2 ^ 64 : Int)) := rfl
  have h1 : (2 ^ 64 : Int) = 18446744073709551616 := rfl
  have h2 : (2 ^ 63 : Int) = 9223372036854775808 := rfl
  rw [e, h1, h2]
  split <;> rename_i hc <;> simp at hc <;> omega

theorem ofInt8 (x : BitVec 8) : BitVec.ofInt 8 (x.toNat : Int) = x := by simp
theorem ofInt64 (x : BitVec 64) : BitVec.ofInt 64 (x.toNat : Int) = x := by simp

@[simp] theorem asNat_nat (n : Nat) : asNat (nat n) = some n := by simp [asNat, nat]
@[simp] theorem asNat_u8 (x : BitVec 8) : asNat (u8 x) = some x.toNat := by simp [asNat, u8]
@[simp] theorem asNat_u64 (x : BitVec 64) : asNat (u64 x) = some x.toNat := by simp [asNat, u64]

section
variable (x y : BitVec 8)
@[simp] theorem u8_add : mBin .add (u8 x) (u8 y) = some (u8 (x + y)) := by
  simp only [mBin, u8, mBinI, if_true, wrap8, BitVec.ofInt_add, ofInt8]
@[simp] theorem u8_sub : mBin .sub (u8 x) (u8 y) = some (u8 (x - y)) := by
  simp only [mBin, u8, mBinI, if_true, wrap8]
  congr 3
  rw [BitVec.toNat_sub, BitVec.toNat_ofInt]
  have h1 := x.isLt
  have h2 := y.isLt
  omega
@[simp] theorem u8_mul : mBin .mul (u8 x) (u8 y) = some (u8 (x * y)) := by
  simp only [mBin, u8, mBinI, if_true, wrap8, BitVec.ofInt_mul, ofInt8]
@[simp] theorem u8_and : mBin .and (u8 x) (u8 y) = some (u8 (x &&& y)) := by
  simp only [mBin, u8, mBinI, if_true, wrap8, IntKind.bits, ofInt8]; rfl
@[simp] theorem u8_or : mBin .or (u8 x) (u8 y) = some (u8 (x ||| y)) := by
  simp only [mBin, u8, mBinI, if_true, wrap8, IntKind.bits, ofInt8]; rfl
@[simp] theorem u8_xor : mBin .xor (u8 x) (u8 y) = some (u8 (x ^^^ y)) := by
  simp only [mBin, u8, mBinI, if_true, wrap8, IntKind.bits, ofInt8]; rfl
@[simp] theorem u8_eql : mBin .eql (u8 x) (u8 y) = some (.bool (decide (x = y))) := by
  simp only [mBin, u8, mBinI, if_true, Option.some.injEq, AV.bool.injEq]
  rw [Bool.eq_iff_iff]; simp [BitVec.toNat_eq, Int.natCast_inj]
@[simp] theorem u8_neq : mBin .neq (u8 x) (u8 y) = some (.bool (decide (x ≠ y))) := by
  simp only [mBin, u8, mBinI, if_true, Option.some.injEq, AV.bool.injEq]
  rw [Bool.eq_iff_iff]; simp [BitVec.toNat_eq, Int.natCast_inj]
@[simp] theorem u8_lss : mBin .lss (u8 x) (u8 y) = some (.bool (decide (x < y))) := by
  simp only [mBin, u8, mBinI, if_true, BitVec.lt_def, Option.some.injEq, AV.bool.injEq]
  rw [Bool.eq_iff_iff]; simp
@[simp] theorem u8_gtr : mBin .gtr (u8 x) (u8 y) = some (.bool (decide (y < x))) := by
  simp only [mBin, u8, mBinI, if_true, BitVec.lt_def, Option.some.injEq, AV.bool.injEq]
  rw [Bool.eq_iff_iff]; simp
@[simp] theorem u8_leq : mBin .leq (u8 x) (u8 y) = some (.bool (decide (x ≤ y))) := by
  simp only [mBin, u8, mBinI, if_true, BitVec.le_def, Option.some.injEq, AV.bool.injEq]
  rw [Bool.eq_iff_iff]; simp
theorem u8_rem (h : y ≠ 0) : mBin .rem (u8 x) (u8 y) = some (u8 (x % y)) := by
  have h0 : (y.toNat : Int) ≠ 0 := by
    intro e
    apply h
    apply BitVec.eq_of_toNat_eq
    simpa using e
  simp only [mBin, u8, mBinI, true_and]
  rw [if_pos h0, ← Int.ofNat_tmod, BitVec.toNat_umod]
theorem u8_quo (h : y ≠ 0) : mBin .quo (u8 x) (u8 y) = some (u8 (x / y)) := by
  have h0 : (y.toNat : Int) ≠ 0 := by
    intro e
    apply h
    apply BitVec.eq_of_toNat_eq
    simpa using e
  simp only [mBin, u8, mBinI, true_and]
  rw [if_pos h0, wrap8, ← Int.ofNat_tdiv, ← BitVec.toNat_udiv, ofInt8]

theorem shl8 (k : IntKind) (n : Nat) : mBin .shl (u8 x) (.int k (n : Int)) = some (u8 (x <<< n)) := by
  simp only [mBin, u8, mBinI]
  rw [if_pos (by omega), wrap8]
  congr 3
  simp only [Int.toNat_natCast, IntKind.bits]
  have e : ((x.toNat : Int) * 2 ^ min n 8) = ((x.toNat * 2 ^ min n 8 : Nat) : Int) := by push_cast; rfl
  rw [e, BitVec.ofInt_natCast, BitVec.toNat_ofNat, BitVec.toNat_shiftLeft, Nat.shiftLeft_eq]
  by_cases h : n ≤ 8
  · rw [Nat.min_eq_left h]
  · rw [Nat.min_eq_right (by omega)]
    have : 2 ^ n = 2 ^ 8 * 2 ^ (n - 8) := by rw [← Nat.pow_add]; congr 1; omega
    rw [this, ← Nat.mul_assoc, Nat.mul_right_comm, Nat.mul_mod_left, Nat.mul_mod_left]
theorem shr8 (k : IntKind) (n : Nat) : mBin .shr (u8 x) (.int k (n : Int)) = some (u8 (x >>> n)) := by
  simp only [mBin, u8, mBinI]
  rw [if_pos (by omega)]
  congr 2
  simp only [Int.toNat_natCast, IntKind.bits, BitVec.toNat_ushiftRight, Nat.shiftRight_eq_div_pow]
  have e : (2 : Int) ^ min n 8 = ((2 ^ min n 8 : Nat) : Int) := by push_cast; rfl
  rw [e, Int.fdiv_eq_ediv_of_nonneg _ (Int.natCast_nonneg _), ← Int.natCast_ediv]
  congr 1
  by_cases h : n ≤ 8
  · rw [Nat.min_eq_left h]
  · rw [Nat.min_eq_right (by omega)]
    have h1 := x.isLt
    have h2 : 2 ^ 8 ≤ 2 ^ n := Nat.pow_le_pow_right (by decide) (by omega)
    rw [Nat.div_eq_of_lt h1, Nat.div_eq_of_lt (by omega)]
@[simp] theorem u8_shl_nat (n : Nat) : mBin .shl (u8 x) (nat n) = some (u8 (x <<< n)) := shl8 x _ n
@[simp] theorem u8_shr_nat (n : Nat) : mBin .shr (u8 x) (nat n) = some (u8 (x >>> n)) := shr8 x _ n
@[simp] theorem u8_shl_u64 (n : BitVec 64) : mBin .shl (u8 x) (u64 n) = some (u8 (x <<< n.toNat)) := shl8 x _ _
@[simp] theorem u8_shr_u64 (n : BitVec 64) : mBin .shr (u8 x) (u64 n) = some (u8 (x >>> n.toNat)) := shr8 x _ _
@[simp] theorem u8_shl_u8 (n : BitVec 8) : mBin .shl (u8 x) (u8 n) = some (u8 (x <<< n.toNat)) := shl8 x _ _
@[simp] theorem u8_shr_u8 (n : BitVec 8) : mBin .shr (u8 x) (u8 n) = some (u8 (x >>> n.toNat)) := shr8 x _ _
@[simp] theorem u8_int : mConv .i64 (u8 x) = some (nat x.toNat) := by
  simp only [mConv, u8, nat]
  have := x.isLt
  rw [wrapi (by omega)]
@[simp] theorem u8_u8 : mConv .u8 (u8 x) = some (u8 x) := by
  simp only [mConv, u8, wrap8, ofInt8]
@[simp] theorem u8_u64 : mConv .u64 (u8 x) = some (u64 (x.setWidth 64)) := by
  simp only [mConv, u8, u64, wrap64]
  congr 3
  rw [BitVec.ofInt_natCast]
  simp
end
section
variable (x y : BitVec 64)
@[simp] theorem u64_add : mBin .add (u64 x) (u64 y) = some (u64 (x + y)) := by
  simp only [mBin, u64, mBinI, if_true, wrap64, BitVec.ofInt_add, ofInt64]
@[simp] theorem u64_sub : mBin .sub (u64 x) (u64 y) = some (u64 (x - y)) := by
  simp only [mBin, u64, mBinI, if_true, wrap64]
  congr 3
  rw [BitVec.toNat_sub, BitVec.toNat_ofInt]
  have h1 := x.isLt
  have h2 := y.isLt
  omega
@[simp] theorem u64_mul : mBin .mul (u64 x) (u64 y) = some (u64 (x * y)) := by
  simp only [mBin, u64, mBinI, if_true, wrap64, BitVec.ofInt_mul, ofInt64]
@[simp] theorem u64_and : mBin .and (u64 x) (u64 y) = some (u64 (x &&& y)) := by
  simp only [mBin, u64, mBinI, if_true, wrap64, IntKind.bits, ofInt64]; rfl
@[simp] theorem u64_or : mBin .or (u64 x) (u64 y) = some (u64 (x ||| y)) := by
  simp only [mBin, u64, mBinI, if_true, wrap64, IntKind.bits, ofInt64]; rfl
@[simp] theorem u64_xor : mBin .xor (u64 x) (u64 y) = some (u64 (x ^^^ y)) := by
  simp only [mBin, u64, mBinI, if_true, wrap64, IntKind.bits, ofInt64]; rfl
@[simp] theorem u64_eql : mBin .eql (u64 x) (u64 y) = some (.bool (decide (x = y))) := by
  simp only [mBin, u64, mBinI, if_true, Option.some.injEq, AV.bool.injEq]
  rw [Bool.eq_iff_iff]; simp [BitVec.toNat_eq, Int.natCast_inj]
@[simp] theorem u64_neq : mBin .neq (u64 x) (u64 y) = some (.bool (decide (x ≠ y))) := by
  simp only [mBin, u64, mBinI, if_true, Option.some.injEq, AV.bool.injEq]
  rw [Bool.eq_iff_iff]; simp [BitVec.toNat_eq, Int.natCast_inj]
@[simp] theorem u64_lss : mBin .lss (u64 x) (u64 y) = some (.bool (decide (x < y))) := by
  simp only [mBin, u64, mBinI, if_true, BitVec.lt_def, Option.some.injEq, AV.bool.injEq]
  rw [Bool.eq_iff_iff]; simp
@[simp] theorem u64_gtr : mBin .gtr (u64 x) (u64 y) = some (.bool (decide (y < x))) := by
  simp only [mBin, u64, mBinI, if_true, BitVec.lt_def, Option.some.injEq, AV.bool.injEq]
  rw [Bool.eq_iff_iff]; simp
@[simp] theorem u64_leq : mBin .leq (u64 x) (u64 y) = some (.bool (decide (x ≤ y))) := by
  simp only [mBin, u64, mBinI, if_true, BitVec.le_def, Option.some.injEq, AV.bool.injEq]
  rw [Bool.eq_iff_iff]; simp
theorem u64_rem (h : y ≠ 0) : mBin .rem (u64 x) (u64 y) = some (u64 (x % y)) := by
  have h0 : (y.toNat : Int) ≠ 0 := by
    intro e
    apply h
    apply BitVec.eq_of_toNat_eq
    simpa using e
  simp only [mBin, u64, mBinI, true_and]
  rw [if_pos h0, ← Int.ofNat_tmod, BitVec.toNat_umod]
theorem u64_quo (h : y ≠ 0) : mBin .quo (u64 x) (u64 y) = some (u64 (x / y)) := by
  have h0 : (y.toNat : Int) ≠ 0 := by
    intro e
    apply h
    apply BitVec.eq_of_toNat_eq
    simpa using e
  simp only [mBin, u64, mBinI, true_and]
  rw [if_pos h0, wrap64, ← Int.ofNat_tdiv, ← BitVec.toNat_udiv, ofInt64]

theorem shl64 (k : IntKind) (n : Nat) : mBin .shl (u64 x) (.int k (n : Int)) = some (u64 (x <<< n)) := by
  simp only [mBin, u64, mBinI]
  rw [if_pos (by omega), wrap64]
  congr 3
  simp only [Int.toNat_natCast, IntKind.bits]
  have e : ((x.toNat : Int) * 2 ^ min n 64) = ((x.toNat * 2 ^ min n 64 : Nat) : Int) := by push_cast; rfl
  rw [e, BitVec.ofInt_natCast, BitVec.toNat_ofNat, BitVec.toNat_shiftLeft, Nat.shiftLeft_eq]
  by_cases h : n ≤ 64
  · rw [Nat.min_eq_left h]
  · rw [Nat.min_eq_right (by omega)]
    have : 2 ^ n = 2 ^ 64 * 2 ^ (n - 64) := by rw [← Nat.pow_add]; congr 1; omega
    rw [this, ← Nat.mul_assoc, Nat.mul_right_comm, Nat.mul_mod_left, Nat.mul_mod_left]
theorem shr64 (k : IntKind) (n : Nat) : mBin .shr (u64 x) (.int k (n : Int)) = some (u64 (x >>> n)) := by
  simp only [mBin, u64, mBinI]
  rw [if_pos (by omega)]
  congr 2
  simp only [Int.toNat_natCast, IntKind.bits, BitVec.toNat_ushiftRight, Nat.shiftRight_eq_div_pow]
  have e : (2 : Int) ^ min n 64 = ((2 ^ min n 64 : Nat) : Int) := by push_cast; rfl
  rw [e, Int.fdiv_eq_ediv_of_nonneg _ (Int.natCast_nonneg _), ← Int.natCast_ediv]
  congr 1
  by_cases h : n ≤ 64
  · rw [Nat.min_eq_left h]
  · rw [Nat.min_eq_right (by omega)]
    have h1 := x.isLt
    have h2 : 2 ^ 64 ≤ 2 ^ n := Nat.pow_le_pow_right (by decide) (by omega)
    rw [Nat.div_eq_of_lt h1, Nat.div_eq_of_lt (by omega)]
@[simp] theorem u64_shl_nat (n : Nat) : mBin .shl (u64 x) (nat n) = some (u64 (x <<< n)) := shl64 x _ n
@[simp] theorem u64_shr_nat (n : Nat) : mBin .shr (u64 x) (nat n) = some (u64 (x >>> n)) := shr64 x _ n
@[simp] theorem u64_shl_u64 (n : BitVec 64) : mBin .shl (u64 x) (u64 n) = some (u64 (x <<< n.toNat)) := shl64 x _ _
@[simp] theorem u64_shr_u64 (n : BitVec 64) : mBin .shr (u64 x) (u64 n) = some (u64 (x >>> n.toNat)) := shr64 x _ _
end
@[simp] theorem nat_u8 (n : Nat) : mConv .u8 (nat n) = some (u8 (BitVec.ofNat 8 n)) := by
  simp only [mConv, u8, nat, wrap8, BitVec.ofInt_natCast]
@[simp] theorem nat_u64 (n : Nat) : mConv .u64 (nat n) = some (u64 (BitVec.ofNat 64 n)) := by
  simp only [mConv, u64, nat, wrap64, BitVec.ofInt_natCast]

@[simp] theorem u64_int8 (x : BitVec 64) : mConv .u8 (u64 x) = some (u8 (x.setWidth 8)) := by
  simp only [mConv, u8, u64, wrap8]
  congr 3
@[simp] theorem u64_u64 (x : BitVec 64) : mConv .u64 (u64 x) = some (u64 x) := by
  simp only [mConv, u64, wrap64, ofInt64]
theorem nat_add {m n : Nat} (h : m + n < 9223372036854775808) : mBin .add (nat m) (nat n) = some (nat (m + n)) := by
  simp only [mBin, nat, mBinI, if_true]
  rw [wrapi (by omega)]; rfl
theorem nat_sub {m n : Nat} (h : n ≤ m) (h' : m < 9223372036854775808) : mBin .sub (nat m) (nat n) = some (nat (m - n)) := by
  simp only [mBin, nat, mBinI, if_true]
  rw [wrapi (by omega)]; congr 2; omega
theorem nat_mul {m n : Nat} (h : m * n < 9223372036854775808) : mBin .mul (nat m) (nat n) = some (nat (m * n)) := by
  simp only [mBin, nat, mBinI, if_true]
  rw [← Int.natCast_mul, wrapi (by omega)]
theorem nat_quo {m n : Nat} (h : n ≠ 0) (h' : m < 9223372036854775808) : mBin .quo (nat m) (nat n) = some (nat (m / n)) := by
  simp only [mBin, nat, mBinI, true_and]
  have : m / n ≤ m := Nat.div_le_self m n
  have h2 : ((m / n : Nat) : Int) ≤ (m : Int) := Int.ofNat_le.2 this
  rw [if_pos (by omega), ← Int.ofNat_tdiv, wrapi ⟨by have := Int.natCast_nonneg (m / n); omega, by omega⟩]
theorem nat_rem {m n : Nat} (h : n ≠ 0) : mBin .rem (nat m) (nat n) = some (nat (m % n)) := by
  simp only [mBin, nat, mBinI, true_and]
  rw [if_pos (by omega), ← Int.ofNat_tmod]
@[simp] theorem nat_lss (m n : Nat) : mBin .lss (nat m) (nat n) = some (.bool (decide (m < n))) := by
  simp only [mBin, nat, mBinI, if_true, Option.some.injEq, AV.bool.injEq]
  rw [Bool.eq_iff_iff]; simp
@[simp] theorem nat_leq (m n : Nat) : mBin .leq (nat m) (nat n) = some (.bool (decide (m ≤ n))) := by
  simp only [mBin, nat, mBinI, if_true, Option.some.injEq, AV.bool.injEq]
  rw [Bool.eq_iff_iff]; simp
@[simp] theorem nat_gtr (m n : Nat) : mBin .gtr (nat m) (nat n) = some (.bool (decide (n < m))) := by
  simp only [mBin, nat, mBinI, if_true, Option.some.injEq, AV.bool.injEq]
  rw [Bool.eq_iff_iff]; simp
@[simp] theorem nat_geq (m n : Nat) : mBin .geq (nat m) (nat n) = some (.bool (decide (n ≤ m))) := by
  simp only [mBin, nat, mBinI, if_true, Option.some.injEq, AV.bool.injEq]
  rw [Bool.eq_iff_iff]; simp
@[simp] theorem nat_eql (m n : Nat) : mBin .eql (nat m) (nat n) = some (.bool (decide (m = n))) := by
  simp only [mBin, nat, mBinI, if_true, Option.some.injEq, AV.bool.injEq]
  rw [Bool.eq_iff_iff]; simp [Int.natCast_inj]
@[simp] theorem nat_neq (m n : Nat) : mBin .neq (nat m) (nat n) = some (.bool (decide (m ≠ n))) := by
  simp only [mBin, nat, mBinI, if_true, Option.some.injEq, AV.bool.injEq]
  rw [Bool.eq_iff_iff]; simp [Int.natCast_inj]
theorem nat_shl {m n : Nat} (h : m * 2 ^ n < 9223372036854775808) (hn : n ≤ 64) : mBin .shl (nat m) (nat n) = some (nat (m <<< n)) := by
  simp only [mBin, nat, mBinI]
  rw [if_pos (by omega)]
  simp only [Int.toNat_natCast, IntKind.bits, Nat.min_eq_left hn, Nat.shiftLeft_eq]
  have e : ((m : Int) * 2 ^ n) = ((m * 2 ^ n : Nat) : Int) := by push_cast; rfl
  rw [e, wrapi (by omega)]
theorem nshr {m n : Nat} (k : IntKind) (h : m < 9223372036854775808) : mBin .shr (nat m) (.int k (n : Int)) = some (nat (m >>> n)) := by
  simp only [mBin, nat, mBinI]
  rw [if_pos (by omega)]
  simp only [Int.toNat_natCast, IntKind.bits, Nat.shiftRight_eq_div_pow]
  have e : (2 : Int) ^ min n 64 = ((2 ^ min n 64 : Nat) : Int) := by push_cast; rfl
  rw [e, Int.fdiv_eq_ediv_of_nonneg _ (Int.natCast_nonneg _), ← Int.natCast_ediv]
  congr 3
  by_cases hn : n ≤ 64
  · rw [Nat.min_eq_left hn]
  · rw [Nat.min_eq_right (by omega)]
    have h2 : 2 ^ 64 ≤ 2 ^ n := Nat.pow_le_pow_right (by decide) (by omega)
    rw [Nat.div_eq_of_lt (by omega), Nat.div_eq_of_lt (by omega)]
theorem nat_shr_nat {m n : Nat} (h : m < 9223372036854775808) : mBin .shr (nat m) (nat n) = some (nat (m >>> n)) := nshr _ h
theorem nat_shr_u64 {m : Nat} {n : BitVec 64} (h : m < 9223372036854775808) : mBin .shr (nat m) (u64 n) = some (nat (m >>> n.toNat)) := nshr _ h
theorem nbit {m n : Nat} (h : m < 9223372036854775808) (h' : n < 9223372036854775808) : ((BitVec.ofInt 64 (m : Int) &&& BitVec.ofInt 64 (n : Int)).toNat = m &&& n) ∧ ((BitVec.ofInt 64 (m : Int) ^^^ BitVec.ofInt 64 (n : Int)).toNat = m ^^^ n) ∧ ((BitVec.ofInt 64 (m : Int) ||| BitVec.ofInt 64 (n : Int)).toNat = m ||| n) := by
  simp only [BitVec.ofInt_natCast, BitVec.toNat_and, BitVec.toNat_xor, BitVec.toNat_or, BitVec.toNat_ofNat]
  rw [Nat.mod_eq_of_lt (a := m) (by omega), Nat.mod_eq_of_lt (a := n) (by omega)]
  exact ⟨rfl, rfl, rfl⟩
theorem nat_and {m n : Nat} (h : m < 9223372036854775808) (h' : n < 9223372036854775808) : mBin .and (nat m) (nat n) = some (nat (m &&& n)) := by
  simp only [mBin, nat, mBinI, if_true]
  have e := (nbit h h').1
  have l : m &&& n ≤ m := Nat.and_le_left
  change some (AV.int .i64 (IntKind.i64.wrap ((BitVec.ofInt 64 (m : Int) &&& BitVec.ofInt 64 (n : Int)).toNat : Int))) = _
  rw [e, wrapi (by omega)]
theorem nat_xor {m n : Nat} (h : m < 9223372036854775808) (h' : n < 9223372036854775808) : mBin .xor (nat m) (nat n) = some (nat (m ^^^ n)) := by
  simp only [mBin, nat, mBinI, if_true]
  have e := (nbit h h').2.1
  have l : m ^^^ n < 2 ^ 63 := Nat.xor_lt_two_pow (by omega) (by omega)
  change some (AV.int .i64 (IntKind.i64.wrap ((BitVec.ofInt 64 (m : Int) ^^^ BitVec.ofInt 64 (n : Int)).toNat : Int))) = _
  rw [e, wrapi (by omega)]

/-! written-out numbers; rows of bytes -/
@[simp] theorem hasTy_u8 (x : BitVec 8) : hasTy (u8 x) (.int .u8) = true := by simp [hasTy, u8]
@[simp] theorem hasTy_u64 (x : BitVec 64) : hasTy (u64 x) (.int .u64) = true := by simp [hasTy, u64]
@[simp] theorem hasTy_nat (n : Nat) : hasTy (nat n) (.int .i64) = true := by simp [hasTy, nat]
@[simp] theorem hasTy_bytes (xs : List (BitVec 8)) (n : Nat) : hasTy (bytes xs) (.arr n (.int .u8)) = decide (xs.length = n) := by simp [hasTy, bytes]
@[simp] theorem bytes_get (xs : List (BitVec 8)) (i : Nat) : (bytes xs).get [i] = (xs[i]?).map u8 := by
  simp only [bytes, AV.get, List.getElem?_map]
  cases xs[i]? <;> rfl
@[simp] theorem bytes_put (xs : List (BitVec 8)) (i : Nat) (x : BitVec 8) : (bytes xs).put [i] (u8 x) = if i < xs.length then some (bytes (xs.set i x)) else none := by
  simp only [bytes, AV.put, u8, true_and, List.length_map]
  split
  · rw [List.map_set]
  · rfl
theorem bytes_inj {xs ys : List (BitVec 8)} : bytes xs = bytes ys ↔ xs = ys := by
  constructor
  · intro h
    simp only [bytes, AV.ints.injEq, true_and] at h
    exact (List.map_inj_right (fun x y e => BitVec.eq_of_toNat_eq (Int.ofNat.inj e))).1 h
  · rintro rfl; rfl
@[simp] theorem eqv_bytes (xs ys : List (BitVec 8)) (h : xs.length = ys.length) : eqv (bytes xs) (bytes ys) = some (decide (xs = ys)) := by
  have : (xs.map (fun x => (x.toNat : Int)) = ys.map fun x => (x.toNat : Int)) ↔ xs = ys := List.map_inj_right (fun x y e => BitVec.eq_of_toNat_eq (Int.ofNat.inj e))
  simp [bytes, eqv, h, this]

@[simp] theorem pureV_get (h : Heap) (v : AV) : pureV h (some v) = some (v, h) := rfl
@[simp] theorem pureV_not (h : Heap) : pureV h none = none := rfl

/-! loops -/
theorem ex_of {α : Type} {x : Option α} {P : α → Prop} {v : α} (h : x = some v) (hp : P v) : ∃ r, x = some r ∧ P r := ⟨v, h, hp⟩

theorem evLoop_rule {f : St → Option (Ex × St)} {Q : Ex × St → Prop} (I : Nat → St → Prop) (step : ∀ n s, I n s → ∃ r, f s = some r ∧ ((r.1 = .nrm ∧ ∃ m, m < n ∧ I m r.2) ∨ (r.1 ≠ .nrm ∧ Q r))) : ∀ n s, I n s → ∃ r, evLoop f s = some r ∧ Q r := by
  intro n
  induction n using Nat.strongRecOn with
  | _ n ih =>
    intro s hs
    obtain ⟨⟨e, s'⟩, h1, h2⟩ := step n s hs
    rcases h2 with ⟨h2, m, hm, h3⟩ | ⟨h2, h3⟩
    · simp only at h2 h3; subst h2
      obtain ⟨r, h4, h5⟩ := ih m hm s' h3
      exact ⟨r, evLoop_step h1 h4, h5⟩
    · cases e with
      | nrm => exact absurd rfl h2
      | exit id => exact ⟨_, evLoop_exit h1, h3⟩
      | ret => exact ⟨_, evLoop_ret h1, h3⟩

/-- A loop that counts up. -/
theorem evLoop_up {f : St → Option (Ex × St)} {Q : Ex × St → Prop} (N : Nat) (I : Nat → St → Prop) (step : ∀ i s, i < N → I i s → ∃ r, f s = some r ∧ r.1 = .nrm ∧ I (i + 1) r.2)
    (last : ∀ s, I N s → ∃ r, f s = some r ∧ r.1 ≠ .nrm ∧ Q r) {s : St} (h0 : I 0 s) : ∃ r, evLoop f s = some r ∧ Q r := by
  refine evLoop_rule (fun n s => ∃ i, i + n = N ∧ I i s) (fun n s ⟨i, hi, hs⟩ => ?_) N s ⟨0, by omega, h0⟩
  by_cases h : i < N
  · obtain ⟨r, h1, h2, h3⟩ := step i s h hs
    exact ⟨r, h1, .inl ⟨h2, n - 1, by omega, i + 1, by omega, h3⟩⟩
  · have : i = N := by omega
    subst this
    obtain ⟨r, h1, h2, h3⟩ := last s hs
    exact ⟨r, h1, .inr ⟨h2, h3⟩⟩

/-! memory with new blocks behind -/
@[simp] theorem blkAt_new (h l : Heap) (k ver : Nat) : blkAt (h ++ l) (h.length + k) ver = blkAt l k ver := by
  unfold blkAt
  rw [List.getElem?_append_right (by omega), Nat.add_sub_cancel_left]
@[simp] theorem blkAt_new0 (h l : Heap) (ver : Nat) : blkAt (h ++ l) h.length ver = blkAt l 0 ver := blkAt_new h l 0 ver
@[simp] theorem blkAt_zero (b : Blk) (l : Heap) (ver : Nat) : blkAt (b :: l) 0 ver = if b.ver = ver ∧ b.mode ≠ .mp then some b else none := rfl
@[simp] theorem blkAt_succ (b : Blk) (l : Heap) (k ver : Nat) : blkAt (b :: l) (k + 1) ver = blkAt l k ver := rfl
@[simp] theorem set_new (h l : Heap) (k : Nat) (b : Blk) : (h ++ l).set (h.length + k) b = h ++ l.set k b := by
  rw [List.set_append, if_neg (by omega), Nat.add_sub_cancel_left]
@[simp] theorem set_new0 (h l : Heap) (b : Blk) : (h ++ l).set h.length b = h ++ l.set 0 b := set_new h l 0 b
@[simp] theorem get_nil (v : AV) : v.get [] = some v := by cases v <;> rfl
@[simp] theorem get_node (vs : List AV) (j : Nat) (r : List Nat) : (AV.node vs).get (j :: r) = bnd vs[j]? fun v => v.get r := by
  simp only [AV.get]; cases vs[j]? <;> rfl
@[simp] theorem put_nil (v x : AV) : v.put [] x = some x := by cases v <;> rfl
@[simp] theorem put_node (vs : List AV) (j : Nat) (r : List Nat) (x : AV) : (AV.node vs).put (j :: r) x = bnd vs[j]? fun v => bnd (v.put r x) fun v' => some (.node (vs.set j v')) := by
  simp only [AV.put]
  cases vs[j]? with
  | none => rfl
  | some v => simp only [bnd_some]; cases v.put r x <;> rfl
@[simp] theorem mLoad_ptr (t : Ty) (i ver : Nat) (path : List Nat) (h : Heap) : mLoad t (.ptr i ver path t) h = bnd (blkAt h i ver) fun b => b.v.get path := by
  simp [mLoad]
@[simp] theorem stU_ptr (t : Ty) (i ver : Nat) (path : List Nat) (x : AV) (h : Heap) (hx : hasTy x t = true) : stU t (.ptr i ver path t) x h =
    bnd (blkAt h i ver) fun b => if b.mode = .ro then none else bnd (b.v.put path x) fun v' => some (.undef, h.set i { b with v := v' }) := by
  unfold stU mStore
  simp only [Ty.beq_self, hx, Bool.and_self, if_true]
  cases blkAt h i ver with
  | none => rfl
  | some b =>
    simp only [bnd_some]
    split
    · rfl
    · cases b.v.put path x <;> rfl
@[simp] theorem mNew_ok (t : Ty) (v : AV) (h : Heap) (hv : hasTy v t = true) : mNew t v h = some (.ptr h.length 0 [] t, h ++ [⟨v, 0, .own⟩]) := by simp [mNew, hv]
@[simp] theorem mIdxA_nat (n : Nat) (u : Ty) (b ver : Nat) (path : List Nat) (j : Nat) : mIdxA (.arr n u) (.ptr b ver path (.arr n u)) (nat j) = if j < n then some (.ptr b ver (path ++ [j]) u) else none := by simp [mIdxA]
@[simp] theorem mIdxA_u8 (n : Nat) (u : Ty) (b ver : Nat) (path : List Nat) (j : BitVec 8) : mIdxA (.arr n u) (.ptr b ver path (.arr n u)) (u8 j) = if j.toNat < n then some (.ptr b ver (path ++ [j.toNat]) u) else none := by simp [mIdxA]

/-! contracts -/
open Classical in
noncomputable def addC (call : Calling) (k : Nat) (c : List AV → Heap → Option (AV × Heap)) : Calling := fun f args h => if f = k then c args h else call f args h

theorem addC_same (call : Calling) (k : Nat) (c : List AV → Heap → Option (AV × Heap)) (args : List AV) (h : Heap) : addC call k c k args h = c args h := by simp [addC]
theorem addC_ne (call : Calling) (k : Nat) (c : List AV → Heap → Option (AV × Heap)) {f : Nat} (args : List AV) (h : Heap) (hf : f ≠ k) : addC call k c f args h = call f args h := by simp [addC, hf]

theorem u8_inj {a b : BitVec 8} : u8 a = u8 b ↔ a = b := by
  constructor
  · intro h
    simp only [u8, AV.int.injEq, true_and] at h
    exact BitVec.eq_of_toNat_eq (Int.ofNat.inj h)
  · rintro rfl; rfl
theorem u64_inj {a b : BitVec 64} : u64 a = u64 b ↔ a = b := by
  constructor
  · intro h
    simp only [u64, AV.int.injEq, true_and] at h
    exact BitVec.eq_of_toNat_eq (Int.ofNat.inj h)
  · rintro rfl; rfl
theorem nat_inj {a b : Nat} : nat a = nat b ↔ a = b := by
  simp only [nat, AV.int.injEq, true_and]
  exact Int.natCast_inj

def noC : Calling := fun _ _ _ => none

theorem noC_ok (P : Program) : CallOK P noC := fun _ _ _ _ _ h => by cases h

theorem addC_ok {P : Program} {call : Calling} {k : Nat} {c : List AV → Heap → Option (AV × Heap)} (h : CallOK P call) (hk : Callable P k) (hc : ∀ args h v h', c args h = some (v, h') → Spec P k args h v h') : CallOK P (addC call k c) := by
  intro f args h0 v h' he
  unfold addC at he
  split at he
  · rename_i e; subst e
    exact ⟨hc _ _ _ _ he, hk⟩
  · exact h f args h0 v h' he

open Classical in
/-- A contract: arguments of a form, under a condition, and what is answered. -/
noncomputable def conC {α : Type} (enc : α → List AV) (P : α → Heap → Prop) (f : α → Heap → AV × Heap) : List AV → Heap → Option (AV × Heap) := fun args h =>
  if hx : ∃ a, enc a = args ∧ P a h then some (f hx.choose h) else none

theorem conC_eq {α : Type} {enc : α → List AV} {P : α → Heap → Prop} {f : α → Heap → AV × Heap} (inj : ∀ a b h, enc a = enc b → f a h = f b h) {a : α} {h : Heap} (hp : P a h) : conC enc P f (enc a) h = some (f a h) := by
  have hx : ∃ b, enc b = enc a ∧ P b h := ⟨a, rfl, hp⟩
  unfold conC
  rw [dif_pos hx]
  congr 1
  exact inj _ _ h hx.choose_spec.1

theorem conC_some {α : Type} {enc : α → List AV} {P : α → Heap → Prop} {f : α → Heap → AV × Heap} {args : List AV} {h : Heap} {r : AV × Heap} (he : conC enc P f args h = some r) : ∃ a, args = enc a ∧ P a h ∧ r = f a h := by
  unfold conC at he
  split at he
  · rename_i hx
    exact ⟨_, hx.choose_spec.1.symm, hx.choose_spec.2, by simpa using he.symm⟩
  · cases he

/-- One function more in the table. -/
theorem addC_con {P : Program} {call : Calling} {k : Nat} {α : Type} {enc : α → List AV} {Q : α → Heap → Prop} {f : α → Heap → AV × Heap} (h : CallOK P call) (hk : Callable P k)
    (hc : ∀ a h, Q a h → Spec P k (enc a) h (f a h).1 (f a h).2) : CallOK P (addC call k (conC enc Q f)) :=
  addC_ok h hk fun args h v h' he => by
    obtain ⟨a, rfl, hq, hr⟩ := conC_some he
    have := hc a h hq
    rw [← hr] at this; exact this

end Go.Vab
