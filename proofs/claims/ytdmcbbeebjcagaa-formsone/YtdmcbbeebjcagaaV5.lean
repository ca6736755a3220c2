/-
  A slice of structs that grows by append, beside a cell of its own.
-/
import Derived.Test.YtdmcbbeebjcagaaV4
import Derived.Test.YtdmcbbeebjcagaaV3
set_option linter.all false
set_option linter.unusedSectionVars false
namespace Go.Vab
open Go

/-- A row that is being built: nothing, or a block of its own with room behind. -/
def Rn (t : Ty) (H : Heap) (x : AV) (es : List AV) : Prop := es.length ≤ 1000000 ∧ ((x = .nilslice ∧ es = []) ∨
  ∃ b c us, x = .slice b 0 [] t 0 es.length (some c) ∧ H[b]? = some ⟨.node us, 0, .own⟩ ∧ us.length = c ∧ es.length ≤ c ∧ us.take es.length = es)

theorem Rn.mono {t : Ty} {H H' : Heap} {x : AV} {es : List AV} (hr : Rn t H x es) (hk : ∀ b c, rb x = some b → H[b]? = some c → H'[b]? = some c) : Rn t H' x es := by
  obtain ⟨hl, h1 | h1⟩ := hr
  · exact ⟨hl, .inl h1⟩
  · obtain ⟨b, c, us, rfl, h2, h3⟩ := h1
    exact ⟨hl, .inr ⟨b, c, us, rfl, hk _ _ rfl h2, h3⟩⟩
theorem Rn.row {ts : List Ty} {H : Heap} {x : AV} {es : List AV} (hr : Rn (.struct ts) H x es) : Row (.struct ts) H x es := by
  obtain ⟨hl, ⟨rfl, rfl⟩ | ⟨b, c, us, rfl, h2, h3, h4, h5⟩⟩ := hr
  · exact ⟨by simp [mElems], rfl, by simp⟩
  · refine ⟨?_, ⟨rfl, h4, rfl⟩, by omega⟩
    rw [mElems_row]
    have : blkAt H b 0 = some ⟨.node us, 0, .own⟩ := by unfold blkAt; rw [h2]; rfl
    rw [this, bnd_some, get_nil, bnd_some, cut_node_eq, Nat.zero_add, if_pos (by omega), List.drop_zero, h5]
theorem Rn.lt {t : Ty} {H : Heap} {x : AV} {es : List AV} (hr : Rn t H x es) : ∀ b, rb x = some b → b < H.length := by
  intro b hb
  obtain ⟨hl, ⟨rfl, rfl⟩ | ⟨b', c, us, rfl, h2, h3, h4, h5⟩⟩ := hr
  · cases hb
  · cases hb; exact (List.getElem?_eq_some_iff.1 h2).1

/-- One more element. -/
theorem appW_rn {t : Ty} {ts : List Ty} {bytes : Nat} {zero e : AV} {H : Heap} {x y : AV} {es : List AV} {K : AV × Heap → Prop} (ht : t = .struct ts) (hz : ∀ m, zeroRow m zero = .node (List.replicate m zero)) (hr : Rn t H x es) (hy : mElems t y H = some (.node [e])) (hn : es.length < 1000000)
    (hb : bytes ≤ 10000)
    (hK : ∀ x' H', Rn t H' x' (es ++ [e]) → H.length ≤ H'.length → (∀ i, rb x ≠ some i → i < H.length → H'[i]? = H[i]?) → (∀ b, rb x' = some b → rb x = some b ∨ H.length ≤ b) → K (x', H')) : appW t bytes zero x y H K := by
  subst ht
  have hrb : roomBound = roomBound := rfl
  have hmul : (es.length + 1) * bytes ≤ 1000000 * 10000 := Nat.mul_le_mul (by omega) hb
  refine ⟨_, 1, hy, rfl, ?_⟩
  obtain ⟨hl, h1 | h1⟩ := hr
  · obtain ⟨rfl, rfl⟩ := h1
    refine .inr ⟨by omega, by unfold roomBound; omega, by unfold roomBound; omega, by omega, fun c row hc hrow => ?_⟩
    rw [padRow_node hz] at hrow
    cases hrow
    refine hK _ _ ⟨by simp, .inr ⟨H.length, c, [e] ++ List.replicate (c - 1) zero, rfl, by simp, by simp; omega, by simpa using hc, by simp⟩⟩ (by simp) (fun i _ hi => by rw [List.getElem?_append_left hi]) (fun b hb => by cases hb; exact .inr (Nat.le_refl _))
  · obtain ⟨b, c, us, rfl, h2, h3, h4, h5⟩ := h1
    have hbk : blkAt H b 0 = some ⟨.node us, 0, .own⟩ := by unfold blkAt; rw [h2]; rfl
    have hold : mElems (.struct ts) (.slice b 0 [] (.struct ts) 0 es.length (some c)) H = some (.node es) := by
      rw [mElems_row, hbk, bnd_some, get_nil, bnd_some, cut_node_eq, Nat.zero_add, if_pos (by omega), List.drop_zero, h5]
    have hbi : b < H.length := (List.getElem?_eq_some_iff.1 h2).1
    refine ⟨_, _, hold, rfl, ?_⟩
    by_cases hroom : es.length + 1 ≤ c
    · refine .inr (.inl ⟨by omega, hroom, _, _, .node (us.take es.length ++ ([e] ++ us.drop (es.length + 1))), _, hbk, by simp, get_nil _, ?_, put_nil _ _, ?_⟩)
      · simp only [AV.splice, Nat.zero_add]
        rw [if_pos (by simp; omega)]
        simp
      · refine hK _ _ ⟨by simp; omega, .inr ⟨b, c, us.take es.length ++ ([e] ++ us.drop (es.length + 1)), by simp, by rw [List.getElem?_set_self hbi], by simp; omega, by simpa using hroom, ?_⟩⟩ (by simp) (fun i hi _ => ?_) (fun b' hb' => .inl hb')
        · rw [h5, List.length_append, ← List.append_assoc]
          exact List.take_left' (by simp)
        · rw [List.getElem?_set_ne (fun e => hi (by rw [← e]; rfl))]
    · refine .inr (.inr ⟨by omega, by omega, by unfold roomBound; omega, by unfold roomBound; omega, by omega, fun c' row hc hrow => ?_⟩)
      rw [padRow_node hz] at hrow
      cases hrow
      refine hK _ _ ⟨by simp; omega, .inr ⟨H.length, c', es ++ [e] ++ List.replicate (c' - (es.length + 1)) zero, by simp, by simp, by simp; omega, by simpa using hc, List.take_left' (by simp)⟩⟩ (by simp) (fun i _ hi => by rw [List.getElem?_append_left hi]) (fun b' hb' => by cases hb'; exact .inr (Nat.le_refl _))

theorem BytFrom.rb_ge {m : Nat} {u : Heap} {y : AV} {l : Bs} (k : BytFrom m u y l) : ∀ i, rb y = some i → m ≤ i := by
  intro i hi
  cases y with
  | slice b ver path t off len cap =>
    cases hi
    refine Nat.le_of_not_lt fun hlt => ?_
    have h1 := (k (List.replicate m ⟨.undef, 0, .own⟩) [] (by simp)).1.1
    simp only [mElems] at h1
    split at h1
    · obtain ⟨bb, g1, g2⟩ := bnd_eq_some.1 h1
      obtain ⟨g3, g4⟩ := blkAt_spec g1
      rw [List.getElem?_append_left (by simpa using hlt)] at g3
      simp only [List.getElem?_replicate, hlt, if_true, Option.some.injEq] at g3
      subst g3
      obtain ⟨r, g5, g6⟩ := bnd_eq_some.1 g2
      cases path with
      | nil => simp at g5; subst g5; simp [AV.cut] at g6
      | cons p q => simp [AV.get] at g5
    · cases h1
  | _ => cases hi
theorem RowFrom.rb_ge {m : Nat} {u : Heap} {t : Ty} {y : AV} {l : List AV} (k : RowFrom m u t y l) : ∀ i, rb y = some i → m ≤ i := by
  intro i hi
  cases y with
  | slice b ver path t off len cap =>
    cases hi
    refine Nat.le_of_not_lt fun hlt => ?_
    have h1 := (k (List.replicate m ⟨.undef, 0, .own⟩) [] (by simp)).1
    simp only [mElems] at h1
    split at h1
    · obtain ⟨bb, g1, g2⟩ := bnd_eq_some.1 h1
      obtain ⟨g3, g4⟩ := blkAt_spec g1
      rw [List.getElem?_append_left (by simpa using hlt)] at g3
      simp only [List.getElem?_replicate, hlt, if_true, Option.some.injEq] at g3
      subst g3
      obtain ⟨r, g5, g6⟩ := bnd_eq_some.1 g2
      cases path with
      | nil => simp at g5; subst g5; simp [AV.cut] at g6
      | cons p q => simp [AV.get] at g5
    · cases h1
  | _ => cases hi
theorem BytL.rb_lt' {h : Heap} {y : AV} {m : Bs} (hy : BytL h y m) : ∀ b, rb y = some b → b < h.length := by
  intro b hb
  cases y with
  | slice b' ver path t off len cap =>
    cases hb
    have h1 := hy.1.1
    simp only [mElems] at h1
    split at h1
    · obtain ⟨bb, g1, g2⟩ := bnd_eq_some.1 h1
      exact (List.getElem?_eq_some_iff.1 (blkAt_spec g1).1).1
    · cases h1
  | _ => cases hb
theorem Row.rb_lt {h : Heap} {t : Ty} {y : AV} {m : List AV} (hy : Row t h y m) : ∀ b, rb y = some b → b < h.length := by
  intro b hb
  cases y with
  | slice b' ver path t off len cap =>
    cases hb
    have h1 := hy.1
    simp only [mElems] at h1
    split at h1
    · obtain ⟨bb, g1, g2⟩ := bnd_eq_some.1 h1
      exact (List.getElem?_eq_some_iff.1 (blkAt_spec g1).1).1
    · cases h1
  | _ => cases hb

/-- The third of three cells is written. -/
theorem KeepW.cell3 {h u : Heap} {A0 A1 A2 B2 : Blk} {x : AV} : KeepW (h ++ A0 :: A1 :: A2 :: u) (h ++ A0 :: A1 :: B2 :: u) (h.length + 2) x x := by
  refine ⟨by simp, fun i c hi hw _ => ?_, fun b hb => .inl hb⟩
  by_cases h1 : i < h.length
  · rw [List.getElem?_append_left h1] at hi ⊢; exact hi
  · rw [List.getElem?_append_right (by omega)] at hi ⊢
    obtain ⟨k, hk⟩ : ∃ k, i - h.length = k := ⟨_, rfl⟩
    rw [hk] at hi ⊢
    match k with
    | 0 => exact hi
    | 1 => exact hi
    | 2 => omega
    | k + 3 => simpa using hi
theorem cell3_get {h u : Heap} {A0 A1 A2 B2 : Blk} {i : Nat} (hi : i ≠ h.length + 2) : (h ++ A0 :: A1 :: B2 :: u)[i]? = (h ++ A0 :: A1 :: A2 :: u)[i]? := by
  by_cases h1 : i < h.length
  · rw [List.getElem?_append_left h1, List.getElem?_append_left h1]
  · rw [List.getElem?_append_right (by omega), List.getElem?_append_right (by omega)]
    obtain ⟨k, hk⟩ : ∃ k, i - h.length = k := ⟨_, rfl⟩
    rw [hk]
    match k with
    | 0 => rfl
    | 1 => rfl
    | 2 => omega
    | k + 3 => simp
/-- The second of three cells is written. -/
theorem KeepW.cell2 {h u : Heap} {A0 A1 A2 B1 : Blk} {x : AV} : KeepW (h ++ A0 :: A1 :: A2 :: u) (h ++ A0 :: B1 :: A2 :: u) (h.length + 1) x x := by
  refine ⟨by simp, fun i c hi hw _ => ?_, fun b hb => .inl hb⟩
  by_cases h1 : i < h.length
  · rw [List.getElem?_append_left h1] at hi ⊢; exact hi
  · rw [List.getElem?_append_right (by omega)] at hi ⊢
    obtain ⟨k, hk⟩ : ∃ k, i - h.length = k := ⟨_, rfl⟩
    rw [hk] at hi ⊢
    match k with
    | 0 => exact hi
    | 1 => omega
    | k + 2 => simpa using hi
theorem BytL.cells {h u : Heap} {A0 A1 A2 B1 B2 : Blk} {y : AV} {l : Bs} (t : Heap) (hy : BytL (h ++ A0 :: A1 :: A2 :: u) y l) (hl : ∀ b, rb y = some b → h.length + 3 ≤ b) : BytL (h ++ A0 :: B1 :: B2 :: (u ++ t)) y l := by
  have h1 := hy.keep (KeepW.cell3 (B2 := B2) (x := .nilslice)) fun b hb => ⟨hy.rb_lt' b hb, by have := hl b hb; omega, fun e => by cases e⟩
  have h2 := h1.keep (KeepW.cell2 (B1 := B1) (x := .nilslice)) fun b hb => ⟨h1.rb_lt' b hb, by have := hl b hb; omega, fun e => by cases e⟩
  simpa using h2.app t
theorem Row.cells {h u : Heap} {A0 A1 A2 B1 B2 : Blk} {y : AV} {ty : Ty} {l : List AV} (t : Heap) (hy : Row ty (h ++ A0 :: A1 :: A2 :: u) y l) (hl : ∀ b, rb y = some b → h.length + 3 ≤ b) : Row ty (h ++ A0 :: B1 :: B2 :: (u ++ t)) y l := by
  have h1 := hy.keep (KeepW.cell3 (B2 := B2) (x := .nilslice)) fun b hb => ⟨hy.rb_lt b hb, by have := hl b hb; omega, fun e => by cases e⟩
  have h2 := h1.keep (KeepW.cell2 (B1 := B1) (x := .nilslice)) fun b hb => ⟨h1.rb_lt b hb, by have := hl b hb; omega, fun e => by cases e⟩
  simpa using h2.app t
/-- What stays of three cells, whatever grows behind. -/
theorem cells3 {h u H' : Heap} {A0 A1 A2 : Blk} (hl : (h ++ A0 :: A1 :: A2 :: u).length ≤ H'.length) (hk : ∀ i, i < h.length + 3 → H'[i]? = (h ++ A0 :: A1 :: A2 :: u)[i]?) : ∃ u', H' = h ++ A0 :: A1 :: A2 :: u' := by
  refine ⟨H'.drop (h.length + 3), ?_⟩
  have e : H'.take (h.length + 3) = h ++ [A0, A1, A2] := by
    apply List.ext_getElem?
    intro i
    by_cases hi : i < h.length + 3
    · rw [List.getElem?_take_of_lt hi, hk i hi]
      rw [show h ++ A0 :: A1 :: A2 :: u = (h ++ [A0, A1, A2]) ++ u by simp, List.getElem?_append_left (by simpa using hi)]
    · simp at hl
      rw [List.getElem?_eq_none (by simp; omega), List.getElem?_eq_none (by simp; omega)]
  have := List.take_append_drop (h.length + 3) H'
  rw [e] at this
  rw [← this]
  simp

end Go.Vab

/- How the code of a function is read. Printed by wip/tools/gen2.py (own work). -/
namespace Go.Vab
open Go Go.Proofs
/-! vestry/forms.State -/
def cx21 : Ctx := ⟨fun _ _ _ => none, TT, 136, [13, 14, 16, 17, 18, 19, 20, 21, 22, 23, 24, 25, 26, 27, 28, 29, 30, 31, 32, 33, 34, 35, 36, 37, 38, 39, 40, 41, 42, 43, 44, 45, 50, 51, 52, 53, 54, 55, 56, 57, 58, 59, 60, 61, 62, 63, 64, 65, 66, 67, 68, 69, 70, 71, 76, 77, 78, 79, 80, 81, 82, 83, 84, 85, 86, 87, 88, 89, 90, 91, 92, 93, 94, 95, 96, 101, 102, 103, 104, 105, 106, 107, 108, 109, 110, 111, 112, 113, 114, 115, 116, 117, 118, 123, 124, 125, 126, 127, 128, 129, 130, 131, 132, 133, 134, 135]⟩
noncomputable def n21_0 : Code := bodyOf Try.f21
noncomputable def n21_1 : Code := cR n21_0
noncomputable def n21_2 : Code := cL n21_1
noncomputable def n21_3 : Code := cR n21_2
noncomputable def n21_4 : Code := cL n21_3
noncomputable def n21_5 : Code := cR n21_4
noncomputable def n21_6 : Code := cR n21_3
noncomputable def n21_7 : Code := cR n21_1
noncomputable def n21_8 : Code := cR n21_7
noncomputable def n21_9 : Code := cR n21_8
noncomputable def n21_10 : Code := cR n21_9
noncomputable def n21_11 : Code := cR n21_10
noncomputable def n21_12 : Code := cR n21_11
noncomputable def n21_13 : Code := cR n21_12
noncomputable def n21_14 : Code := cR n21_13
noncomputable def n21_15 : Code := cL n21_14
noncomputable def n21_16 : Code := cR n21_15
noncomputable def n21_17 : Code := cB n21_16
noncomputable def n21_18 : Code := cB n21_17
noncomputable def n21_19 : Code := cR n21_18
noncomputable def n21_20 : Code := cL n21_19
noncomputable def n21_21 : Code := cL n21_20
noncomputable def n21_22 : Code := cR n21_20
noncomputable def n21_23 : Code := cR n21_19
noncomputable def n21_24 : Code := cL n21_23
noncomputable def n21_25 : Code := cB n21_24
noncomputable def n21_26 : Code := cR n21_25
noncomputable def n21_27 : Code := cR n21_26
noncomputable def n21_28 : Code := cR n21_23
noncomputable def n21_29 : Code := cR n21_14
noncomputable def n21_30 : Code := cR n21_29
noncomputable def n21_31 : Code := cL n21_30
noncomputable def n21_32 : Code := cR n21_31
noncomputable def n21_33 : Code := cB n21_32
noncomputable def n21_34 : Code := cB n21_33
noncomputable def n21_35 : Code := cR n21_34
noncomputable def n21_36 : Code := cL n21_35
noncomputable def n21_37 : Code := cL n21_36
noncomputable def n21_38 : Code := cR n21_36
noncomputable def n21_39 : Code := cR n21_35
noncomputable def n21_40 : Code := cL n21_39
noncomputable def n21_41 : Code := cB n21_40
noncomputable def n21_42 : Code := cR n21_41
noncomputable def n21_43 : Code := cR n21_42
noncomputable def n21_44 : Code := cR n21_43
noncomputable def n21_45 : Code := cR n21_39
noncomputable def n21_46 : Code := cR n21_30
noncomputable def n21_47 : Code := cR n21_46
noncomputable def n21_48 : Code := cL n21_47
noncomputable def n21_49 : Code := cR n21_48
noncomputable def n21_50 : Code := cB n21_49
noncomputable def n21_51 : Code := cB n21_50
noncomputable def n21_52 : Code := cR n21_51
noncomputable def n21_53 : Code := cL n21_52
noncomputable def n21_54 : Code := cL n21_53
noncomputable def n21_55 : Code := cR n21_53
noncomputable def n21_56 : Code := cR n21_52
noncomputable def n21_57 : Code := cL n21_56
noncomputable def n21_58 : Code := cB n21_57
noncomputable def n21_59 : Code := cR n21_58
noncomputable def n21_60 : Code := cR n21_59
noncomputable def n21_61 : Code := cR n21_56
noncomputable def n21_62 : Code := cR n21_47
noncomputable def n21_63 : Code := cR n21_62
noncomputable def n21_64 : Code := cL n21_63
noncomputable def n21_65 : Code := cR n21_64
noncomputable def n21_66 : Code := cB n21_65
noncomputable def n21_67 : Code := cB n21_66
noncomputable def n21_68 : Code := cR n21_67
noncomputable def n21_69 : Code := cL n21_68
noncomputable def n21_70 : Code := cL n21_69
noncomputable def n21_71 : Code := cR n21_69
noncomputable def n21_72 : Code := cR n21_68
noncomputable def n21_73 : Code := cL n21_72
noncomputable def n21_74 : Code := cB n21_73
noncomputable def n21_75 : Code := cR n21_74
noncomputable def n21_76 : Code := cR n21_75
noncomputable def n21_77 : Code := cR n21_72
noncomputable def n21_78 : Code := cR n21_63
noncomputable def n21_79 : Code := cR n21_78
theorem n21_5_eq (Q : Ex × St → Prop) (s : St) : wC Try.prog cx21 n21_5 Q s = Q (.ret, s) := yE
theorem n21_4_eq (Q : Ex × St → Prop) (env : Env) (h : Heap) : wC Try.prog cx21 n21_4 Q ⟨env, h⟩ = ( wC Try.prog cx21 n21_5 Q ⟨(Env.put (Env.put env 2 .nilslice) 3 (nat 2)), h⟩) := (ySR 2 (cOps (cL n21_4)) (cR n21_4)).trans (by
  refine w0 ?_
  refine wT 2 .nilslice ?_
  refine wT 3 (nat 2) ?_
  exact wE)
theorem n21_6_eq (Q : Ex × St → Prop) (s : St) : wC Try.prog cx21 n21_6 Q s = Q (.nrm, s) := yK
theorem n21_3_eq (Q : Ex × St → Prop) (s : St) : wC Try.prog cx21 n21_3 Q s = cndW (s.env.get 15) (wL Try.prog cx21 n21_4 Q s) (wL Try.prog cx21 n21_6 Q s) := yC 15 _ _
theorem n21_2_eq (Q : Ex × St → Prop) (env : Env) (h : Heap) : wC Try.prog cx21 n21_2 Q ⟨env, h⟩ = (Evs (mLoad tState (env.get 1) h) fun v0 => SpecA Try.prog 37 [v0] h fun r1 => Evs (mUn .not r1.1) fun v2 => wC Try.prog cx21 n21_3 Q ⟨(Env.put env 15 v2), r1.2⟩) := (ySR 1 (cOps (cL n21_2)) (cR n21_2)).trans (by
  refine w0 ?_
  refine wP 13 fun v0 => ?_
  refine wH 14 fun r1 => ?_
  refine wP 15 fun v2 => ?_
  exact wE)
theorem n21_21_eq (Q : Ex × St → Prop) (s : St) : wC Try.prog cx21 n21_21 Q s = Q (.nrm, s) := yK
theorem n21_22_eq (Q : Ex × St → Prop) (s : St) : wC Try.prog cx21 n21_22 Q s = Q (.exit 0, s) := yX 0
theorem n21_20_eq (Q : Ex × St → Prop) (s : St) : wC Try.prog cx21 n21_20 Q s = cndW (s.env.get 49) (wL Try.prog cx21 n21_21 Q s) (wL Try.prog cx21 n21_22 Q s) := yC 49 _ _
theorem n21_27_ok : treeOk (cOps n21_27).toList [4, 8] [0, 0, 2, 6, 15, 0, 32, 96, 255] = true := by kernel_rfl
theorem n21_27_w (Q : Ex × St → Prop) (env : Env) (h : Heap) (H : Evs (mFieldAddr tLwriter (env.get 4) 0) fun v0_1 => Evs (mFieldAddr tSeat (env.get 6) 1) fun v1_2 => Evs (mLoad (.int .u8) v1_2 h) fun v2_3 => Evs (mConv .u64 v2_3) fun v3_4 => Evs (mFieldAddr tSeat (env.get 6) 2) fun v5_5 => Evs (mLoad (.int .u32) v5_5 h) fun v6_6 => Evs (mConv .u64 v6_6) fun v7_7 => SpecA Try.prog 38 [v0_1, v3_4, (nat 1)] h fun r4_8 => stabP (mLoad (.int .u32) v5_5 r4_8.2 = some v6_6) (stabP (mConv .u64 v6_6 = some v7_7) (SpecA Try.prog 38 [r4_8.1, v7_7, (nat 4)] r4_8.2 fun r8_9 => Q (.nrm, ⟨env, r8_9.2⟩)))) : wC Try.prog cx21 n21_27 Q ⟨env, h⟩ := by
  refine yD 14 (cOps n21_27) [4, 8] [0, 0, 2, 6, 15, 0, 32, 96, 255] [0, 1, 2, 3, 5, 6, 7] n21_27_ok ?_
  refine rP H 55 fun v0_1 H => ?_
  refine rP H 56 fun v1_2 H => ?_
  refine rP H 57 fun v2_3 H => ?_
  refine rP H 58 fun v3_4 H => ?_
  refine rP H 60 fun v5_5 H => ?_
  refine rP H 61 fun v6_6 H => ?_
  refine rP H 62 fun v7_7 H => ?_
  refine rE ?_
  refine tN 4 [] ?_
  refine aN1 ?_
  refine tH H 59 [] [6, 7] (fun r4_8 H => ?_)
  refine sP v6_6 61 H (fun H => ?_) (by kernel_rfl) (by kernel_rfl) (by kernel_rfl)
  refine sP v7_7 62 H (fun H => ?_) (by kernel_rfl) (by kernel_rfl) (by kernel_rfl)
  refine ⟨sNil, ?_⟩
  refine rE ?_
  refine tN 8 [] ?_
  refine aN1 ?_
  refine tH H 63 [] [] (fun r8_9 H => ?_)
  refine ⟨sNil, ?_⟩
  refine rE ?_
  exact tE H
theorem n21_26_eq (Q : Ex × St → Prop) (env : Env) (h : Heap) : wC Try.prog cx21 n21_26 Q ⟨env, h⟩ = (Evs (mFieldAddr tSeat (env.get 6) 0) fun v0 => Evs (mLoad tCipher v0 h) fun v1 => SpecA Try.prog 42 [(env.get 4), v1] h fun r2 => wC Try.prog cx21 n21_27 Q ⟨env, r2.2⟩) := (ySR 13 (cOps (cL n21_26)) (cR n21_26)).trans (by
  refine w0 ?_
  refine wP 52 fun v0 => ?_
  refine wP 53 fun v1 => ?_
  refine wH 54 fun r2 => ?_
  exact wE)
theorem n21_25_eq (Q : Ex × St → Prop) (env : Env) (h : Heap) : wC Try.prog cx21 n21_25 Q ⟨env, h⟩ = (Evs (mIdxS tSeat (env.get 46) (env.get 48)) fun v0 => Evs (mLoad tSeat v0 h) fun v1 => Evs (mNew tSeat (.node [(.node [(arr 32 fun _ => 0#8), (arr 32 fun _ => 0#8)]), (u8 0#8), (u32 0#32)]) h) fun r2 => Evs (stU tSeat r2.1 v1 r2.2) fun r3 => wC Try.prog cx21 n21_26 Q ⟨(Env.put env 6 r2.1), r3.2⟩) := (ySR 12 (cOps (cL n21_25)) (cR n21_25)).trans (by
  refine w0 ?_
  refine wP 50 fun v0 => ?_
  refine wP 51 fun v1 => ?_
  refine wH 6 fun r2 => ?_
  refine wHn fun r3 => ?_
  exact wE)
theorem n21_24_eq (Q : Ex × St → Prop) (s : St) : wC Try.prog cx21 n21_24 Q s = wC Try.prog cx21 n21_25 (fun r => Q (inBlk 1 r)) s := yB 1 _
theorem n21_28_eq (Q : Ex × St → Prop) (env : Env) (h : Heap) : wC Try.prog cx21 n21_28 Q ⟨env, h⟩ = (Evs (mBin .add (env.get 48) (nat 1)) fun v0 => Q (.nrm, ⟨(Env.put env 48 v0), h⟩)) := (yR 15 (cOps n21_28)).trans (by
  refine w0 ?_
  refine wP 64 fun v0 => ?_
  refine wT 48 v0 ?_
  exact wE)
theorem n21_23_eq (Q : Ex × St → Prop) (s : St) : wC Try.prog cx21 n21_23 Q s = wC Try.prog cx21 n21_24 (sqW (wC Try.prog cx21 n21_28) Q) s := yS _ _
theorem n21_19_eq (Q : Ex × St → Prop) (s : St) : wC Try.prog cx21 n21_19 Q s = wC Try.prog cx21 n21_20 (sqW (wC Try.prog cx21 n21_23) Q) s := yS _ _
theorem n21_18_eq (Q : Ex × St → Prop) (env : Env) (h : Heap) : wC Try.prog cx21 n21_18 Q ⟨env, h⟩ = (Evs (mBin .lss (env.get 48) (env.get 47)) fun v0 => wC Try.prog cx21 n21_19 Q ⟨(Env.put env 49 v0), h⟩) := (ySR 11 (cOps (cL n21_18)) (cR n21_18)).trans (by
  refine w0 ?_
  refine wP 49 fun v0 => ?_
  exact wE)
theorem n21_17_eq (Q : Ex × St → Prop) (s : St) : wC Try.prog cx21 n21_17 Q s = loopW (wC Try.prog cx21 n21_18) Q s := yL _
theorem n21_16_eq (Q : Ex × St → Prop) (s : St) : wC Try.prog cx21 n21_16 Q s = wC Try.prog cx21 n21_17 (fun r => Q (inBlk 0 r)) s := yB 0 _
theorem n21_15_eq (Q : Ex × St → Prop) (env : Env) (h : Heap) : wC Try.prog cx21 n21_15 Q ⟨env, h⟩ = (Evs (mFieldAddr tState (env.get 1) 5) fun v0 => Evs (mLoad .cell v0 h) fun v1 => Evs (mLenS v1) fun v2 => wC Try.prog cx21 n21_16 Q ⟨(Env.put (Env.put (Env.put env 46 v1) 47 v2) 48 (nat 0)), h⟩) := (ySR 10 (cOps (cL n21_15)) (cR n21_15)).trans (by
  refine w0 ?_
  refine wP 45 fun v0 => ?_
  refine wP 46 fun v1 => ?_
  refine wP 47 fun v2 => ?_
  refine wT 48 (nat 0) ?_
  exact wE)
theorem n21_37_eq (Q : Ex × St → Prop) (s : St) : wC Try.prog cx21 n21_37 Q s = Q (.nrm, s) := yK
theorem n21_38_eq (Q : Ex × St → Prop) (s : St) : wC Try.prog cx21 n21_38 Q s = Q (.exit 2, s) := yX 2
theorem n21_36_eq (Q : Ex × St → Prop) (s : St) : wC Try.prog cx21 n21_36 Q s = cndW (s.env.get 75) (wL Try.prog cx21 n21_37 Q s) (wL Try.prog cx21 n21_38 Q s) := yC 75 _ _
theorem n21_44_eq (Q : Ex × St → Prop) (env : Env) (h : Heap) : wC Try.prog cx21 n21_44 Q ⟨env, h⟩ = (Evs (mFieldAddr tInvite (env.get 8) 2) fun v0 => Evs (mLoad tCipher v0 h) fun v1 => SpecA Try.prog 42 [(env.get 4), v1] h fun r2 => Q (.nrm, ⟨env, r2.2⟩)) := (yR 22 (cOps n21_44)).trans (by
  refine w0 ?_
  refine wP 86 fun v0 => ?_
  refine wP 87 fun v1 => ?_
  refine wH 88 fun r2 => ?_
  exact wE)
theorem n21_43_eq (Q : Ex × St → Prop) (env : Env) (h : Heap) : wC Try.prog cx21 n21_43 Q ⟨env, h⟩ = (Evs (mFieldAddr tLwriter (env.get 4) 0) fun v0 => Evs (mFieldAddr tInvite (env.get 8) 1) fun v1 => Evs (mLoad (.int .u8) v1 h) fun v2 => Evs (mConv .u64 v2) fun v3 => SpecA Try.prog 38 [v0, v3, (nat 1)] h fun r4 => wC Try.prog cx21 n21_44 Q ⟨env, r4.2⟩) := (ySR 21 (cOps (cL n21_43)) (cR n21_43)).trans (by
  refine w0 ?_
  refine wP 81 fun v0 => ?_
  refine wP 82 fun v1 => ?_
  refine wP 83 fun v2 => ?_
  refine wP 84 fun v3 => ?_
  refine wH 85 fun r4 => ?_
  exact wE)
theorem n21_42_eq (Q : Ex × St → Prop) (env : Env) (h : Heap) : wC Try.prog cx21 n21_42 Q ⟨env, h⟩ = (Evs (mFieldAddr tInvite (env.get 8) 0) fun v0 => Evs (mLoad tCipher v0 h) fun v1 => SpecA Try.prog 42 [(env.get 4), v1] h fun r2 => wC Try.prog cx21 n21_43 Q ⟨env, r2.2⟩) := (ySR 20 (cOps (cL n21_42)) (cR n21_42)).trans (by
  refine w0 ?_
  refine wP 78 fun v0 => ?_
  refine wP 79 fun v1 => ?_
  refine wH 80 fun r2 => ?_
  exact wE)
theorem n21_41_eq (Q : Ex × St → Prop) (env : Env) (h : Heap) : wC Try.prog cx21 n21_41 Q ⟨env, h⟩ = (Evs (mIdxS tInvite (env.get 72) (env.get 74)) fun v0 => Evs (mLoad tInvite v0 h) fun v1 => Evs (mNew tInvite (.node [(.node [(arr 32 fun _ => 0#8), (arr 32 fun _ => 0#8)]), (u8 0#8), (.node [(arr 32 fun _ => 0#8), (arr 32 fun _ => 0#8)])]) h) fun r2 => Evs (stU tInvite r2.1 v1 r2.2) fun r3 => wC Try.prog cx21 n21_42 Q ⟨(Env.put env 8 r2.1), r3.2⟩) := (ySR 19 (cOps (cL n21_41)) (cR n21_41)).trans (by
  refine w0 ?_
  refine wP 76 fun v0 => ?_
  refine wP 77 fun v1 => ?_
  refine wH 8 fun r2 => ?_
  refine wHn fun r3 => ?_
  exact wE)
theorem n21_40_eq (Q : Ex × St → Prop) (s : St) : wC Try.prog cx21 n21_40 Q s = wC Try.prog cx21 n21_41 (fun r => Q (inBlk 3 r)) s := yB 3 _
theorem n21_45_eq (Q : Ex × St → Prop) (env : Env) (h : Heap) : wC Try.prog cx21 n21_45 Q ⟨env, h⟩ = (Evs (mBin .add (env.get 74) (nat 1)) fun v0 => Q (.nrm, ⟨(Env.put env 74 v0), h⟩)) := (yR 23 (cOps n21_45)).trans (by
  refine w0 ?_
  refine wP 89 fun v0 => ?_
  refine wT 74 v0 ?_
  exact wE)
theorem n21_39_eq (Q : Ex × St → Prop) (s : St) : wC Try.prog cx21 n21_39 Q s = wC Try.prog cx21 n21_40 (sqW (wC Try.prog cx21 n21_45) Q) s := yS _ _
theorem n21_35_eq (Q : Ex × St → Prop) (s : St) : wC Try.prog cx21 n21_35 Q s = wC Try.prog cx21 n21_36 (sqW (wC Try.prog cx21 n21_39) Q) s := yS _ _
theorem n21_34_eq (Q : Ex × St → Prop) (env : Env) (h : Heap) : wC Try.prog cx21 n21_34 Q ⟨env, h⟩ = (Evs (mBin .lss (env.get 74) (env.get 73)) fun v0 => wC Try.prog cx21 n21_35 Q ⟨(Env.put env 75 v0), h⟩) := (ySR 18 (cOps (cL n21_34)) (cR n21_34)).trans (by
  refine w0 ?_
  refine wP 75 fun v0 => ?_
  exact wE)
theorem n21_33_eq (Q : Ex × St → Prop) (s : St) : wC Try.prog cx21 n21_33 Q s = loopW (wC Try.prog cx21 n21_34) Q s := yL _
theorem n21_32_eq (Q : Ex × St → Prop) (s : St) : wC Try.prog cx21 n21_32 Q s = wC Try.prog cx21 n21_33 (fun r => Q (inBlk 2 r)) s := yB 2 _
theorem n21_31_eq (Q : Ex × St → Prop) (env : Env) (h : Heap) : wC Try.prog cx21 n21_31 Q ⟨env, h⟩ = (Evs (mFieldAddr tState (env.get 1) 6) fun v0 => Evs (mLoad .cell v0 h) fun v1 => Evs (mLenS v1) fun v2 => wC Try.prog cx21 n21_32 Q ⟨(Env.put (Env.put (Env.put env 72 v1) 73 v2) 74 (nat 0)), h⟩) := (ySR 17 (cOps (cL n21_31)) (cR n21_31)).trans (by
  refine w0 ?_
  refine wP 71 fun v0 => ?_
  refine wP 72 fun v1 => ?_
  refine wP 73 fun v2 => ?_
  refine wT 74 (nat 0) ?_
  exact wE)
theorem n21_54_eq (Q : Ex × St → Prop) (s : St) : wC Try.prog cx21 n21_54 Q s = Q (.nrm, s) := yK
theorem n21_55_eq (Q : Ex × St → Prop) (s : St) : wC Try.prog cx21 n21_55 Q s = Q (.exit 4, s) := yX 4
theorem n21_53_eq (Q : Ex × St → Prop) (s : St) : wC Try.prog cx21 n21_53 Q s = cndW (s.env.get 100) (wL Try.prog cx21 n21_54 Q s) (wL Try.prog cx21 n21_55 Q s) := yC 100 _ _
theorem n21_60_eq (Q : Ex × St → Prop) (env : Env) (h : Heap) : wC Try.prog cx21 n21_60 Q ⟨env, h⟩ = (Evs (mFieldAddr tLwriter (env.get 4) 0) fun v0 => Evs (mFieldAddr tAsk (env.get 10) 1) fun v1 => Evs (mLoad (.int .u32) v1 h) fun v2 => Evs (mConv .u64 v2) fun v3 => SpecA Try.prog 38 [v0, v3, (nat 4)] h fun r4 => Q (.nrm, ⟨env, r4.2⟩)) := (yR 29 (cOps n21_60)).trans (by
  refine w0 ?_
  refine wP 106 fun v0 => ?_
  refine wP 107 fun v1 => ?_
  refine wP 108 fun v2 => ?_
  refine wP 109 fun v3 => ?_
  refine wH 110 fun r4 => ?_
  exact wE)
theorem n21_59_eq (Q : Ex × St → Prop) (env : Env) (h : Heap) : wC Try.prog cx21 n21_59 Q ⟨env, h⟩ = (Evs (mFieldAddr tAsk (env.get 10) 0) fun v0 => Evs (mLoad tCipher v0 h) fun v1 => SpecA Try.prog 42 [(env.get 4), v1] h fun r2 => wC Try.prog cx21 n21_60 Q ⟨env, r2.2⟩) := (ySR 28 (cOps (cL n21_59)) (cR n21_59)).trans (by
  refine w0 ?_
  refine wP 103 fun v0 => ?_
  refine wP 104 fun v1 => ?_
  refine wH 105 fun r2 => ?_
  exact wE)
theorem n21_58_eq (Q : Ex × St → Prop) (env : Env) (h : Heap) : wC Try.prog cx21 n21_58 Q ⟨env, h⟩ = (Evs (mIdxS tAsk (env.get 97) (env.get 99)) fun v0 => Evs (mLoad tAsk v0 h) fun v1 => Evs (mNew tAsk (.node [(.node [(arr 32 fun _ => 0#8), (arr 32 fun _ => 0#8)]), (u32 0#32)]) h) fun r2 => Evs (stU tAsk r2.1 v1 r2.2) fun r3 => wC Try.prog cx21 n21_59 Q ⟨(Env.put env 10 r2.1), r3.2⟩) := (ySR 27 (cOps (cL n21_58)) (cR n21_58)).trans (by
  refine w0 ?_
  refine wP 101 fun v0 => ?_
  refine wP 102 fun v1 => ?_
  refine wH 10 fun r2 => ?_
  refine wHn fun r3 => ?_
  exact wE)
theorem n21_57_eq (Q : Ex × St → Prop) (s : St) : wC Try.prog cx21 n21_57 Q s = wC Try.prog cx21 n21_58 (fun r => Q (inBlk 5 r)) s := yB 5 _
theorem n21_61_eq (Q : Ex × St → Prop) (env : Env) (h : Heap) : wC Try.prog cx21 n21_61 Q ⟨env, h⟩ = (Evs (mBin .add (env.get 99) (nat 1)) fun v0 => Q (.nrm, ⟨(Env.put env 99 v0), h⟩)) := (yR 30 (cOps n21_61)).trans (by
  refine w0 ?_
  refine wP 111 fun v0 => ?_
  refine wT 99 v0 ?_
  exact wE)
theorem n21_56_eq (Q : Ex × St → Prop) (s : St) : wC Try.prog cx21 n21_56 Q s = wC Try.prog cx21 n21_57 (sqW (wC Try.prog cx21 n21_61) Q) s := yS _ _
theorem n21_52_eq (Q : Ex × St → Prop) (s : St) : wC Try.prog cx21 n21_52 Q s = wC Try.prog cx21 n21_53 (sqW (wC Try.prog cx21 n21_56) Q) s := yS _ _
theorem n21_51_eq (Q : Ex × St → Prop) (env : Env) (h : Heap) : wC Try.prog cx21 n21_51 Q ⟨env, h⟩ = (Evs (mBin .lss (env.get 99) (env.get 98)) fun v0 => wC Try.prog cx21 n21_52 Q ⟨(Env.put env 100 v0), h⟩) := (ySR 26 (cOps (cL n21_51)) (cR n21_51)).trans (by
  refine w0 ?_
  refine wP 100 fun v0 => ?_
  exact wE)
theorem n21_50_eq (Q : Ex × St → Prop) (s : St) : wC Try.prog cx21 n21_50 Q s = loopW (wC Try.prog cx21 n21_51) Q s := yL _
theorem n21_49_eq (Q : Ex × St → Prop) (s : St) : wC Try.prog cx21 n21_49 Q s = wC Try.prog cx21 n21_50 (fun r => Q (inBlk 4 r)) s := yB 4 _
theorem n21_48_eq (Q : Ex × St → Prop) (env : Env) (h : Heap) : wC Try.prog cx21 n21_48 Q ⟨env, h⟩ = (Evs (mFieldAddr tState (env.get 1) 7) fun v0 => Evs (mLoad .cell v0 h) fun v1 => Evs (mLenS v1) fun v2 => wC Try.prog cx21 n21_49 Q ⟨(Env.put (Env.put (Env.put env 97 v1) 98 v2) 99 (nat 0)), h⟩) := (ySR 25 (cOps (cL n21_48)) (cR n21_48)).trans (by
  refine w0 ?_
  refine wP 96 fun v0 => ?_
  refine wP 97 fun v1 => ?_
  refine wP 98 fun v2 => ?_
  refine wT 99 (nat 0) ?_
  exact wE)
theorem n21_70_eq (Q : Ex × St → Prop) (s : St) : wC Try.prog cx21 n21_70 Q s = Q (.nrm, s) := yK
theorem n21_71_eq (Q : Ex × St → Prop) (s : St) : wC Try.prog cx21 n21_71 Q s = Q (.exit 6, s) := yX 6
theorem n21_69_eq (Q : Ex × St → Prop) (s : St) : wC Try.prog cx21 n21_69 Q s = cndW (s.env.get 122) (wL Try.prog cx21 n21_70 Q s) (wL Try.prog cx21 n21_71 Q s) := yC 122 _ _
theorem n21_76_eq (Q : Ex × St → Prop) (env : Env) (h : Heap) : wC Try.prog cx21 n21_76 Q ⟨env, h⟩ = (Evs (mFieldAddr tBan (env.get 12) 1) fun v0 => Evs (mLoad tCipher v0 h) fun v1 => SpecA Try.prog 42 [(env.get 4), v1] h fun r2 => Q (.nrm, ⟨env, r2.2⟩)) := (yR 36 (cOps n21_76)).trans (by
  refine w0 ?_
  refine wP 128 fun v0 => ?_
  refine wP 129 fun v1 => ?_
  refine wH 130 fun r2 => ?_
  exact wE)
theorem n21_75_eq (Q : Ex × St → Prop) (env : Env) (h : Heap) : wC Try.prog cx21 n21_75 Q ⟨env, h⟩ = (Evs (mFieldAddr tBan (env.get 12) 0) fun v0 => Evs (mLoad tCipher v0 h) fun v1 => SpecA Try.prog 42 [(env.get 4), v1] h fun r2 => wC Try.prog cx21 n21_76 Q ⟨env, r2.2⟩) := (ySR 35 (cOps (cL n21_75)) (cR n21_75)).trans (by
  refine w0 ?_
  refine wP 125 fun v0 => ?_
  refine wP 126 fun v1 => ?_
  refine wH 127 fun r2 => ?_
  exact wE)
theorem n21_74_eq (Q : Ex × St → Prop) (env : Env) (h : Heap) : wC Try.prog cx21 n21_74 Q ⟨env, h⟩ = (Evs (mIdxS tBan (env.get 119) (env.get 121)) fun v0 => Evs (mLoad tBan v0 h) fun v1 => Evs (mNew tBan (.node [(.node [(arr 32 fun _ => 0#8), (arr 32 fun _ => 0#8)]), (.node [(arr 32 fun _ => 0#8), (arr 32 fun _ => 0#8)])]) h) fun r2 => Evs (stU tBan r2.1 v1 r2.2) fun r3 => wC Try.prog cx21 n21_75 Q ⟨(Env.put env 12 r2.1), r3.2⟩) := (ySR 34 (cOps (cL n21_74)) (cR n21_74)).trans (by
  refine w0 ?_
  refine wP 123 fun v0 => ?_
  refine wP 124 fun v1 => ?_
  refine wH 12 fun r2 => ?_
  refine wHn fun r3 => ?_
  exact wE)
theorem n21_73_eq (Q : Ex × St → Prop) (s : St) : wC Try.prog cx21 n21_73 Q s = wC Try.prog cx21 n21_74 (fun r => Q (inBlk 7 r)) s := yB 7 _
theorem n21_77_eq (Q : Ex × St → Prop) (env : Env) (h : Heap) : wC Try.prog cx21 n21_77 Q ⟨env, h⟩ = (Evs (mBin .add (env.get 121) (nat 1)) fun v0 => Q (.nrm, ⟨(Env.put env 121 v0), h⟩)) := (yR 37 (cOps n21_77)).trans (by
  refine w0 ?_
  refine wP 131 fun v0 => ?_
  refine wT 121 v0 ?_
  exact wE)
theorem n21_72_eq (Q : Ex × St → Prop) (s : St) : wC Try.prog cx21 n21_72 Q s = wC Try.prog cx21 n21_73 (sqW (wC Try.prog cx21 n21_77) Q) s := yS _ _
theorem n21_68_eq (Q : Ex × St → Prop) (s : St) : wC Try.prog cx21 n21_68 Q s = wC Try.prog cx21 n21_69 (sqW (wC Try.prog cx21 n21_72) Q) s := yS _ _
theorem n21_67_eq (Q : Ex × St → Prop) (env : Env) (h : Heap) : wC Try.prog cx21 n21_67 Q ⟨env, h⟩ = (Evs (mBin .lss (env.get 121) (env.get 120)) fun v0 => wC Try.prog cx21 n21_68 Q ⟨(Env.put env 122 v0), h⟩) := (ySR 33 (cOps (cL n21_67)) (cR n21_67)).trans (by
  refine w0 ?_
  refine wP 122 fun v0 => ?_
  exact wE)
theorem n21_66_eq (Q : Ex × St → Prop) (s : St) : wC Try.prog cx21 n21_66 Q s = loopW (wC Try.prog cx21 n21_67) Q s := yL _
theorem n21_65_eq (Q : Ex × St → Prop) (s : St) : wC Try.prog cx21 n21_65 Q s = wC Try.prog cx21 n21_66 (fun r => Q (inBlk 6 r)) s := yB 6 _
theorem n21_64_eq (Q : Ex × St → Prop) (env : Env) (h : Heap) : wC Try.prog cx21 n21_64 Q ⟨env, h⟩ = (Evs (mFieldAddr tState (env.get 1) 8) fun v0 => Evs (mLoad .cell v0 h) fun v1 => Evs (mLenS v1) fun v2 => wC Try.prog cx21 n21_65 Q ⟨(Env.put (Env.put (Env.put env 119 v1) 120 v2) 121 (nat 0)), h⟩) := (ySR 32 (cOps (cL n21_64)) (cR n21_64)).trans (by
  refine w0 ?_
  refine wP 118 fun v0 => ?_
  refine wP 119 fun v1 => ?_
  refine wP 120 fun v2 => ?_
  refine wT 121 (nat 0) ?_
  exact wE)
theorem n21_79_eq (Q : Ex × St → Prop) (s : St) : wC Try.prog cx21 n21_79 Q s = Q (.ret, s) := yE
theorem n21_78_eq (Q : Ex × St → Prop) (env : Env) (h : Heap) : wC Try.prog cx21 n21_78 Q ⟨env, h⟩ = (Evs (mFieldAddr tLwriter (env.get 4) 0) fun v0 => SpecA Try.prog 43 [v0] h fun r1 => Evs (mExtract r1.1 0) fun v2 => Evs (mExtract r1.1 1) fun v3 => wC Try.prog cx21 n21_79 Q ⟨(Env.put (Env.put env 2 v2) 3 v3), r1.2⟩) := (ySR 38 (cOps (cL n21_78)) (cR n21_78)).trans (by
  refine w0 ?_
  refine wP 132 fun v0 => ?_
  refine wH 133 fun r1 => ?_
  refine wP 134 fun v2 => ?_
  refine wP 135 fun v3 => ?_
  refine wT 2 v2 ?_
  refine wT 3 v3 ?_
  exact wE)
theorem n21_63_eq (Q : Ex × St → Prop) (s : St) : wC Try.prog cx21 n21_63 Q s = wC Try.prog cx21 n21_64 (sqW (wC Try.prog cx21 n21_78) Q) s := yS _ _
theorem n21_62_eq (Q : Ex × St → Prop) (env : Env) (h : Heap) : wC Try.prog cx21 n21_62 Q ⟨env, h⟩ = (Evs (mFieldAddr tLwriter (env.get 4) 0) fun v0 => Evs (mFieldAddr tState (env.get 1) 8) fun v1 => Evs (mLoad .cell v1 h) fun v2 => Evs (mLenS v2) fun v3 => Evs (mConv .u64 v3) fun v4 => SpecA Try.prog 38 [v0, v4, (nat 1)] h fun r5 => wC Try.prog cx21 n21_63 Q ⟨env, r5.2⟩) := (ySR 31 (cOps (cL n21_62)) (cR n21_62)).trans (by
  refine w0 ?_
  refine wP 112 fun v0 => ?_
  refine wP 113 fun v1 => ?_
  refine wP 114 fun v2 => ?_
  refine wP 115 fun v3 => ?_
  refine wP 116 fun v4 => ?_
  refine wH 117 fun r5 => ?_
  exact wE)
theorem n21_47_eq (Q : Ex × St → Prop) (s : St) : wC Try.prog cx21 n21_47 Q s = wC Try.prog cx21 n21_48 (sqW (wC Try.prog cx21 n21_62) Q) s := yS _ _
theorem n21_46_eq (Q : Ex × St → Prop) (env : Env) (h : Heap) : wC Try.prog cx21 n21_46 Q ⟨env, h⟩ = (Evs (mFieldAddr tLwriter (env.get 4) 0) fun v0 => Evs (mFieldAddr tState (env.get 1) 7) fun v1 => Evs (mLoad .cell v1 h) fun v2 => Evs (mLenS v2) fun v3 => Evs (mConv .u64 v3) fun v4 => SpecA Try.prog 38 [v0, v4, (nat 1)] h fun r5 => wC Try.prog cx21 n21_47 Q ⟨env, r5.2⟩) := (ySR 24 (cOps (cL n21_46)) (cR n21_46)).trans (by
  refine w0 ?_
  refine wP 90 fun v0 => ?_
  refine wP 91 fun v1 => ?_
  refine wP 92 fun v2 => ?_
  refine wP 93 fun v3 => ?_
  refine wP 94 fun v4 => ?_
  refine wH 95 fun r5 => ?_
  exact wE)
theorem n21_30_eq (Q : Ex × St → Prop) (s : St) : wC Try.prog cx21 n21_30 Q s = wC Try.prog cx21 n21_31 (sqW (wC Try.prog cx21 n21_46) Q) s := yS _ _
theorem n21_29_eq (Q : Ex × St → Prop) (env : Env) (h : Heap) : wC Try.prog cx21 n21_29 Q ⟨env, h⟩ = (Evs (mFieldAddr tLwriter (env.get 4) 0) fun v0 => Evs (mFieldAddr tState (env.get 1) 6) fun v1 => Evs (mLoad .cell v1 h) fun v2 => Evs (mLenS v2) fun v3 => Evs (mConv .u64 v3) fun v4 => SpecA Try.prog 38 [v0, v4, (nat 1)] h fun r5 => wC Try.prog cx21 n21_30 Q ⟨env, r5.2⟩) := (ySR 16 (cOps (cL n21_29)) (cR n21_29)).trans (by
  refine w0 ?_
  refine wP 65 fun v0 => ?_
  refine wP 66 fun v1 => ?_
  refine wP 67 fun v2 => ?_
  refine wP 68 fun v3 => ?_
  refine wP 69 fun v4 => ?_
  refine wH 70 fun r5 => ?_
  exact wE)
theorem n21_14_eq (Q : Ex × St → Prop) (s : St) : wC Try.prog cx21 n21_14 Q s = wC Try.prog cx21 n21_15 (sqW (wC Try.prog cx21 n21_29) Q) s := yS _ _
theorem n21_13_ok : treeOk (cOps (cL n21_13)).toList [3, 8] [0, 0, 2, 7, 0, 16, 48, 112, 255] = true := by kernel_rfl
theorem n21_13_w (Q : Ex × St → Prop) (env : Env) (h : Heap) (H : Evs (mFieldAddr tLwriter (env.get 4) 0) fun v0_1 => Evs (mFieldAddr tState (env.get 1) 4) fun v1_2 => Evs (mLoad .cell v1_2 h) fun v2_3 => Evs (mFieldAddr tState (env.get 1) 5) fun v4_4 => Evs (mLoad .cell v4_4 h) fun v5_5 => Evs (mLenS v5_5) fun v6_6 => Evs (mConv .u64 v6_6) fun v7_7 => SpecA Try.prog 40 [v0_1, v2_3] h fun r3_8 => stabP (mLoad .cell v4_4 r3_8.2 = some v5_5) (stabP (mConv .u64 v6_6 = some v7_7) (SpecA Try.prog 38 [r3_8.1, v7_7, (nat 1)] r3_8.2 fun r8_9 => wC Try.prog cx21 n21_14 Q ⟨env, r8_9.2⟩))) : wC Try.prog cx21 n21_13 Q ⟨env, h⟩ := by
  refine ySD 9 (cOps (cL n21_13)) (cR n21_13) [3, 8] [0, 0, 2, 7, 0, 16, 48, 112, 255] [0, 1, 2, 4, 5, 6, 7] n21_13_ok ?_
  refine rP H 36 fun v0_1 H => ?_
  refine rP H 37 fun v1_2 H => ?_
  refine rP H 38 fun v2_3 H => ?_
  refine rP H 40 fun v4_4 H => ?_
  refine rP H 41 fun v5_5 H => ?_
  refine rP H 42 fun v6_6 H => ?_
  refine rP H 43 fun v7_7 H => ?_
  refine rE ?_
  refine tN 3 [] ?_
  refine aN1 ?_
  refine tH H 39 [] [5, 7] (fun r3_8 H => ?_)
  refine sP v5_5 41 H (fun H => ?_) (by kernel_rfl) (by kernel_rfl) (by kernel_rfl)
  refine sP v7_7 43 H (fun H => ?_) (by kernel_rfl) (by kernel_rfl) (by kernel_rfl)
  refine ⟨sNil, ?_⟩
  refine rE ?_
  refine tN 8 [] ?_
  refine aN1 ?_
  refine tH H 44 [] [] (fun r8_9 H => ?_)
  refine ⟨sNil, ?_⟩
  refine rE ?_
  exact tE H
theorem n21_12_eq (Q : Ex × St → Prop) (env : Env) (h : Heap) : wC Try.prog cx21 n21_12 Q ⟨env, h⟩ = (Evs (mFieldAddr tState (env.get 1) 3) fun v0 => Evs (mLoad tAccess v0 h) fun v1 => SpecA Try.prog 41 [(env.get 4), v1] h fun r2 => wC Try.prog cx21 n21_13 Q ⟨env, r2.2⟩) := (ySR 8 (cOps (cL n21_12)) (cR n21_12)).trans (by
  refine w0 ?_
  refine wP 33 fun v0 => ?_
  refine wP 34 fun v1 => ?_
  refine wH 35 fun r2 => ?_
  exact wE)
theorem n21_11_eq (Q : Ex × St → Prop) (env : Env) (h : Heap) : wC Try.prog cx21 n21_11 Q ⟨env, h⟩ = (Evs (mFieldAddr tLwriter (env.get 4) 0) fun v0 => Evs (mFieldAddr tState (env.get 1) 2) fun v1 => Evs (mLoad .cell v1 h) fun v2 => SpecA Try.prog 40 [v0, v2] h fun r3 => wC Try.prog cx21 n21_12 Q ⟨env, r3.2⟩) := (ySR 7 (cOps (cL n21_11)) (cR n21_11)).trans (by
  refine w0 ?_
  refine wP 29 fun v0 => ?_
  refine wP 30 fun v1 => ?_
  refine wP 31 fun v2 => ?_
  refine wH 32 fun r3 => ?_
  exact wE)
theorem n21_10_eq (Q : Ex × St → Prop) (env : Env) (h : Heap) : wC Try.prog cx21 n21_10 Q ⟨env, h⟩ = (Evs (mFieldAddr tState (env.get 1) 1) fun v0 => Evs (mFieldAddr tPublic v0 1) fun v1 => Evs (mLoad (.arr 32 (.int .u8)) v1 h) fun v2 => SpecA Try.prog 39 [(env.get 4), v2] h fun r3 => wC Try.prog cx21 n21_11 Q ⟨env, r3.2⟩) := (ySR 6 (cOps (cL n21_10)) (cR n21_10)).trans (by
  refine w0 ?_
  refine wP 25 fun v0 => ?_
  refine wP 26 fun v1 => ?_
  refine wP 27 fun v2 => ?_
  refine wH 28 fun r3 => ?_
  exact wE)
theorem n21_9_eq (Q : Ex × St → Prop) (env : Env) (h : Heap) : wC Try.prog cx21 n21_9 Q ⟨env, h⟩ = (Evs (mFieldAddr tState (env.get 1) 1) fun v0 => Evs (mFieldAddr tPublic v0 0) fun v1 => Evs (mLoad (.arr 32 (.int .u8)) v1 h) fun v2 => SpecA Try.prog 39 [(env.get 4), v2] h fun r3 => wC Try.prog cx21 n21_10 Q ⟨env, r3.2⟩) := (ySR 5 (cOps (cL n21_9)) (cR n21_9)).trans (by
  refine w0 ?_
  refine wP 21 fun v0 => ?_
  refine wP 22 fun v1 => ?_
  refine wP 23 fun v2 => ?_
  refine wH 24 fun r3 => ?_
  exact wE)
theorem n21_8_eq (Q : Ex × St → Prop) (env : Env) (h : Heap) : wC Try.prog cx21 n21_8 Q ⟨env, h⟩ = (Evs (mFieldAddr tLwriter (env.get 4) 0) fun v0 => Evs (mFieldAddr tState (env.get 1) 0) fun v1 => Evs (mLoad (.int .u32) v1 h) fun v2 => Evs (mConv .u64 v2) fun v3 => SpecA Try.prog 38 [v0, v3, (nat 4)] h fun r4 => wC Try.prog cx21 n21_9 Q ⟨env, r4.2⟩) := (ySR 4 (cOps (cL n21_8)) (cR n21_8)).trans (by
  refine w0 ?_
  refine wP 16 fun v0 => ?_
  refine wP 17 fun v1 => ?_
  refine wP 18 fun v2 => ?_
  refine wP 19 fun v3 => ?_
  refine wH 20 fun r4 => ?_
  exact wE)
theorem n21_7_eq (Q : Ex × St → Prop) (env : Env) (h : Heap) : wC Try.prog cx21 n21_7 Q ⟨env, h⟩ = (Evs (mNew tLwriter (.node [(.node [.nilslice, (nat 0)])]) h) fun r0 => wC Try.prog cx21 n21_8 Q ⟨(Env.put env 4 r0.1), r0.2⟩) := (ySR 3 (cOps (cL n21_7)) (cR n21_7)).trans (by
  refine w0 ?_
  refine wH 4 fun r0 => ?_
  exact wE)
theorem n21_1_eq (Q : Ex × St → Prop) (s : St) : wC Try.prog cx21 n21_1 Q s = wC Try.prog cx21 n21_2 (sqW (wC Try.prog cx21 n21_7) Q) s := yS _ _
theorem n21_0_eq (Q : Ex × St → Prop) (env : Env) (h : Heap) : wC Try.prog cx21 n21_0 Q ⟨env, h⟩ = (Evs (mNew tState (env.get 0) h) fun r0 => wC Try.prog cx21 n21_1 Q ⟨(Env.put (Env.put (Env.put env 1 r0.1) 2 .nilslice) 3 (nat 0)), r0.2⟩) := (ySR 0 (cOps (cL n21_0)) (cR n21_0)).trans (by
  refine w0 ?_
  refine wH 1 fun r0 => ?_
  refine wT 2 .nilslice ?_
  refine wT 3 (nat 0) ?_
  exact wE)
theorem fn21 : Try.prog.funcs[21]? = some Try.f21 := by kernel_rfl
set_option maxHeartbeats 4000000 in
theorem q21 {a0 : AV} {h : Heap} {K : AV × Heap → Prop} (H : ∀ env : Env, env.get 0 = a0 → wC Try.prog cx21 n21_0 (retW (fun s => (bnd (some (s.env.get 2)) fun v => bnd (bnd (some (s.env.get 3)) fun v => bnd (some []) fun vs => some (v :: vs)) fun vs => some (v :: vs))) K) ⟨env, h⟩) : SpecQ Try.prog 21 [a0] h K :=
  bodyW_sound (C := cx21) TT_ok mixed_ok fn21 (by kernel_rfl) (show _ = some n21_0 by kernel_rfl) (by kernel_rfl) (by kernel_rfl) (of_decide_eq_true (by kernel_rfl)) ((show wC Try.prog cx21 n21_0 (retW (fun s => resAll cx21 s Try.f21.results.toList) K) ⟨env0 cx21 [a0], h⟩ = wC Try.prog cx21 n21_0 (retW (fun s => (bnd (some (s.env.get 2)) fun v => bnd (bnd (some (s.env.get 3)) fun v => bnd (some []) fun vs => some (v :: vs)) fun vs => some (v :: vs))) K) ⟨[(0, a0), (1, .junk), (2, .junk), (3, .junk), (4, .junk), (5, .junk), (6, .junk), (7, .junk), (8, .junk), (9, .junk), (10, .junk), (11, .junk), (12, .junk), (15, .junk), (46, .junk), (47, .junk), (48, .junk), (49, .junk), (72, .junk), (73, .junk), (74, .junk), (75, .junk), (97, .junk), (98, .junk), (99, .junk), (100, .junk), (119, .junk), (120, .junk), (121, .junk), (122, .junk)], h⟩ by kernel_rfl).mpr (H [(0, a0), (1, .junk), (2, .junk), (3, .junk), (4, .junk), (5, .junk), (6, .junk), (7, .junk), (8, .junk), (9, .junk), (10, .junk), (11, .junk), (12, .junk), (15, .junk), (46, .junk), (47, .junk), (48, .junk), (49, .junk), (72, .junk), (73, .junk), (74, .junk), (75, .junk), (97, .junk), (98, .junk), (99, .junk), (100, .junk), (119, .junk), (120, .junk), (121, .junk), (122, .junk)] rfl))
set_option maxHeartbeats 4000000 in
def sn21 := And.intro n21_5_eq (And.intro n21_4_eq (And.intro n21_6_eq (And.intro n21_3_eq (And.intro n21_2_eq (And.intro n21_21_eq (And.intro n21_22_eq (And.intro n21_20_eq (And.intro n21_26_eq (And.intro n21_25_eq (And.intro n21_24_eq (And.intro n21_28_eq (And.intro n21_23_eq (And.intro n21_19_eq (And.intro n21_18_eq (And.intro n21_17_eq (And.intro n21_16_eq (And.intro n21_15_eq (And.intro n21_37_eq (And.intro n21_38_eq (And.intro n21_36_eq (And.intro n21_44_eq (And.intro n21_43_eq (And.intro n21_42_eq (And.intro n21_41_eq (And.intro n21_40_eq (And.intro n21_45_eq (And.intro n21_39_eq (And.intro n21_35_eq (And.intro n21_34_eq (And.intro n21_33_eq (And.intro n21_32_eq (And.intro n21_31_eq (And.intro n21_54_eq (And.intro n21_55_eq (And.intro n21_53_eq (And.intro n21_60_eq (And.intro n21_59_eq (And.intro n21_58_eq (And.intro n21_57_eq (And.intro n21_61_eq (And.intro n21_56_eq (And.intro n21_52_eq (And.intro n21_51_eq (And.intro n21_50_eq (And.intro n21_49_eq (And.intro n21_48_eq (And.intro n21_70_eq (And.intro n21_71_eq (And.intro n21_69_eq (And.intro n21_76_eq (And.intro n21_75_eq (And.intro n21_74_eq (And.intro n21_73_eq (And.intro n21_77_eq (And.intro n21_72_eq (And.intro n21_68_eq (And.intro n21_67_eq (And.intro n21_66_eq (And.intro n21_65_eq (And.intro n21_64_eq (And.intro n21_79_eq (And.intro n21_78_eq (And.intro n21_63_eq (And.intro n21_62_eq (And.intro n21_47_eq (And.intro n21_46_eq (And.intro n21_30_eq (And.intro n21_29_eq (And.intro n21_14_eq (And.intro n21_12_eq (And.intro n21_11_eq (And.intro n21_10_eq (And.intro n21_9_eq (And.intro n21_8_eq (And.intro n21_7_eq (And.intro n21_1_eq (n21_0_eq)))))))))))))))))))))))))))))))))))))))))))))))))))))))))))))))))))))))))))))
-- draws: n21_27 n21_13
end Go.Vab

/-
  A state's form, walked.
-/
namespace Go.Vab
open Go Go.Proofs

/-- What is asked of MayState. -/
def MayS (P : Program) (f : Nat) : Prop := ∀ {h : Heap} {a : Stt} {vt vp vs vi va vb : AV}, StR h a vt vp vs vi va vb → SpecQ P f [eSt a vt vp vs vi va vb] h fun r => ∃ b, r = (.bool b, h) ∧ (b = true → slimS a)

theorem shL {n : Nat} (hn : n ≤ 40) : (BitVec.ofNat 64 n) >>> (8 * 1) = 0#64 := by
  apply BitVec.eq_of_toNat_eq
  rw [BitVec.toNat_ushiftRight, BitVec.toNat_ofNat, Nat.mod_eq_of_lt (by omega), Nat.shiftRight_eq_div_pow]
  simp; omega
/-- A state beside a writer in a cell behind it. -/
structure SI (h : Heap) (a : Stt) (vt vp vs vi va vb : AV) (H : Heap) (x : AV) (l : Bs) : Prop where
  hw : Wx H (h.length + 1) x l
  st : StR H a vt vp vs vi va vb
  ap : ∀ y ∈ [vt, vp, vs, vi, va, vb], Ap H y (h.length + 1) x
  bx : H[h.length]? = some ⟨eSt a vt vp vs vi va vb, 0, .own⟩ ∧ rb x ≠ some h.length
  kk : KeepW h H (h.length + 1) .nilslice x
theorem SI.step {h : Heap} {a : Stt} {vt vp vs vi va vb : AV} {H H' : Heap} {x x' : AV} {l l' : Bs} (s : SI h a vt vp vs vi va vb H x l) (k : KeepW H H' (h.length + 1) x x') (hw : Wx H' (h.length + 1) x' l') : SI h a vt vp vs vi va vb H' x' l' where
  hw := hw
  st := ⟨s.st.ft.keep k (s.ap _ (by simp)), s.st.fp.keep k (s.ap _ (by simp)), s.st.fs.keep k (s.ap _ (by simp)), s.st.fi.keep k (s.ap _ (by simp)), s.st.fa.keep k (s.ap _ (by simp)), s.st.fb.keep k (s.ap _ (by simp))⟩
  ap y hy := (s.ap y hy).step k
  bx := ⟨k.keep _ _ s.bx.1 (by omega) s.bx.2, fun e => by
    rcases k.row _ e with h1 | h1
    · exact s.bx.2 h1
    · have := (List.getElem?_eq_some_iff.1 s.bx.1).1
      omega⟩
  kk := s.kk.trans k
theorem SI.ext {h : Heap} {a : Stt} {vt vp vs vi va vb : AV} {H : Heap} {x : AV} {l : Bs} (s : SI h a vt vp vs vi va vb H x l) (e : Heap) : SI h a vt vp vs vi va vb (H ++ e) x l := s.step (KeepW.ext _ _ _ _) (s.hw.app _)
theorem SI.b0 {h : Heap} {a : Stt} {vt vp vs vi va vb : AV} {H : Heap} {x : AV} {l : Bs} (s : SI h a vt vp vs vi va vb H x l) : blkAt H h.length 0 = some ⟨eSt a vt vp vs vi va vb, 0, .own⟩ := by
  unfold blkAt; rw [s.bx.1]; rfl

theorem SI.gen {h : Heap} {a : Stt} {vt vp vs vi va vb : AV} {H : Heap} {x : AV} {l : Bs} (s : SI h a vt vp vs vi va vb H x l) : ∃ L, L = l ∧ SI h a vt vp vs vi va vb H x L := ⟨l, rfl, s⟩
theorem flat_succ {Y : Type} {f : Y → Bs} {l : List Y} {i : Nat} (hi : i < l.length) : ((l.take (i + 1)).map f).flatten = ((l.take i).map f).flatten ++ f l[i] := by
  rw [List.take_add_one, List.getElem?_eq_getElem hi]
  simp only [Option.toList, List.map_append, List.map_cons, List.map_nil, List.flatten_append, List.flatten_cons, List.flatten_nil, List.append_nil]
theorem flat_len {Y : Type} {f : Y → Bs} {c n : Nat} (hf : ∀ y, (f y).length = c) : ∀ {l : List Y}, l.length ≤ n → (l.map f).flatten.length ≤ n * c := by
  intro l hl
  have : ∀ l : List Y, (l.map f).flatten.length = l.length * c := by
    intro l
    induction l with
    | nil => simp
    | cons y l ih => rw [List.map_cons, List.flatten_cons, List.length_append, ih, hf, List.length_cons, Nat.succ_mul, Nat.add_comm]
  rw [this]
  exact Nat.mul_le_mul_right _ hl

set_option maxHeartbeats 4000000 in
set_option maxRecDepth 20000 in
theorem c21 (hM : MayS Try.prog 37) {h : Heap} {a : Stt} {vt vp vs vi va vb : AV} (ra : StR h a vt vp vs vi va vb) :
    SpecQ Try.prog 21 [eSt a vt vp vs vi va vb] h fun r => (∃ t, r = (.tuple [.nilslice, nat 2], h ++ t)) ∨ (slimS a ∧ ∃ y t, r = (.tuple [y, nat 0], h ++ t) ∧ BytL (h ++ t) y (stB a)) := by
  have ta := ra.cells
  refine q21 fun env g0 => ?_
  repeat' (first | ((with_reducible apply evs_of); (focus ((conv => lhs; simp (disch := omega) [g0, ta]); done)); try dsimp only) | ((with_reducible apply cndW_T); (focus (simp (disch := omega) [g0, ta] <;> omega))) | ((with_reducible apply cndW_F); (focus (simp (disch := omega) [g0, ta] <;> omega))) | ((with_reducible apply stabP_i); (focus (simp (disch := omega) [g0, ta]; done))) | (with_reducible apply wL_i) | ((with_reducible apply SpecA_i); (focus ((conv => lhs; simp (disch := omega) [g0, ta]); done))) | ((with_reducible apply stabA_i); (focus ((conv => lhs; simp (disch := omega) [g0, ta]); done))) | ((with_reducible apply stabA_fn); (focus ((conv => lhs; simp (disch := omega) [g0, ta]); done))) | ((with_reducible apply stab_do); (focus (simp (disch := omega) [g0, ta]; done))) | (simp (decide := true) only [sn21, sqW_nrm, sqW_exit, sqW_ret, inBlk_nrm, inBlk_ret, inBlk_same, inBlk_exit, if_true, if_false, retW_nrm, retW_ret]) | (with_reducible refine n21_27_w _ _ _ ?_) | (with_reducible refine n21_13_w _ _ _ ?_))
  refine SpecQ.step (hM (ra.app _)) ?_
  rintro ⟨v, h2⟩ ⟨b, e, hb⟩
  cases e
  cases b
  · repeat' (first | ((with_reducible apply evs_of); (focus ((conv => lhs; simp (disch := omega) [g0, ta]); done)); try dsimp only) | ((with_reducible apply cndW_T); (focus (simp (disch := omega) [g0, ta] <;> omega))) | ((with_reducible apply cndW_F); (focus (simp (disch := omega) [g0, ta] <;> omega))) | ((with_reducible apply stabP_i); (focus (simp (disch := omega) [g0, ta]; done))) | (with_reducible apply wL_i) | ((with_reducible apply SpecA_i); (focus ((conv => lhs; simp (disch := omega) [g0, ta]); done))) | ((with_reducible apply stabA_i); (focus ((conv => lhs; simp (disch := omega) [g0, ta]); done))) | ((with_reducible apply stabA_fn); (focus ((conv => lhs; simp (disch := omega) [g0, ta]); done))) | ((with_reducible apply stab_do); (focus (simp (disch := omega) [g0, ta]; done))) | (simp (decide := true) only [sn21, sqW_nrm, sqW_exit, sqW_ret, inBlk_nrm, inBlk_ret, inBlk_same, inBlk_exit, if_true, if_false, retW_nrm, retW_ret]) | (with_reducible refine n21_27_w _ _ _ ?_) | (with_reducible refine n21_13_w _ _ _ ?_))
    exact .inl ⟨_, rfl⟩
  · obtain ⟨z1, z2, z3, z4, z5, z6⟩ := hb rfl
    have s : SI h a vt vp vs vi va vb (h ++ [⟨eSt a vt vp vs vi va vb, 0, .own⟩, ⟨wV .nilslice, 0, .own⟩]) .nilslice [] := by
      have hlt : ∀ y ∈ [vt, vp, vs, vi, va, vb], ∀ b, rb y = some b → b < h.length := by
        intro y hy
        simp only [List.mem_cons, List.not_mem_nil, or_false] at hy
        rcases hy with rfl | rfl | rfl | rfl | rfl | rfl
        · exact ra.ft.rb_lt'
        · exact ra.fp.rb_lt'
        · exact ra.fs.rb_lt
        · exact ra.fi.rb_lt
        · exact ra.fa.rb_lt
        · exact ra.fb.rb_lt
      exact ⟨⟨by rw [List.getElem?_append_right (by omega)]; simp, by simp, .inl ⟨rfl, rfl⟩⟩, ra.app _, fun y hy b hb => by have := hlt y hy b hb; exact ⟨by simp; omega, by omega, fun e => by cases e⟩, ⟨by simp, fun e => by cases e⟩, KeepW.ext _ _ _ _⟩
    have b0 := s.b0

    repeat' (first | ((with_reducible apply evs_of); (focus ((conv => lhs; simp (disch := omega) [g0, ta, b0]); done)); try dsimp only) | ((with_reducible apply cndW_T); (focus (simp (disch := omega) [g0, ta, b0] <;> omega))) | ((with_reducible apply cndW_F); (focus (simp (disch := omega) [g0, ta, b0] <;> omega))) | ((with_reducible apply stabP_i); (focus (simp (disch := omega) [g0, ta, b0]; done))) | (with_reducible apply wL_i) | ((with_reducible apply SpecA_i); (focus ((conv => lhs; simp (disch := omega) [g0, ta, b0]); done))) | ((with_reducible apply stabA_i); (focus ((conv => lhs; simp (disch := omega) [g0, ta, b0]); done))) | ((with_reducible apply stabA_fn); (focus ((conv => lhs; simp (disch := omega) [g0, ta, b0]); done))) | ((with_reducible apply stab_do); (focus (simp (disch := omega) [g0, ta, b0]; done))) | (simp (decide := true) only [sn21, sqW_nrm, sqW_exit, sqW_ret, inBlk_nrm, inBlk_ret, inBlk_same, inBlk_exit, if_true, if_false, retW_nrm, retW_ret]) | (with_reducible refine n21_27_w _ _ _ ?_) | (with_reducible refine n21_13_w _ _ _ ?_))
    refine SpecQ.step (c38 (size := 4) s.hw (by omega) (by omega) (.inl (sh32 _)) (by simp)) ?_
    rintro ⟨v, h2⟩ ⟨rfl, x2, hw, k2⟩
    have s := s.step k2 hw
    have b0 := s.b0
    try unfold wp
    repeat' (first | ((with_reducible apply evs_of); (focus ((conv => lhs; simp (disch := omega) [g0, ta, b0]); done)); try dsimp only) | ((with_reducible apply cndW_T); (focus (simp (disch := omega) [g0, ta, b0] <;> omega))) | ((with_reducible apply cndW_F); (focus (simp (disch := omega) [g0, ta, b0] <;> omega))) | ((with_reducible apply stabP_i); (focus (simp (disch := omega) [g0, ta, b0]; done))) | (with_reducible apply wL_i) | ((with_reducible apply SpecA_i); (focus ((conv => lhs; simp (disch := omega) [g0, ta, b0]); done))) | ((with_reducible apply stabA_i); (focus ((conv => lhs; simp (disch := omega) [g0, ta, b0]); done))) | ((with_reducible apply stabA_fn); (focus ((conv => lhs; simp (disch := omega) [g0, ta, b0]); done))) | ((with_reducible apply stab_do); (focus (simp (disch := omega) [g0, ta, b0]; done))) | (simp (decide := true) only [sn21, sqW_nrm, sqW_exit, sqW_ret, inBlk_nrm, inBlk_ret, inBlk_same, inBlk_exit, if_true, if_false, retW_nrm, retW_ret]) | (with_reducible refine n21_27_w _ _ _ ?_) | (with_reducible refine n21_13_w _ _ _ ?_))
    refine SpecQ.step (c39 s.hw (by simp [beN_len, Pt.h] <;> omega)) ?_
    rintro ⟨v, h2⟩ ⟨rfl, x2, hw, k2⟩
    have s := s.step k2 hw
    have b0 := s.b0
    try unfold wp
    repeat' (first | ((with_reducible apply evs_of); (focus ((conv => lhs; simp (disch := omega) [g0, ta, b0]); done)); try dsimp only) | ((with_reducible apply cndW_T); (focus (simp (disch := omega) [g0, ta, b0] <;> omega))) | ((with_reducible apply cndW_F); (focus (simp (disch := omega) [g0, ta, b0] <;> omega))) | ((with_reducible apply stabP_i); (focus (simp (disch := omega) [g0, ta, b0]; done))) | (with_reducible apply wL_i) | ((with_reducible apply SpecA_i); (focus ((conv => lhs; simp (disch := omega) [g0, ta, b0]); done))) | ((with_reducible apply stabA_i); (focus ((conv => lhs; simp (disch := omega) [g0, ta, b0]); done))) | ((with_reducible apply stabA_fn); (focus ((conv => lhs; simp (disch := omega) [g0, ta, b0]); done))) | ((with_reducible apply stab_do); (focus (simp (disch := omega) [g0, ta, b0]; done))) | (simp (decide := true) only [sn21, sqW_nrm, sqW_exit, sqW_ret, inBlk_nrm, inBlk_ret, inBlk_same, inBlk_exit, if_true, if_false, retW_nrm, retW_ret]) | (with_reducible refine n21_27_w _ _ _ ?_) | (with_reducible refine n21_13_w _ _ _ ?_))
    refine SpecQ.step (c39 s.hw (by simp [beN_len, Pt.h] <;> omega)) ?_
    rintro ⟨v, h2⟩ ⟨rfl, x2, hw, k2⟩
    have s := s.step k2 hw
    have b0 := s.b0
    try unfold wp
    repeat' (first | ((with_reducible apply evs_of); (focus ((conv => lhs; simp (disch := omega) [g0, ta, b0]); done)); try dsimp only) | ((with_reducible apply cndW_T); (focus (simp (disch := omega) [g0, ta, b0] <;> omega))) | ((with_reducible apply cndW_F); (focus (simp (disch := omega) [g0, ta, b0] <;> omega))) | ((with_reducible apply stabP_i); (focus (simp (disch := omega) [g0, ta, b0]; done))) | (with_reducible apply wL_i) | ((with_reducible apply SpecA_i); (focus ((conv => lhs; simp (disch := omega) [g0, ta, b0]); done))) | ((with_reducible apply stabA_i); (focus ((conv => lhs; simp (disch := omega) [g0, ta, b0]); done))) | ((with_reducible apply stabA_fn); (focus ((conv => lhs; simp (disch := omega) [g0, ta, b0]); done))) | ((with_reducible apply stab_do); (focus (simp (disch := omega) [g0, ta, b0]; done))) | (simp (decide := true) only [sn21, sqW_nrm, sqW_exit, sqW_ret, inBlk_nrm, inBlk_ret, inBlk_same, inBlk_exit, if_true, if_false, retW_nrm, retW_ret]) | (with_reducible refine n21_27_w _ _ _ ?_) | (with_reducible refine n21_13_w _ _ _ ?_))
    refine SpecQ.step (c40 s.hw s.st.ft (s.ap _ (by simp)) z1 (by simp [beN_len, Pt.h] <;> omega)) ?_
    rintro ⟨v, h2⟩ ⟨rfl, x2, hw, k2⟩
    have s := s.step k2 hw
    have b0 := s.b0
    try unfold wp
    repeat' (first | ((with_reducible apply evs_of); (focus ((conv => lhs; simp (disch := omega) [g0, ta, b0]); done)); try dsimp only) | ((with_reducible apply cndW_T); (focus (simp (disch := omega) [g0, ta, b0] <;> omega))) | ((with_reducible apply cndW_F); (focus (simp (disch := omega) [g0, ta, b0] <;> omega))) | ((with_reducible apply stabP_i); (focus (simp (disch := omega) [g0, ta, b0]; done))) | (with_reducible apply wL_i) | ((with_reducible apply SpecA_i); (focus ((conv => lhs; simp (disch := omega) [g0, ta, b0]); done))) | ((with_reducible apply stabA_i); (focus ((conv => lhs; simp (disch := omega) [g0, ta, b0]); done))) | ((with_reducible apply stabA_fn); (focus ((conv => lhs; simp (disch := omega) [g0, ta, b0]); done))) | ((with_reducible apply stab_do); (focus (simp (disch := omega) [g0, ta, b0]; done))) | (simp (decide := true) only [sn21, sqW_nrm, sqW_exit, sqW_ret, inBlk_nrm, inBlk_ret, inBlk_same, inBlk_exit, if_true, if_false, retW_nrm, retW_ret]) | (with_reducible refine n21_27_w _ _ _ ?_) | (with_reducible refine n21_13_w _ _ _ ?_))
    refine SpecQ.step (c41 s.hw (by simp [beN_len, Pt.h] <;> omega)) ?_
    rintro ⟨v, h2⟩ ⟨rfl, x2, hw, k2⟩
    have s := s.step k2 hw
    have b0 := s.b0
    try unfold wp
    repeat' (first | ((with_reducible apply evs_of); (focus ((conv => lhs; simp (disch := omega) [g0, ta, b0, s.st.fs.len]); done)); try dsimp only) | ((with_reducible apply cndW_T); (focus (simp (disch := omega) [g0, ta, b0, s.st.fs.len] <;> omega))) | ((with_reducible apply cndW_F); (focus (simp (disch := omega) [g0, ta, b0, s.st.fs.len] <;> omega))) | ((with_reducible apply stabP_i); (focus (simp (disch := omega) [g0, ta, b0, s.st.fs.len]; done))) | (with_reducible apply wL_i) | ((with_reducible apply SpecA_i); (focus ((conv => lhs; simp (disch := omega) [g0, ta, b0, s.st.fs.len]); done))) | ((with_reducible apply stabA_i); (focus ((conv => lhs; simp (disch := omega) [g0, ta, b0, s.st.fs.len]); done))) | ((with_reducible apply stabA_fn); (focus ((conv => lhs; simp (disch := omega) [g0, ta, b0, s.st.fs.len]); done))) | ((with_reducible apply stab_do); (focus (simp (disch := omega) [g0, ta, b0, s.st.fs.len]; done))) | (simp (decide := true) only [sn21, sqW_nrm, sqW_exit, sqW_ret, inBlk_nrm, inBlk_ret, inBlk_same, inBlk_exit, if_true, if_false, retW_nrm, retW_ret]) | (with_reducible refine n21_27_w _ _ _ ?_) | (with_reducible refine n21_13_w _ _ _ ?_))
    refine SpecQ.step (c40 s.hw s.st.fp (s.ap _ (by simp)) z2 (by simp [beN_len, Pt.h] <;> omega)) ?_
    rintro ⟨v, h2⟩ ⟨rfl, x2, hw, k2⟩
    have s := s.step k2 hw
    have b0 := s.b0
    try unfold wp
    repeat' (first | ((with_reducible apply evs_of); (focus ((conv => lhs; simp (disch := omega) [g0, ta, b0, s.st.fs.len]); done)); try dsimp only) | ((with_reducible apply cndW_T); (focus (simp (disch := omega) [g0, ta, b0, s.st.fs.len] <;> omega))) | ((with_reducible apply cndW_F); (focus (simp (disch := omega) [g0, ta, b0, s.st.fs.len] <;> omega))) | ((with_reducible apply stabP_i); (focus (simp (disch := omega) [g0, ta, b0, s.st.fs.len]; done))) | (with_reducible apply wL_i) | ((with_reducible apply SpecA_i); (focus ((conv => lhs; simp (disch := omega) [g0, ta, b0, s.st.fs.len]); done))) | ((with_reducible apply stabA_i); (focus ((conv => lhs; simp (disch := omega) [g0, ta, b0, s.st.fs.len]); done))) | ((with_reducible apply stabA_fn); (focus ((conv => lhs; simp (disch := omega) [g0, ta, b0, s.st.fs.len]); done))) | ((with_reducible apply stab_do); (focus (simp (disch := omega) [g0, ta, b0, s.st.fs.len]; done))) | (simp (decide := true) only [sn21, sqW_nrm, sqW_exit, sqW_ret, inBlk_nrm, inBlk_ret, inBlk_same, inBlk_exit, if_true, if_false, retW_nrm, retW_ret]) | (with_reducible refine n21_27_w _ _ _ ?_) | (with_reducible refine n21_13_w _ _ _ ?_))
    refine SpecQ.step (c38 (size := 1) s.hw (by omega) (by omega) (.inl (shL (by omega))) (by simp [beN_len, Pt.h] <;> omega)) ?_
    rintro ⟨v, h2⟩ ⟨rfl, x2, hw, k2⟩
    have s := s.step k2 hw
    have b0 := s.b0
    try unfold wp
    repeat' (first | ((with_reducible apply evs_of); (focus ((conv => lhs; simp (disch := omega) [g0, ta, b0, s.st.fs.len]); done)); try dsimp only) | ((with_reducible apply cndW_T); (focus (simp (disch := omega) [g0, ta, b0, s.st.fs.len] <;> omega))) | ((with_reducible apply cndW_F); (focus (simp (disch := omega) [g0, ta, b0, s.st.fs.len] <;> omega))) | ((with_reducible apply stabP_i); (focus (simp (disch := omega) [g0, ta, b0, s.st.fs.len]; done))) | (with_reducible apply wL_i) | ((with_reducible apply SpecA_i); (focus ((conv => lhs; simp (disch := omega) [g0, ta, b0, s.st.fs.len]); done))) | ((with_reducible apply stabA_i); (focus ((conv => lhs; simp (disch := omega) [g0, ta, b0, s.st.fs.len]); done))) | ((with_reducible apply stabA_fn); (focus ((conv => lhs; simp (disch := omega) [g0, ta, b0, s.st.fs.len]); done))) | ((with_reducible apply stab_do); (focus (simp (disch := omega) [g0, ta, b0, s.st.fs.len]; done))) | (simp (decide := true) only [sn21, sqW_nrm, sqW_exit, sqW_ret, inBlk_nrm, inBlk_ret, inBlk_same, inBlk_exit, if_true, if_false, retW_nrm, retW_ret]) | (with_reducible refine n21_27_w _ _ _ ?_) | (with_reducible refine n21_13_w _ _ _ ?_))
    obtain ⟨L0, hL0, s⟩ := s.gen
    have hb0 : L0.length ≤ 400000 := by rw [hL0]; simp [beN_len, Pt.h] <;> omega
    refine loop_up a.seats.length (fun i st => ∃ env' H x, st = ⟨env', H⟩ ∧ env'.get 1 = .ptr h.length 0 [] tState ∧ env'.get 4 = .ptr (h.length + 1) 0 [] tLwriter ∧ env'.get 46 = vs ∧ env'.get 47 = nat a.seats.length ∧ env'.get 48 = nat i ∧ SI h a vt vp vs vi va vb H x (L0 ++ ((a.seats.take i).map seatB).flatten)) ?_ ?_ ⟨_, _, _, rfl, by simp, by simp, by simp, by simp, by simp, by simpa using s⟩
    · skip
      as_aux_lemma =>
        rintro i st hi ⟨env', H, x, rfl, e1, e4, es, el, ei, s⟩
        obtain ⟨p, p1, p2⟩ := s.st.fs.idx (i := i) (by simpa using hi)
        rw [List.getElem?_map, List.getElem?_eq_getElem hi] at p2
        simp only [Option.map_some] at p2
        have p3 := p2 []
        rw [List.append_nil] at p3
        have hfl : ((a.seats.take i).map seatB).flatten.length ≤ 40 * 69 := flat_len (by intro; simp [seatB, ciB, beN_len, Pt.h]) (by simp; omega)
        repeat' (first | ((with_reducible apply evs_of); (focus ((conv => lhs; simp (disch := omega) [e1, e4, es, el, ei, p1, p2, p3, hi]); done)); try dsimp only) | ((with_reducible apply cndW_T); (focus (simp (disch := omega) [e1, e4, es, el, ei, p1, p2, p3, hi] <;> omega))) | ((with_reducible apply cndW_F); (focus (simp (disch := omega) [e1, e4, es, el, ei, p1, p2, p3, hi] <;> omega))) | ((with_reducible apply stabP_i); (focus (simp (disch := omega) [e1, e4, es, el, ei, p1, p2, p3, hi]; done))) | (with_reducible apply wL_i) | ((with_reducible apply SpecA_i); (focus ((conv => lhs; simp (disch := omega) [e1, e4, es, el, ei, p1, p2, p3, hi]); done))) | ((with_reducible apply stabA_i); (focus ((conv => lhs; simp (disch := omega) [e1, e4, es, el, ei, p1, p2, p3, hi]); done))) | ((with_reducible apply stabA_fn); (focus ((conv => lhs; simp (disch := omega) [e1, e4, es, el, ei, p1, p2, p3, hi]); done))) | ((with_reducible apply stab_do); (focus (simp (disch := omega) [e1, e4, es, el, ei, p1, p2, p3, hi]; done))) | (simp (decide := true) only [sn21, sqW_nrm, sqW_exit, sqW_ret, inBlk_nrm, inBlk_ret, inBlk_same, inBlk_exit, if_true, if_false, retW_nrm, retW_ret]) | (with_reducible refine n21_27_w _ _ _ ?_) | (with_reducible refine n21_13_w _ _ _ ?_))
        have ce := Cells.new s.hw [⟨eSeat a.seats[i], 0, .own⟩]
        have s := s.ext [⟨eSeat a.seats[i], 0, .own⟩]
        refine SpecQ.step (c42 s.hw (by simp only [List.length_append, beN_len, Pt.h]; omega)) ?_
        rintro ⟨v, h2⟩ ⟨rfl, x2, hw, k2⟩
        have s := s.step k2 hw
        have ce := ce.step k2
        have b1 : blkAt h2 H.length 0 = some ⟨eSeat a.seats[i], 0, .own⟩ := ce.blk 0 rfl
        try unfold wp
        repeat' (first | ((with_reducible apply evs_of); (focus ((conv => lhs; simp (disch := omega) [e1, e4, es, el, ei, b1]); done)); try dsimp only) | ((with_reducible apply cndW_T); (focus (simp (disch := omega) [e1, e4, es, el, ei, b1] <;> omega))) | ((with_reducible apply cndW_F); (focus (simp (disch := omega) [e1, e4, es, el, ei, b1] <;> omega))) | ((with_reducible apply stabP_i); (focus (simp (disch := omega) [e1, e4, es, el, ei, b1]; done))) | (with_reducible apply wL_i) | ((with_reducible apply SpecA_i); (focus ((conv => lhs; simp (disch := omega) [e1, e4, es, el, ei, b1]); done))) | ((with_reducible apply stabA_i); (focus ((conv => lhs; simp (disch := omega) [e1, e4, es, el, ei, b1]); done))) | ((with_reducible apply stabA_fn); (focus ((conv => lhs; simp (disch := omega) [e1, e4, es, el, ei, b1]); done))) | ((with_reducible apply stab_do); (focus (simp (disch := omega) [e1, e4, es, el, ei, b1]; done))) | (simp (decide := true) only [sn21, sqW_nrm, sqW_exit, sqW_ret, inBlk_nrm, inBlk_ret, inBlk_same, inBlk_exit, if_true, if_false, retW_nrm, retW_ret]) | (with_reducible refine n21_27_w _ _ _ ?_) | (with_reducible refine n21_13_w _ _ _ ?_))
        refine SpecQ.step (c38 (size := 1) s.hw (by omega) (by omega) (.inl (sh8 _)) (by simp only [List.length_append, beN_len, Pt.h]; omega)) ?_
        rintro ⟨v, h2⟩ ⟨rfl, x2, hw, k2⟩
        have s := s.step k2 hw
        have ce := ce.step k2
        have b1 : blkAt h2 H.length 0 = some ⟨eSeat a.seats[i], 0, .own⟩ := ce.blk 0 rfl
        try unfold wp
        repeat' (first | ((with_reducible apply evs_of); (focus ((conv => lhs; simp (disch := omega) [e1, e4, es, el, ei, b1]); done)); try dsimp only) | ((with_reducible apply cndW_T); (focus (simp (disch := omega) [e1, e4, es, el, ei, b1] <;> omega))) | ((with_reducible apply cndW_F); (focus (simp (disch := omega) [e1, e4, es, el, ei, b1] <;> omega))) | ((with_reducible apply stabP_i); (focus (simp (disch := omega) [e1, e4, es, el, ei, b1]; done))) | (with_reducible apply wL_i) | ((with_reducible apply SpecA_i); (focus ((conv => lhs; simp (disch := omega) [e1, e4, es, el, ei, b1]); done))) | ((with_reducible apply stabA_i); (focus ((conv => lhs; simp (disch := omega) [e1, e4, es, el, ei, b1]); done))) | ((with_reducible apply stabA_fn); (focus ((conv => lhs; simp (disch := omega) [e1, e4, es, el, ei, b1]); done))) | ((with_reducible apply stab_do); (focus (simp (disch := omega) [e1, e4, es, el, ei, b1]; done))) | (simp (decide := true) only [sn21, sqW_nrm, sqW_exit, sqW_ret, inBlk_nrm, inBlk_ret, inBlk_same, inBlk_exit, if_true, if_false, retW_nrm, retW_ret]) | (with_reducible refine n21_27_w _ _ _ ?_) | (with_reducible refine n21_13_w _ _ _ ?_))
        refine SpecQ.step (c38 (size := 4) s.hw (by omega) (by omega) (.inl (sh32 _)) (by simp only [List.length_append, beN_len, Pt.h]; omega)) ?_
        rintro ⟨v, h2⟩ ⟨rfl, x2, hw, k2⟩
        have s := s.step k2 hw
        have ce := ce.step k2
        have b1 : blkAt h2 H.length 0 = some ⟨eSeat a.seats[i], 0, .own⟩ := ce.blk 0 rfl
        try unfold wp
        repeat' (first | ((with_reducible apply evs_of); (focus ((conv => lhs; simp (disch := omega) [e1, e4, es, el, ei, b1]); done)); try dsimp only) | ((with_reducible apply cndW_T); (focus (simp (disch := omega) [e1, e4, es, el, ei, b1] <;> omega))) | ((with_reducible apply cndW_F); (focus (simp (disch := omega) [e1, e4, es, el, ei, b1] <;> omega))) | ((with_reducible apply stabP_i); (focus (simp (disch := omega) [e1, e4, es, el, ei, b1]; done))) | (with_reducible apply wL_i) | ((with_reducible apply SpecA_i); (focus ((conv => lhs; simp (disch := omega) [e1, e4, es, el, ei, b1]); done))) | ((with_reducible apply stabA_i); (focus ((conv => lhs; simp (disch := omega) [e1, e4, es, el, ei, b1]); done))) | ((with_reducible apply stabA_fn); (focus ((conv => lhs; simp (disch := omega) [e1, e4, es, el, ei, b1]); done))) | ((with_reducible apply stab_do); (focus (simp (disch := omega) [e1, e4, es, el, ei, b1]; done))) | (simp (decide := true) only [sn21, sqW_nrm, sqW_exit, sqW_ret, inBlk_nrm, inBlk_ret, inBlk_same, inBlk_exit, if_true, if_false, retW_nrm, retW_ret]) | (with_reducible refine n21_27_w _ _ _ ?_) | (with_reducible refine n21_13_w _ _ _ ?_))
        refine .inl ⟨trivial, _, _, x2, rfl, by simp [e1], by simp [e4], by simp [es], by simp [el], by simp, ?_⟩
        rw [flat_succ hi]
        simpa only [seatB, ciB, List.append_assoc] using s
    rintro st ⟨env', H, x, rfl, e1, e4, es, el, ei, s⟩
    rw [List.take_length] at s
    have b0 := s.b0
    repeat' (first | ((with_reducible apply evs_of); (focus ((conv => lhs; simp (disch := omega) [e1, e4, es, el, ei]); done)); try dsimp only) | ((with_reducible apply cndW_T); (focus (simp (disch := omega) [e1, e4, es, el, ei] <;> omega))) | ((with_reducible apply cndW_F); (focus (simp (disch := omega) [e1, e4, es, el, ei] <;> omega))) | ((with_reducible apply stabP_i); (focus (simp (disch := omega) [e1, e4, es, el, ei]; done))) | (with_reducible apply wL_i) | ((with_reducible apply SpecA_i); (focus ((conv => lhs; simp (disch := omega) [e1, e4, es, el, ei]); done))) | ((with_reducible apply stabA_i); (focus ((conv => lhs; simp (disch := omega) [e1, e4, es, el, ei]); done))) | ((with_reducible apply stabA_fn); (focus ((conv => lhs; simp (disch := omega) [e1, e4, es, el, ei]); done))) | ((with_reducible apply stab_do); (focus (simp (disch := omega) [e1, e4, es, el, ei]; done))) | (simp (decide := true) only [sn21, sqW_nrm, sqW_exit, sqW_ret, inBlk_nrm, inBlk_ret, inBlk_same, inBlk_exit, if_true, if_false, retW_nrm, retW_ret]) | (with_reducible refine n21_27_w _ _ _ ?_) | (with_reducible refine n21_13_w _ _ _ ?_))
    refine ⟨by simp, ?_⟩
    repeat' (first | ((with_reducible apply evs_of); (focus ((conv => lhs; simp (disch := omega) [e1, e4, b0, s.st.fi.len]); done)); try dsimp only) | ((with_reducible apply cndW_T); (focus (simp (disch := omega) [e1, e4, b0, s.st.fi.len] <;> omega))) | ((with_reducible apply cndW_F); (focus (simp (disch := omega) [e1, e4, b0, s.st.fi.len] <;> omega))) | ((with_reducible apply stabP_i); (focus (simp (disch := omega) [e1, e4, b0, s.st.fi.len]; done))) | (with_reducible apply wL_i) | ((with_reducible apply SpecA_i); (focus ((conv => lhs; simp (disch := omega) [e1, e4, b0, s.st.fi.len]); done))) | ((with_reducible apply stabA_i); (focus ((conv => lhs; simp (disch := omega) [e1, e4, b0, s.st.fi.len]); done))) | ((with_reducible apply stabA_fn); (focus ((conv => lhs; simp (disch := omega) [e1, e4, b0, s.st.fi.len]); done))) | ((with_reducible apply stab_do); (focus (simp (disch := omega) [e1, e4, b0, s.st.fi.len]; done))) | (simp (decide := true) only [sn21, sqW_nrm, sqW_exit, sqW_ret, inBlk_nrm, inBlk_ret, inBlk_same, inBlk_exit, if_true, if_false, retW_nrm, retW_ret]) | (with_reducible refine n21_27_w _ _ _ ?_) | (with_reducible refine n21_13_w _ _ _ ?_))
    have hL : L0.length + ((a.seats.map seatB).flatten).length ≤ 500000 := by have := flat_len (c := 69) (n := 40) (f := seatB) (by intro; simp [seatB, ciB, beN_len, Pt.h]) (l := a.seats) (by omega); omega
    refine SpecQ.step (c38 (size := 1) s.hw (by omega) (by omega) (.inl (shL (by omega))) (by simp only [List.length_append]; have := hL; omega)) ?_
    rintro ⟨v, h2⟩ ⟨rfl, x2, hw, k2⟩
    have s := s.step k2 hw
    have b0 := s.b0
    try unfold wp
    repeat' (first | ((with_reducible apply evs_of); (focus ((conv => lhs; simp (disch := omega) [e1, e4, b0, s.st.fi.len]); done)); try dsimp only) | ((with_reducible apply cndW_T); (focus (simp (disch := omega) [e1, e4, b0, s.st.fi.len] <;> omega))) | ((with_reducible apply cndW_F); (focus (simp (disch := omega) [e1, e4, b0, s.st.fi.len] <;> omega))) | ((with_reducible apply stabP_i); (focus (simp (disch := omega) [e1, e4, b0, s.st.fi.len]; done))) | (with_reducible apply wL_i) | ((with_reducible apply SpecA_i); (focus ((conv => lhs; simp (disch := omega) [e1, e4, b0, s.st.fi.len]); done))) | ((with_reducible apply stabA_i); (focus ((conv => lhs; simp (disch := omega) [e1, e4, b0, s.st.fi.len]); done))) | ((with_reducible apply stabA_fn); (focus ((conv => lhs; simp (disch := omega) [e1, e4, b0, s.st.fi.len]); done))) | ((with_reducible apply stab_do); (focus (simp (disch := omega) [e1, e4, b0, s.st.fi.len]; done))) | (simp (decide := true) only [sn21, sqW_nrm, sqW_exit, sqW_ret, inBlk_nrm, inBlk_ret, inBlk_same, inBlk_exit, if_true, if_false, retW_nrm, retW_ret]) | (with_reducible refine n21_27_w _ _ _ ?_) | (with_reducible refine n21_13_w _ _ _ ?_))
    obtain ⟨L1, hL1, s⟩ := s.gen
    have hb1 : L1.length ≤ 500100 := by rw [hL1]; simp only [List.length_append, beN_len]; omega
    refine loop_up a.invites.length (fun i st => ∃ env' H x, st = ⟨env', H⟩ ∧ env'.get 1 = .ptr h.length 0 [] tState ∧ env'.get 4 = .ptr (h.length + 1) 0 [] tLwriter ∧ env'.get 72 = vi ∧ env'.get 73 = nat a.invites.length ∧ env'.get 74 = nat i ∧ SI h a vt vp vs vi va vb H x (L1 ++ ((a.invites.take i).map invB).flatten)) ?_ ?_ ⟨_, _, _, rfl, by simp [e1], by simp [e4], by simp, by simp, by simp, by simpa using s⟩
    · skip
      as_aux_lemma =>
        rintro i st hi ⟨env', H, x, rfl, e1, e4, es, el, ei, s⟩
        obtain ⟨p, p1, p2⟩ := s.st.fi.idx (i := i) (by simpa using hi)
        rw [List.getElem?_map, List.getElem?_eq_getElem hi] at p2
        simp only [Option.map_some] at p2
        have p3 := p2 []
        rw [List.append_nil] at p3
        have hfl : ((a.invites.take i).map invB).flatten.length ≤ 40 * 129 := flat_len (by intro; simp [invB, ciB, beN_len, Pt.h]) (by simp; omega)
        repeat' (first | ((with_reducible apply evs_of); (focus ((conv => lhs; simp (disch := omega) [e1, e4, es, el, ei, p1, p2, p3, hi]); done)); try dsimp only) | ((with_reducible apply cndW_T); (focus (simp (disch := omega) [e1, e4, es, el, ei, p1, p2, p3, hi] <;> omega))) | ((with_reducible apply cndW_F); (focus (simp (disch := omega) [e1, e4, es, el, ei, p1, p2, p3, hi] <;> omega))) | ((with_reducible apply stabP_i); (focus (simp (disch := omega) [e1, e4, es, el, ei, p1, p2, p3, hi]; done))) | (with_reducible apply wL_i) | ((with_reducible apply SpecA_i); (focus ((conv => lhs; simp (disch := omega) [e1, e4, es, el, ei, p1, p2, p3, hi]); done))) | ((with_reducible apply stabA_i); (focus ((conv => lhs; simp (disch := omega) [e1, e4, es, el, ei, p1, p2, p3, hi]); done))) | ((with_reducible apply stabA_fn); (focus ((conv => lhs; simp (disch := omega) [e1, e4, es, el, ei, p1, p2, p3, hi]); done))) | ((with_reducible apply stab_do); (focus (simp (disch := omega) [e1, e4, es, el, ei, p1, p2, p3, hi]; done))) | (simp (decide := true) only [sn21, sqW_nrm, sqW_exit, sqW_ret, inBlk_nrm, inBlk_ret, inBlk_same, inBlk_exit, if_true, if_false, retW_nrm, retW_ret]) | (with_reducible refine n21_27_w _ _ _ ?_) | (with_reducible refine n21_13_w _ _ _ ?_))
        have ce := Cells.new s.hw [⟨eInv a.invites[i], 0, .own⟩]
        have s := s.ext [⟨eInv a.invites[i], 0, .own⟩]
        refine SpecQ.step (c42 s.hw (by simp only [List.length_append, beN_len, Pt.h]; omega)) ?_
        rintro ⟨v, h2⟩ ⟨rfl, x2, hw, k2⟩
        have s := s.step k2 hw
        have ce := ce.step k2
        have b1 : blkAt h2 H.length 0 = some ⟨eInv a.invites[i], 0, .own⟩ := ce.blk 0 rfl
        try unfold wp
        repeat' (first | ((with_reducible apply evs_of); (focus ((conv => lhs; simp (disch := omega) [e1, e4, es, el, ei, b1]); done)); try dsimp only) | ((with_reducible apply cndW_T); (focus (simp (disch := omega) [e1, e4, es, el, ei, b1] <;> omega))) | ((with_reducible apply cndW_F); (focus (simp (disch := omega) [e1, e4, es, el, ei, b1] <;> omega))) | ((with_reducible apply stabP_i); (focus (simp (disch := omega) [e1, e4, es, el, ei, b1]; done))) | (with_reducible apply wL_i) | ((with_reducible apply SpecA_i); (focus ((conv => lhs; simp (disch := omega) [e1, e4, es, el, ei, b1]); done))) | ((with_reducible apply stabA_i); (focus ((conv => lhs; simp (disch := omega) [e1, e4, es, el, ei, b1]); done))) | ((with_reducible apply stabA_fn); (focus ((conv => lhs; simp (disch := omega) [e1, e4, es, el, ei, b1]); done))) | ((with_reducible apply stab_do); (focus (simp (disch := omega) [e1, e4, es, el, ei, b1]; done))) | (simp (decide := true) only [sn21, sqW_nrm, sqW_exit, sqW_ret, inBlk_nrm, inBlk_ret, inBlk_same, inBlk_exit, if_true, if_false, retW_nrm, retW_ret]) | (with_reducible refine n21_27_w _ _ _ ?_) | (with_reducible refine n21_13_w _ _ _ ?_))
        refine SpecQ.step (c38 (size := 1) s.hw (by omega) (by omega) (.inl (sh8 _)) (by simp only [List.length_append, beN_len, Pt.h]; omega)) ?_
        rintro ⟨v, h2⟩ ⟨rfl, x2, hw, k2⟩
        have s := s.step k2 hw
        have ce := ce.step k2
        have b1 : blkAt h2 H.length 0 = some ⟨eInv a.invites[i], 0, .own⟩ := ce.blk 0 rfl
        try unfold wp
        repeat' (first | ((with_reducible apply evs_of); (focus ((conv => lhs; simp (disch := omega) [e1, e4, es, el, ei, b1]); done)); try dsimp only) | ((with_reducible apply cndW_T); (focus (simp (disch := omega) [e1, e4, es, el, ei, b1] <;> omega))) | ((with_reducible apply cndW_F); (focus (simp (disch := omega) [e1, e4, es, el, ei, b1] <;> omega))) | ((with_reducible apply stabP_i); (focus (simp (disch := omega) [e1, e4, es, el, ei, b1]; done))) | (with_reducible apply wL_i) | ((with_reducible apply SpecA_i); (focus ((conv => lhs; simp (disch := omega) [e1, e4, es, el, ei, b1]); done))) | ((with_reducible apply stabA_i); (focus ((conv => lhs; simp (disch := omega) [e1, e4, es, el, ei, b1]); done))) | ((with_reducible apply stabA_fn); (focus ((conv => lhs; simp (disch := omega) [e1, e4, es, el, ei, b1]); done))) | ((with_reducible apply stab_do); (focus (simp (disch := omega) [e1, e4, es, el, ei, b1]; done))) | (simp (decide := true) only [sn21, sqW_nrm, sqW_exit, sqW_ret, inBlk_nrm, inBlk_ret, inBlk_same, inBlk_exit, if_true, if_false, retW_nrm, retW_ret]) | (with_reducible refine n21_27_w _ _ _ ?_) | (with_reducible refine n21_13_w _ _ _ ?_))
        refine SpecQ.step (c42 s.hw (by simp only [List.length_append, beN_len, Pt.h]; omega)) ?_
        rintro ⟨v, h2⟩ ⟨rfl, x2, hw, k2⟩
        have s := s.step k2 hw
        have ce := ce.step k2
        have b1 : blkAt h2 H.length 0 = some ⟨eInv a.invites[i], 0, .own⟩ := ce.blk 0 rfl
        try unfold wp
        repeat' (first | ((with_reducible apply evs_of); (focus ((conv => lhs; simp (disch := omega) [e1, e4, es, el, ei, b1]); done)); try dsimp only) | ((with_reducible apply cndW_T); (focus (simp (disch := omega) [e1, e4, es, el, ei, b1] <;> omega))) | ((with_reducible apply cndW_F); (focus (simp (disch := omega) [e1, e4, es, el, ei, b1] <;> omega))) | ((with_reducible apply stabP_i); (focus (simp (disch := omega) [e1, e4, es, el, ei, b1]; done))) | (with_reducible apply wL_i) | ((with_reducible apply SpecA_i); (focus ((conv => lhs; simp (disch := omega) [e1, e4, es, el, ei, b1]); done))) | ((with_reducible apply stabA_i); (focus ((conv => lhs; simp (disch := omega) [e1, e4, es, el, ei, b1]); done))) | ((with_reducible apply stabA_fn); (focus ((conv => lhs; simp (disch := omega) [e1, e4, es, el, ei, b1]); done))) | ((with_reducible apply stab_do); (focus (simp (disch := omega) [e1, e4, es, el, ei, b1]; done))) | (simp (decide := true) only [sn21, sqW_nrm, sqW_exit, sqW_ret, inBlk_nrm, inBlk_ret, inBlk_same, inBlk_exit, if_true, if_false, retW_nrm, retW_ret]) | (with_reducible refine n21_27_w _ _ _ ?_) | (with_reducible refine n21_13_w _ _ _ ?_))
        refine .inl ⟨trivial, _, _, x2, rfl, by simp [e1], by simp [e4], by simp [es], by simp [el], by simp, ?_⟩
        rw [flat_succ hi]
        simpa only [invB, ciB, List.append_assoc] using s
    rintro st ⟨env', H, x, rfl, e1, e4, es, el, ei, s⟩
    rw [List.take_length] at s
    have b0 := s.b0
    repeat' (first | ((with_reducible apply evs_of); (focus ((conv => lhs; simp (disch := omega) [e1, e4, es, el, ei]); done)); try dsimp only) | ((with_reducible apply cndW_T); (focus (simp (disch := omega) [e1, e4, es, el, ei] <;> omega))) | ((with_reducible apply cndW_F); (focus (simp (disch := omega) [e1, e4, es, el, ei] <;> omega))) | ((with_reducible apply stabP_i); (focus (simp (disch := omega) [e1, e4, es, el, ei]; done))) | (with_reducible apply wL_i) | ((with_reducible apply SpecA_i); (focus ((conv => lhs; simp (disch := omega) [e1, e4, es, el, ei]); done))) | ((with_reducible apply stabA_i); (focus ((conv => lhs; simp (disch := omega) [e1, e4, es, el, ei]); done))) | ((with_reducible apply stabA_fn); (focus ((conv => lhs; simp (disch := omega) [e1, e4, es, el, ei]); done))) | ((with_reducible apply stab_do); (focus (simp (disch := omega) [e1, e4, es, el, ei]; done))) | (simp (decide := true) only [sn21, sqW_nrm, sqW_exit, sqW_ret, inBlk_nrm, inBlk_ret, inBlk_same, inBlk_exit, if_true, if_false, retW_nrm, retW_ret]) | (with_reducible refine n21_27_w _ _ _ ?_) | (with_reducible refine n21_13_w _ _ _ ?_))
    refine ⟨by simp, ?_⟩
    repeat' (first | ((with_reducible apply evs_of); (focus ((conv => lhs; simp (disch := omega) [e1, e4, b0, s.st.fa.len]); done)); try dsimp only) | ((with_reducible apply cndW_T); (focus (simp (disch := omega) [e1, e4, b0, s.st.fa.len] <;> omega))) | ((with_reducible apply cndW_F); (focus (simp (disch := omega) [e1, e4, b0, s.st.fa.len] <;> omega))) | ((with_reducible apply stabP_i); (focus (simp (disch := omega) [e1, e4, b0, s.st.fa.len]; done))) | (with_reducible apply wL_i) | ((with_reducible apply SpecA_i); (focus ((conv => lhs; simp (disch := omega) [e1, e4, b0, s.st.fa.len]); done))) | ((with_reducible apply stabA_i); (focus ((conv => lhs; simp (disch := omega) [e1, e4, b0, s.st.fa.len]); done))) | ((with_reducible apply stabA_fn); (focus ((conv => lhs; simp (disch := omega) [e1, e4, b0, s.st.fa.len]); done))) | ((with_reducible apply stab_do); (focus (simp (disch := omega) [e1, e4, b0, s.st.fa.len]; done))) | (simp (decide := true) only [sn21, sqW_nrm, sqW_exit, sqW_ret, inBlk_nrm, inBlk_ret, inBlk_same, inBlk_exit, if_true, if_false, retW_nrm, retW_ret]) | (with_reducible refine n21_27_w _ _ _ ?_) | (with_reducible refine n21_13_w _ _ _ ?_))
    have hL : L1.length + ((a.invites.map invB).flatten).length ≤ 600000 := by have := flat_len (c := 129) (n := 40) (f := invB) (by intro; simp [invB, ciB, beN_len, Pt.h]) (l := a.invites) (by omega); omega
    refine SpecQ.step (c38 (size := 1) s.hw (by omega) (by omega) (.inl (shL (by omega))) (by simp only [List.length_append]; have := hL; omega)) ?_
    rintro ⟨v, h2⟩ ⟨rfl, x2, hw, k2⟩
    have s := s.step k2 hw
    have b0 := s.b0
    try unfold wp
    repeat' (first | ((with_reducible apply evs_of); (focus ((conv => lhs; simp (disch := omega) [e1, e4, b0, s.st.fa.len]); done)); try dsimp only) | ((with_reducible apply cndW_T); (focus (simp (disch := omega) [e1, e4, b0, s.st.fa.len] <;> omega))) | ((with_reducible apply cndW_F); (focus (simp (disch := omega) [e1, e4, b0, s.st.fa.len] <;> omega))) | ((with_reducible apply stabP_i); (focus (simp (disch := omega) [e1, e4, b0, s.st.fa.len]; done))) | (with_reducible apply wL_i) | ((with_reducible apply SpecA_i); (focus ((conv => lhs; simp (disch := omega) [e1, e4, b0, s.st.fa.len]); done))) | ((with_reducible apply stabA_i); (focus ((conv => lhs; simp (disch := omega) [e1, e4, b0, s.st.fa.len]); done))) | ((with_reducible apply stabA_fn); (focus ((conv => lhs; simp (disch := omega) [e1, e4, b0, s.st.fa.len]); done))) | ((with_reducible apply stab_do); (focus (simp (disch := omega) [e1, e4, b0, s.st.fa.len]; done))) | (simp (decide := true) only [sn21, sqW_nrm, sqW_exit, sqW_ret, inBlk_nrm, inBlk_ret, inBlk_same, inBlk_exit, if_true, if_false, retW_nrm, retW_ret]) | (with_reducible refine n21_27_w _ _ _ ?_) | (with_reducible refine n21_13_w _ _ _ ?_))
    obtain ⟨L2, hL2, s⟩ := s.gen
    have hb2 : L2.length ≤ 600100 := by rw [hL2]; simp only [List.length_append, beN_len]; omega
    refine loop_up a.asks.length (fun i st => ∃ env' H x, st = ⟨env', H⟩ ∧ env'.get 1 = .ptr h.length 0 [] tState ∧ env'.get 4 = .ptr (h.length + 1) 0 [] tLwriter ∧ env'.get 97 = va ∧ env'.get 98 = nat a.asks.length ∧ env'.get 99 = nat i ∧ SI h a vt vp vs vi va vb H x (L2 ++ ((a.asks.take i).map askB).flatten)) ?_ ?_ ⟨_, _, _, rfl, by simp [e1], by simp [e4], by simp, by simp, by simp, by simpa using s⟩
    · skip
      as_aux_lemma =>
        rintro i st hi ⟨env', H, x, rfl, e1, e4, es, el, ei, s⟩
        obtain ⟨p, p1, p2⟩ := s.st.fa.idx (i := i) (by simpa using hi)
        rw [List.getElem?_map, List.getElem?_eq_getElem hi] at p2
        simp only [Option.map_some] at p2
        have p3 := p2 []
        rw [List.append_nil] at p3
        have hfl : ((a.asks.take i).map askB).flatten.length ≤ 40 * 68 := flat_len (by intro; simp [askB, ciB, beN_len, Pt.h]) (by simp; omega)
        repeat' (first | ((with_reducible apply evs_of); (focus ((conv => lhs; simp (disch := omega) [e1, e4, es, el, ei, p1, p2, p3, hi]); done)); try dsimp only) | ((with_reducible apply cndW_T); (focus (simp (disch := omega) [e1, e4, es, el, ei, p1, p2, p3, hi] <;> omega))) | ((with_reducible apply cndW_F); (focus (simp (disch := omega) [e1, e4, es, el, ei, p1, p2, p3, hi] <;> omega))) | ((with_reducible apply stabP_i); (focus (simp (disch := omega) [e1, e4, es, el, ei, p1, p2, p3, hi]; done))) | (with_reducible apply wL_i) | ((with_reducible apply SpecA_i); (focus ((conv => lhs; simp (disch := omega) [e1, e4, es, el, ei, p1, p2, p3, hi]); done))) | ((with_reducible apply stabA_i); (focus ((conv => lhs; simp (disch := omega) [e1, e4, es, el, ei, p1, p2, p3, hi]); done))) | ((with_reducible apply stabA_fn); (focus ((conv => lhs; simp (disch := omega) [e1, e4, es, el, ei, p1, p2, p3, hi]); done))) | ((with_reducible apply stab_do); (focus (simp (disch := omega) [e1, e4, es, el, ei, p1, p2, p3, hi]; done))) | (simp (decide := true) only [sn21, sqW_nrm, sqW_exit, sqW_ret, inBlk_nrm, inBlk_ret, inBlk_same, inBlk_exit, if_true, if_false, retW_nrm, retW_ret]) | (with_reducible refine n21_27_w _ _ _ ?_) | (with_reducible refine n21_13_w _ _ _ ?_))
        have ce := Cells.new s.hw [⟨eAsk a.asks[i], 0, .own⟩]
        have s := s.ext [⟨eAsk a.asks[i], 0, .own⟩]
        refine SpecQ.step (c42 s.hw (by simp only [List.length_append, beN_len, Pt.h]; omega)) ?_
        rintro ⟨v, h2⟩ ⟨rfl, x2, hw, k2⟩
        have s := s.step k2 hw
        have ce := ce.step k2
        have b1 : blkAt h2 H.length 0 = some ⟨eAsk a.asks[i], 0, .own⟩ := ce.blk 0 rfl
        try unfold wp
        repeat' (first | ((with_reducible apply evs_of); (focus ((conv => lhs; simp (disch := omega) [e1, e4, es, el, ei, b1]); done)); try dsimp only) | ((with_reducible apply cndW_T); (focus (simp (disch := omega) [e1, e4, es, el, ei, b1] <;> omega))) | ((with_reducible apply cndW_F); (focus (simp (disch := omega) [e1, e4, es, el, ei, b1] <;> omega))) | ((with_reducible apply stabP_i); (focus (simp (disch := omega) [e1, e4, es, el, ei, b1]; done))) | (with_reducible apply wL_i) | ((with_reducible apply SpecA_i); (focus ((conv => lhs; simp (disch := omega) [e1, e4, es, el, ei, b1]); done))) | ((with_reducible apply stabA_i); (focus ((conv => lhs; simp (disch := omega) [e1, e4, es, el, ei, b1]); done))) | ((with_reducible apply stabA_fn); (focus ((conv => lhs; simp (disch := omega) [e1, e4, es, el, ei, b1]); done))) | ((with_reducible apply stab_do); (focus (simp (disch := omega) [e1, e4, es, el, ei, b1]; done))) | (simp (decide := true) only [sn21, sqW_nrm, sqW_exit, sqW_ret, inBlk_nrm, inBlk_ret, inBlk_same, inBlk_exit, if_true, if_false, retW_nrm, retW_ret]) | (with_reducible refine n21_27_w _ _ _ ?_) | (with_reducible refine n21_13_w _ _ _ ?_))
        refine SpecQ.step (c38 (size := 4) s.hw (by omega) (by omega) (.inl (sh32 _)) (by simp only [List.length_append, beN_len, Pt.h]; omega)) ?_
        rintro ⟨v, h2⟩ ⟨rfl, x2, hw, k2⟩
        have s := s.step k2 hw
        have ce := ce.step k2
        have b1 : blkAt h2 H.length 0 = some ⟨eAsk a.asks[i], 0, .own⟩ := ce.blk 0 rfl
        try unfold wp
        repeat' (first | ((with_reducible apply evs_of); (focus ((conv => lhs; simp (disch := omega) [e1, e4, es, el, ei, b1]); done)); try dsimp only) | ((with_reducible apply cndW_T); (focus (simp (disch := omega) [e1, e4, es, el, ei, b1] <;> omega))) | ((with_reducible apply cndW_F); (focus (simp (disch := omega) [e1, e4, es, el, ei, b1] <;> omega))) | ((with_reducible apply stabP_i); (focus (simp (disch := omega) [e1, e4, es, el, ei, b1]; done))) | (with_reducible apply wL_i) | ((with_reducible apply SpecA_i); (focus ((conv => lhs; simp (disch := omega) [e1, e4, es, el, ei, b1]); done))) | ((with_reducible apply stabA_i); (focus ((conv => lhs; simp (disch := omega) [e1, e4, es, el, ei, b1]); done))) | ((with_reducible apply stabA_fn); (focus ((conv => lhs; simp (disch := omega) [e1, e4, es, el, ei, b1]); done))) | ((with_reducible apply stab_do); (focus (simp (disch := omega) [e1, e4, es, el, ei, b1]; done))) | (simp (decide := true) only [sn21, sqW_nrm, sqW_exit, sqW_ret, inBlk_nrm, inBlk_ret, inBlk_same, inBlk_exit, if_true, if_false, retW_nrm, retW_ret]) | (with_reducible refine n21_27_w _ _ _ ?_) | (with_reducible refine n21_13_w _ _ _ ?_))
        refine .inl ⟨trivial, _, _, x2, rfl, by simp [e1], by simp [e4], by simp [es], by simp [el], by simp, ?_⟩
        rw [flat_succ hi]
        simpa only [askB, ciB, List.append_assoc] using s
    rintro st ⟨env', H, x, rfl, e1, e4, es, el, ei, s⟩
    rw [List.take_length] at s
    have b0 := s.b0
    repeat' (first | ((with_reducible apply evs_of); (focus ((conv => lhs; simp (disch := omega) [e1, e4, es, el, ei]); done)); try dsimp only) | ((with_reducible apply cndW_T); (focus (simp (disch := omega) [e1, e4, es, el, ei] <;> omega))) | ((with_reducible apply cndW_F); (focus (simp (disch := omega) [e1, e4, es, el, ei] <;> omega))) | ((with_reducible apply stabP_i); (focus (simp (disch := omega) [e1, e4, es, el, ei]; done))) | (with_reducible apply wL_i) | ((with_reducible apply SpecA_i); (focus ((conv => lhs; simp (disch := omega) [e1, e4, es, el, ei]); done))) | ((with_reducible apply stabA_i); (focus ((conv => lhs; simp (disch := omega) [e1, e4, es, el, ei]); done))) | ((with_reducible apply stabA_fn); (focus ((conv => lhs; simp (disch := omega) [e1, e4, es, el, ei]); done))) | ((with_reducible apply stab_do); (focus (simp (disch := omega) [e1, e4, es, el, ei]; done))) | (simp (decide := true) only [sn21, sqW_nrm, sqW_exit, sqW_ret, inBlk_nrm, inBlk_ret, inBlk_same, inBlk_exit, if_true, if_false, retW_nrm, retW_ret]) | (with_reducible refine n21_27_w _ _ _ ?_) | (with_reducible refine n21_13_w _ _ _ ?_))
    refine ⟨by simp, ?_⟩
    repeat' (first | ((with_reducible apply evs_of); (focus ((conv => lhs; simp (disch := omega) [e1, e4, b0, s.st.fb.len]); done)); try dsimp only) | ((with_reducible apply cndW_T); (focus (simp (disch := omega) [e1, e4, b0, s.st.fb.len] <;> omega))) | ((with_reducible apply cndW_F); (focus (simp (disch := omega) [e1, e4, b0, s.st.fb.len] <;> omega))) | ((with_reducible apply stabP_i); (focus (simp (disch := omega) [e1, e4, b0, s.st.fb.len]; done))) | (with_reducible apply wL_i) | ((with_reducible apply SpecA_i); (focus ((conv => lhs; simp (disch := omega) [e1, e4, b0, s.st.fb.len]); done))) | ((with_reducible apply stabA_i); (focus ((conv => lhs; simp (disch := omega) [e1, e4, b0, s.st.fb.len]); done))) | ((with_reducible apply stabA_fn); (focus ((conv => lhs; simp (disch := omega) [e1, e4, b0, s.st.fb.len]); done))) | ((with_reducible apply stab_do); (focus (simp (disch := omega) [e1, e4, b0, s.st.fb.len]; done))) | (simp (decide := true) only [sn21, sqW_nrm, sqW_exit, sqW_ret, inBlk_nrm, inBlk_ret, inBlk_same, inBlk_exit, if_true, if_false, retW_nrm, retW_ret]) | (with_reducible refine n21_27_w _ _ _ ?_) | (with_reducible refine n21_13_w _ _ _ ?_))
    have hL : L2.length + ((a.asks.map askB).flatten).length ≤ 700000 := by have := flat_len (c := 68) (n := 40) (f := askB) (by intro; simp [askB, ciB, beN_len, Pt.h]) (l := a.asks) (by omega); omega
    refine SpecQ.step (c38 (size := 1) s.hw (by omega) (by omega) (.inl (shL (by omega))) (by simp only [List.length_append]; have := hL; omega)) ?_
    rintro ⟨v, h2⟩ ⟨rfl, x2, hw, k2⟩
    have s := s.step k2 hw
    have b0 := s.b0
    try unfold wp
    repeat' (first | ((with_reducible apply evs_of); (focus ((conv => lhs; simp (disch := omega) [e1, e4, b0, s.st.fb.len]); done)); try dsimp only) | ((with_reducible apply cndW_T); (focus (simp (disch := omega) [e1, e4, b0, s.st.fb.len] <;> omega))) | ((with_reducible apply cndW_F); (focus (simp (disch := omega) [e1, e4, b0, s.st.fb.len] <;> omega))) | ((with_reducible apply stabP_i); (focus (simp (disch := omega) [e1, e4, b0, s.st.fb.len]; done))) | (with_reducible apply wL_i) | ((with_reducible apply SpecA_i); (focus ((conv => lhs; simp (disch := omega) [e1, e4, b0, s.st.fb.len]); done))) | ((with_reducible apply stabA_i); (focus ((conv => lhs; simp (disch := omega) [e1, e4, b0, s.st.fb.len]); done))) | ((with_reducible apply stabA_fn); (focus ((conv => lhs; simp (disch := omega) [e1, e4, b0, s.st.fb.len]); done))) | ((with_reducible apply stab_do); (focus (simp (disch := omega) [e1, e4, b0, s.st.fb.len]; done))) | (simp (decide := true) only [sn21, sqW_nrm, sqW_exit, sqW_ret, inBlk_nrm, inBlk_ret, inBlk_same, inBlk_exit, if_true, if_false, retW_nrm, retW_ret]) | (with_reducible refine n21_27_w _ _ _ ?_) | (with_reducible refine n21_13_w _ _ _ ?_))
    obtain ⟨L3, hL3, s⟩ := s.gen
    have hb3 : L3.length ≤ 700100 := by rw [hL3]; simp only [List.length_append, beN_len]; omega
    refine loop_up a.bans.length (fun i st => ∃ env' H x, st = ⟨env', H⟩ ∧ env'.get 1 = .ptr h.length 0 [] tState ∧ env'.get 4 = .ptr (h.length + 1) 0 [] tLwriter ∧ env'.get 119 = vb ∧ env'.get 120 = nat a.bans.length ∧ env'.get 121 = nat i ∧ SI h a vt vp vs vi va vb H x (L3 ++ ((a.bans.take i).map banB).flatten)) ?_ ?_ ⟨_, _, _, rfl, by simp [e1], by simp [e4], by simp, by simp, by simp, by simpa using s⟩
    · skip
      as_aux_lemma =>
        rintro i st hi ⟨env', H, x, rfl, e1, e4, es, el, ei, s⟩
        obtain ⟨p, p1, p2⟩ := s.st.fb.idx (i := i) (by simpa using hi)
        rw [List.getElem?_map, List.getElem?_eq_getElem hi] at p2
        simp only [Option.map_some] at p2
        have p3 := p2 []
        rw [List.append_nil] at p3
        have hfl : ((a.bans.take i).map banB).flatten.length ≤ 40 * 128 := flat_len (by intro; simp [banB, ciB, beN_len, Pt.h]) (by simp; omega)
        repeat' (first | ((with_reducible apply evs_of); (focus ((conv => lhs; simp (disch := omega) [e1, e4, es, el, ei, p1, p2, p3, hi]); done)); try dsimp only) | ((with_reducible apply cndW_T); (focus (simp (disch := omega) [e1, e4, es, el, ei, p1, p2, p3, hi] <;> omega))) | ((with_reducible apply cndW_F); (focus (simp (disch := omega) [e1, e4, es, el, ei, p1, p2, p3, hi] <;> omega))) | ((with_reducible apply stabP_i); (focus (simp (disch := omega) [e1, e4, es, el, ei, p1, p2, p3, hi]; done))) | (with_reducible apply wL_i) | ((with_reducible apply SpecA_i); (focus ((conv => lhs; simp (disch := omega) [e1, e4, es, el, ei, p1, p2, p3, hi]); done))) | ((with_reducible apply stabA_i); (focus ((conv => lhs; simp (disch := omega) [e1, e4, es, el, ei, p1, p2, p3, hi]); done))) | ((with_reducible apply stabA_fn); (focus ((conv => lhs; simp (disch := omega) [e1, e4, es, el, ei, p1, p2, p3, hi]); done))) | ((with_reducible apply stab_do); (focus (simp (disch := omega) [e1, e4, es, el, ei, p1, p2, p3, hi]; done))) | (simp (decide := true) only [sn21, sqW_nrm, sqW_exit, sqW_ret, inBlk_nrm, inBlk_ret, inBlk_same, inBlk_exit, if_true, if_false, retW_nrm, retW_ret]) | (with_reducible refine n21_27_w _ _ _ ?_) | (with_reducible refine n21_13_w _ _ _ ?_))
        have ce := Cells.new s.hw [⟨eBan a.bans[i], 0, .own⟩]
        have s := s.ext [⟨eBan a.bans[i], 0, .own⟩]
        refine SpecQ.step (c42 s.hw (by simp only [List.length_append, beN_len, Pt.h]; omega)) ?_
        rintro ⟨v, h2⟩ ⟨rfl, x2, hw, k2⟩
        have s := s.step k2 hw
        have ce := ce.step k2
        have b1 : blkAt h2 H.length 0 = some ⟨eBan a.bans[i], 0, .own⟩ := ce.blk 0 rfl
        try unfold wp
        repeat' (first | ((with_reducible apply evs_of); (focus ((conv => lhs; simp (disch := omega) [e1, e4, es, el, ei, b1]); done)); try dsimp only) | ((with_reducible apply cndW_T); (focus (simp (disch := omega) [e1, e4, es, el, ei, b1] <;> omega))) | ((with_reducible apply cndW_F); (focus (simp (disch := omega) [e1, e4, es, el, ei, b1] <;> omega))) | ((with_reducible apply stabP_i); (focus (simp (disch := omega) [e1, e4, es, el, ei, b1]; done))) | (with_reducible apply wL_i) | ((with_reducible apply SpecA_i); (focus ((conv => lhs; simp (disch := omega) [e1, e4, es, el, ei, b1]); done))) | ((with_reducible apply stabA_i); (focus ((conv => lhs; simp (disch := omega) [e1, e4, es, el, ei, b1]); done))) | ((with_reducible apply stabA_fn); (focus ((conv => lhs; simp (disch := omega) [e1, e4, es, el, ei, b1]); done))) | ((with_reducible apply stab_do); (focus (simp (disch := omega) [e1, e4, es, el, ei, b1]; done))) | (simp (decide := true) only [sn21, sqW_nrm, sqW_exit, sqW_ret, inBlk_nrm, inBlk_ret, inBlk_same, inBlk_exit, if_true, if_false, retW_nrm, retW_ret]) | (with_reducible refine n21_27_w _ _ _ ?_) | (with_reducible refine n21_13_w _ _ _ ?_))
        refine SpecQ.step (c42 s.hw (by simp only [List.length_append, beN_len, Pt.h]; omega)) ?_
        rintro ⟨v, h2⟩ ⟨rfl, x2, hw, k2⟩
        have s := s.step k2 hw
        have ce := ce.step k2
        have b1 : blkAt h2 H.length 0 = some ⟨eBan a.bans[i], 0, .own⟩ := ce.blk 0 rfl
        try unfold wp
        repeat' (first | ((with_reducible apply evs_of); (focus ((conv => lhs; simp (disch := omega) [e1, e4, es, el, ei, b1]); done)); try dsimp only) | ((with_reducible apply cndW_T); (focus (simp (disch := omega) [e1, e4, es, el, ei, b1] <;> omega))) | ((with_reducible apply cndW_F); (focus (simp (disch := omega) [e1, e4, es, el, ei, b1] <;> omega))) | ((with_reducible apply stabP_i); (focus (simp (disch := omega) [e1, e4, es, el, ei, b1]; done))) | (with_reducible apply wL_i) | ((with_reducible apply SpecA_i); (focus ((conv => lhs; simp (disch := omega) [e1, e4, es, el, ei, b1]); done))) | ((with_reducible apply stabA_i); (focus ((conv => lhs; simp (disch := omega) [e1, e4, es, el, ei, b1]); done))) | ((with_reducible apply stabA_fn); (focus ((conv => lhs; simp (disch := omega) [e1, e4, es, el, ei, b1]); done))) | ((with_reducible apply stab_do); (focus (simp (disch := omega) [e1, e4, es, el, ei, b1]; done))) | (simp (decide := true) only [sn21, sqW_nrm, sqW_exit, sqW_ret, inBlk_nrm, inBlk_ret, inBlk_same, inBlk_exit, if_true, if_false, retW_nrm, retW_ret]) | (with_reducible refine n21_27_w _ _ _ ?_) | (with_reducible refine n21_13_w _ _ _ ?_))
        refine .inl ⟨trivial, _, _, x2, rfl, by simp [e1], by simp [e4], by simp [es], by simp [el], by simp, ?_⟩
        rw [flat_succ hi]
        simpa only [banB, ciB, List.append_assoc] using s
    rintro st ⟨env', H, x, rfl, e1, e4, es, el, ei, s⟩
    rw [List.take_length] at s
    have b0 := s.b0
    repeat' (first | ((with_reducible apply evs_of); (focus ((conv => lhs; simp (disch := omega) [e1, e4, es, el, ei]); done)); try dsimp only) | ((with_reducible apply cndW_T); (focus (simp (disch := omega) [e1, e4, es, el, ei] <;> omega))) | ((with_reducible apply cndW_F); (focus (simp (disch := omega) [e1, e4, es, el, ei] <;> omega))) | ((with_reducible apply stabP_i); (focus (simp (disch := omega) [e1, e4, es, el, ei]; done))) | (with_reducible apply wL_i) | ((with_reducible apply SpecA_i); (focus ((conv => lhs; simp (disch := omega) [e1, e4, es, el, ei]); done))) | ((with_reducible apply stabA_i); (focus ((conv => lhs; simp (disch := omega) [e1, e4, es, el, ei]); done))) | ((with_reducible apply stabA_fn); (focus ((conv => lhs; simp (disch := omega) [e1, e4, es, el, ei]); done))) | ((with_reducible apply stab_do); (focus (simp (disch := omega) [e1, e4, es, el, ei]; done))) | (simp (decide := true) only [sn21, sqW_nrm, sqW_exit, sqW_ret, inBlk_nrm, inBlk_ret, inBlk_same, inBlk_exit, if_true, if_false, retW_nrm, retW_ret]) | (with_reducible refine n21_27_w _ _ _ ?_) | (with_reducible refine n21_13_w _ _ _ ?_))
    refine ⟨by simp, ?_⟩
    repeat' (first | ((with_reducible apply evs_of); (focus ((conv => lhs; simp (disch := omega) [e1, e4, b0]); done)); try dsimp only) | ((with_reducible apply cndW_T); (focus (simp (disch := omega) [e1, e4, b0] <;> omega))) | ((with_reducible apply cndW_F); (focus (simp (disch := omega) [e1, e4, b0] <;> omega))) | ((with_reducible apply stabP_i); (focus (simp (disch := omega) [e1, e4, b0]; done))) | (with_reducible apply wL_i) | ((with_reducible apply SpecA_i); (focus ((conv => lhs; simp (disch := omega) [e1, e4, b0]); done))) | ((with_reducible apply stabA_i); (focus ((conv => lhs; simp (disch := omega) [e1, e4, b0]); done))) | ((with_reducible apply stabA_fn); (focus ((conv => lhs; simp (disch := omega) [e1, e4, b0]); done))) | ((with_reducible apply stab_do); (focus (simp (disch := omega) [e1, e4, b0]; done))) | (simp (decide := true) only [sn21, sqW_nrm, sqW_exit, sqW_ret, inBlk_nrm, inBlk_ret, inBlk_same, inBlk_exit, if_true, if_false, retW_nrm, retW_ret]) | (with_reducible refine n21_27_w _ _ _ ?_) | (with_reducible refine n21_13_w _ _ _ ?_))
    have hp := s.kk.pre h.length (Nat.le_refl _) (by omega) (fun b hb => by cases hb)
    rw [List.take_length] at hp
    obtain ⟨t, rfl⟩ := hp
    refine SpecQ.step (c43 s.hw) ?_
    rintro ⟨v, h2⟩ ⟨y, t2, e, hy⟩
    cases e
    repeat' (first | ((with_reducible apply evs_of); (focus ((conv => lhs; simp (disch := omega) [e4]); done)); try dsimp only) | ((with_reducible apply cndW_T); (focus (simp (disch := omega) [e4] <;> omega))) | ((with_reducible apply cndW_F); (focus (simp (disch := omega) [e4] <;> omega))) | ((with_reducible apply stabP_i); (focus (simp (disch := omega) [e4]; done))) | (with_reducible apply wL_i) | ((with_reducible apply SpecA_i); (focus ((conv => lhs; simp (disch := omega) [e4]); done))) | ((with_reducible apply stabA_i); (focus ((conv => lhs; simp (disch := omega) [e4]); done))) | ((with_reducible apply stabA_fn); (focus ((conv => lhs; simp (disch := omega) [e4]); done))) | ((with_reducible apply stab_do); (focus (simp (disch := omega) [e4]; done))) | (simp (decide := true) only [sn21, sqW_nrm, sqW_exit, sqW_ret, inBlk_nrm, inBlk_ret, inBlk_same, inBlk_exit, if_true, if_false, retW_nrm, retW_ret]) | (with_reducible refine n21_27_w _ _ _ ?_) | (with_reducible refine n21_13_w _ _ _ ?_))
    refine .inr ⟨⟨z1, z2, z3, z4, z5, z6⟩, y, t ++ t2, by simp [oneOrTuple], ?_⟩
    have el : L3 ++ (a.bans.map banB).flatten = stB a := by
      rw [hL3, hL2, hL1, hL0]
      simp only [stB, rowsB, textB, accB, ciB, List.append_assoc, List.nil_append]
    rw [el] at hy
    rw [← List.append_assoc]
    exact hy

end Go.Vab

/- How the code of a function is read. Printed by wip/tools/gen2.py (own work). -/
namespace Go.Vab
open Go Go.Proofs
/-! vestry/vestryref18.SameState -/
def cx9 : Ctx := ⟨fun _ _ _ => none, TT, 162, [13, 14, 15, 16, 17, 18, 19, 20, 21, 22, 23, 24, 25, 26, 27, 28, 29, 30, 31, 32, 33, 34, 35, 36, 37, 38, 39, 40, 41, 42, 43, 44, 45, 46, 47, 48, 49, 50, 51, 52, 53, 54, 55, 56, 57, 58, 59, 60, 61, 62, 63, 64, 65, 66, 67, 68, 69, 70, 71, 72, 73, 74, 75, 76, 77, 78, 79, 80, 81, 82, 83, 84, 86, 87, 88, 89, 91, 92, 93, 94, 95, 96, 97, 98, 99, 100, 101, 102, 103, 104, 106, 107, 108, 109, 111, 112, 113, 114, 115, 116, 117, 118, 119, 120, 121, 122, 123, 124, 126, 127, 128, 129, 131, 132, 133, 134, 135, 136, 137, 138, 139, 140, 141, 142, 144, 145, 146, 147, 149, 150, 151, 152, 153, 154, 155, 156, 157, 158, 159, 160]⟩
noncomputable def n9_0 : Code := bodyOf Try.f9
noncomputable def n9_1 : Code := cR n9_0
noncomputable def n9_2 : Code := cL n9_1
noncomputable def n9_3 : Code := cR n9_2
noncomputable def n9_4 : Code := cL n9_3
noncomputable def n9_5 : Code := cR n9_4
noncomputable def n9_6 : Code := cR n9_3
noncomputable def n9_7 : Code := cR n9_1
noncomputable def n9_8 : Code := cL n9_7
noncomputable def n9_9 : Code := cR n9_8
noncomputable def n9_10 : Code := cB n9_9
noncomputable def n9_11 : Code := cB n9_10
noncomputable def n9_12 : Code := cL n9_11
noncomputable def n9_13 : Code := cR n9_12
noncomputable def n9_14 : Code := cL n9_13
noncomputable def n9_15 : Code := cR n9_13
noncomputable def n9_16 : Code := cR n9_11
noncomputable def n9_17 : Code := cL n9_16
noncomputable def n9_18 : Code := cB n9_17
noncomputable def n9_19 : Code := cR n9_18
noncomputable def n9_20 : Code := cR n9_19
noncomputable def n9_21 : Code := cL n9_20
noncomputable def n9_22 : Code := cR n9_21
noncomputable def n9_23 : Code := cR n9_20
noncomputable def n9_24 : Code := cR n9_16
noncomputable def n9_25 : Code := cR n9_7
noncomputable def n9_26 : Code := cL n9_25
noncomputable def n9_27 : Code := cR n9_26
noncomputable def n9_28 : Code := cB n9_27
noncomputable def n9_29 : Code := cB n9_28
noncomputable def n9_30 : Code := cL n9_29
noncomputable def n9_31 : Code := cR n9_30
noncomputable def n9_32 : Code := cL n9_31
noncomputable def n9_33 : Code := cR n9_31
noncomputable def n9_34 : Code := cR n9_29
noncomputable def n9_35 : Code := cL n9_34
noncomputable def n9_36 : Code := cB n9_35
noncomputable def n9_37 : Code := cR n9_36
noncomputable def n9_38 : Code := cR n9_37
noncomputable def n9_39 : Code := cL n9_38
noncomputable def n9_40 : Code := cR n9_39
noncomputable def n9_41 : Code := cR n9_38
noncomputable def n9_42 : Code := cR n9_34
noncomputable def n9_43 : Code := cR n9_25
noncomputable def n9_44 : Code := cL n9_43
noncomputable def n9_45 : Code := cR n9_44
noncomputable def n9_46 : Code := cB n9_45
noncomputable def n9_47 : Code := cB n9_46
noncomputable def n9_48 : Code := cL n9_47
noncomputable def n9_49 : Code := cR n9_48
noncomputable def n9_50 : Code := cL n9_49
noncomputable def n9_51 : Code := cR n9_49
noncomputable def n9_52 : Code := cR n9_47
noncomputable def n9_53 : Code := cL n9_52
noncomputable def n9_54 : Code := cB n9_53
noncomputable def n9_55 : Code := cR n9_54
noncomputable def n9_56 : Code := cL n9_55
noncomputable def n9_57 : Code := cR n9_56
noncomputable def n9_58 : Code := cR n9_55
noncomputable def n9_59 : Code := cR n9_52
noncomputable def n9_60 : Code := cR n9_43
noncomputable def n9_61 : Code := cL n9_60
noncomputable def n9_62 : Code := cR n9_61
noncomputable def n9_63 : Code := cB n9_62
noncomputable def n9_64 : Code := cB n9_63
noncomputable def n9_65 : Code := cL n9_64
noncomputable def n9_66 : Code := cR n9_65
noncomputable def n9_67 : Code := cL n9_66
noncomputable def n9_68 : Code := cR n9_66
noncomputable def n9_69 : Code := cR n9_64
noncomputable def n9_70 : Code := cL n9_69
noncomputable def n9_71 : Code := cB n9_70
noncomputable def n9_72 : Code := cR n9_71
noncomputable def n9_73 : Code := cL n9_72
noncomputable def n9_74 : Code := cR n9_73
noncomputable def n9_75 : Code := cR n9_72
noncomputable def n9_76 : Code := cR n9_69
noncomputable def n9_77 : Code := cR n9_60
noncomputable def n9_78 : Code := cR n9_77
theorem n9_5_eq (Q : Ex × St → Prop) (s : St) : wC Try.prog cx9 n9_5 Q s = Q (.ret, s) := yE
theorem n9_4_eq (Q : Ex × St → Prop) (env : Env) (h : Heap) : wC Try.prog cx9 n9_4 Q ⟨env, h⟩ = ( wC Try.prog cx9 n9_5 Q ⟨(Env.put env 4 (.bool false)), h⟩) := (ySR 2 (cOps (cL n9_4)) (cR n9_4)).trans (by
  refine w0 ?_
  refine wT 4 (.bool false) ?_
  exact wE)
theorem n9_6_eq (Q : Ex × St → Prop) (s : St) : wC Try.prog cx9 n9_6 Q s = Q (.nrm, s) := yK
theorem n9_3_eq (Q : Ex × St → Prop) (s : St) : wC Try.prog cx9 n9_3 Q s = cndW (s.env.get 85) (wL Try.prog cx9 n9_4 Q s) (wL Try.prog cx9 n9_6 Q s) := yC 85 _ _
theorem n9_2_eq (Q : Ex × St → Prop) (env : Env) (h : Heap) : wC Try.prog cx9 n9_2 Q ⟨env, h⟩ = (Evs (mFieldAddr tState (env.get 2) 0) fun v0 => Evs (mLoad (.int .u32) v0 h) fun v1 => Evs (mFieldAddr tState (env.get 3) 0) fun v2 => Evs (mLoad (.int .u32) v2 h) fun v3 => Evs (mBin .neq v1 v3) fun v4 => Evs (gv v4 false (mFieldAddr tState (env.get 2) 1)) fun v6 => Evs (gv v4 false (mLoad tPublic v6 h)) fun v7 => Evs (gv v4 false (mFieldAddr tState (env.get 3) 1)) fun v8 => Evs (gv v4 false (mLoad tPublic v8 h)) fun v9 => Evs (gv v4 false (mEq tPublic .neq v7 v9)) fun v10 => Evs (mPick v4 (.bool true) v10) fun v11 => Evs (gv v11 false (mFieldAddr tState (env.get 2) 2)) fun v13 => Evs (gv v11 false (mLoad .cell v13 h)) fun v14 => Evs (gv v11 false (mStr v14 h)) fun v15 => Evs (gv v11 false (mFieldAddr tState (env.get 3) 2)) fun v16 => Evs (gv v11 false (mLoad .cell v16 h)) fun v17 => Evs (gv v11 false (mStr v17 h)) fun v18 => Evs (gv v11 false (mBinT .neq v15 v18)) fun v19 => Evs (mPick v11 (.bool true) v19) fun v20 => Evs (gv v20 false (mFieldAddr tState (env.get 2) 3)) fun v22 => Evs (gv v20 false (mLoad tAccess v22 h)) fun v23 => Evs (gv v20 false (mFieldAddr tState (env.get 3) 3)) fun v24 => Evs (gv v20 false (mLoad tAccess v24 h)) fun v25 => Evs (gv v20 false (mEq tAccess .neq v23 v25)) fun v26 => Evs (mPick v20 (.bool true) v26) fun v27 => Evs (gv v27 false (mFieldAddr tState (env.get 2) 4)) fun v29 => Evs (gv v27 false (mLoad .cell v29 h)) fun v30 => Evs (gv v27 false (mStr v30 h)) fun v31 => Evs (gv v27 false (mFieldAddr tState (env.get 3) 4)) fun v32 => Evs (gv v27 false (mLoad .cell v32 h)) fun v33 => Evs (gv v27 false (mStr v33 h)) fun v34 => Evs (gv v27 false (mBinT .neq v31 v34)) fun v35 => Evs (mPick v27 (.bool true) v35) fun v36 => Evs (gv v36 false (mFieldAddr tState (env.get 2) 5)) fun v38 => Evs (gv v36 false (mLoad .cell v38 h)) fun v39 => Evs (gv v36 false (mLenS v39)) fun v40 => Evs (gv v36 false (mFieldAddr tState (env.get 3) 5)) fun v41 => Evs (gv v36 false (mLoad .cell v41 h)) fun v42 => Evs (gv v36 false (mLenS v42)) fun v43 => Evs (gv v36 false (mBin .neq v40 v43)) fun v44 => Evs (mPick v36 (.bool true) v44) fun v45 => Evs (gv v45 false (mFieldAddr tState (env.get 2) 6)) fun v47 => Evs (gv v45 false (mLoad .cell v47 h)) fun v48 => Evs (gv v45 false (mLenS v48)) fun v49 => Evs (gv v45 false (mFieldAddr tState (env.get 3) 6)) fun v50 => Evs (gv v45 false (mLoad .cell v50 h)) fun v51 => Evs (gv v45 false (mLenS v51)) fun v52 => Evs (gv v45 false (mBin .neq v49 v52)) fun v53 => Evs (mPick v45 (.bool true) v53) fun v54 => Evs (gv v54 false (mFieldAddr tState (env.get 2) 7)) fun v56 => Evs (gv v54 false (mLoad .cell v56 h)) fun v57 => Evs (gv v54 false (mLenS v57)) fun v58 => Evs (gv v54 false (mFieldAddr tState (env.get 3) 7)) fun v59 => Evs (gv v54 false (mLoad .cell v59 h)) fun v60 => Evs (gv v54 false (mLenS v60)) fun v61 => Evs (gv v54 false (mBin .neq v58 v61)) fun v62 => Evs (mPick v54 (.bool true) v62) fun v63 => Evs (gv v63 false (mFieldAddr tState (env.get 2) 8)) fun v65 => Evs (gv v63 false (mLoad .cell v65 h)) fun v66 => Evs (gv v63 false (mLenS v66)) fun v67 => Evs (gv v63 false (mFieldAddr tState (env.get 3) 8)) fun v68 => Evs (gv v63 false (mLoad .cell v68 h)) fun v69 => Evs (gv v63 false (mLenS v69)) fun v70 => Evs (gv v63 false (mBin .neq v67 v70)) fun v71 => Evs (mPick v63 (.bool true) v71) fun v72 => wC Try.prog cx9 n9_3 Q ⟨(Env.put env 85 v72), h⟩) := (ySR 1 (cOps (cL n9_2)) (cR n9_2)).trans (by
  refine w0 ?_
  refine wP 13 fun v0 => ?_
  refine wP 14 fun v1 => ?_
  refine wP 15 fun v2 => ?_
  refine wP 16 fun v3 => ?_
  refine wP 17 fun v4 => ?_
  refine wT 18 v4 ?_
  refine wG 19 fun v6 => ?_
  refine wG 20 fun v7 => ?_
  refine wG 21 fun v8 => ?_
  refine wG 22 fun v9 => ?_
  refine wG 23 fun v10 => ?_
  refine wP 24 fun v11 => ?_
  refine wT 25 v11 ?_
  refine wG 26 fun v13 => ?_
  refine wG 27 fun v14 => ?_
  refine wG 28 fun v15 => ?_
  refine wG 29 fun v16 => ?_
  refine wG 30 fun v17 => ?_
  refine wG 31 fun v18 => ?_
  refine wG 32 fun v19 => ?_
  refine wP 33 fun v20 => ?_
  refine wT 34 v20 ?_
  refine wG 35 fun v22 => ?_
  refine wG 36 fun v23 => ?_
  refine wG 37 fun v24 => ?_
  refine wG 38 fun v25 => ?_
  refine wG 39 fun v26 => ?_
  refine wP 40 fun v27 => ?_
  refine wT 41 v27 ?_
  refine wG 42 fun v29 => ?_
  refine wG 43 fun v30 => ?_
  refine wG 44 fun v31 => ?_
  refine wG 45 fun v32 => ?_
  refine wG 46 fun v33 => ?_
  refine wG 47 fun v34 => ?_
  refine wG 48 fun v35 => ?_
  refine wP 49 fun v36 => ?_
  refine wT 50 v36 ?_
  refine wG 51 fun v38 => ?_
  refine wG 52 fun v39 => ?_
  refine wG 53 fun v40 => ?_
  refine wG 54 fun v41 => ?_
  refine wG 55 fun v42 => ?_
  refine wG 56 fun v43 => ?_
  refine wG 57 fun v44 => ?_
  refine wP 58 fun v45 => ?_
  refine wT 59 v45 ?_
  refine wG 60 fun v47 => ?_
  refine wG 61 fun v48 => ?_
  refine wG 62 fun v49 => ?_
  refine wG 63 fun v50 => ?_
  refine wG 64 fun v51 => ?_
  refine wG 65 fun v52 => ?_
  refine wG 66 fun v53 => ?_
  refine wP 67 fun v54 => ?_
  refine wT 68 v54 ?_
  refine wG 69 fun v56 => ?_
  refine wG 70 fun v57 => ?_
  refine wG 71 fun v58 => ?_
  refine wG 72 fun v59 => ?_
  refine wG 73 fun v60 => ?_
  refine wG 74 fun v61 => ?_
  refine wG 75 fun v62 => ?_
  refine wP 76 fun v63 => ?_
  refine wT 77 v63 ?_
  refine wG 78 fun v65 => ?_
  refine wG 79 fun v66 => ?_
  refine wG 80 fun v67 => ?_
  refine wG 81 fun v68 => ?_
  refine wG 82 fun v69 => ?_
  refine wG 83 fun v70 => ?_
  refine wG 84 fun v71 => ?_
  refine wP 85 fun v72 => ?_
  exact wE)
theorem n9_14_eq (Q : Ex × St → Prop) (s : St) : wC Try.prog cx9 n9_14 Q s = Q (.nrm, s) := yK
theorem n9_15_eq (Q : Ex × St → Prop) (s : St) : wC Try.prog cx9 n9_15 Q s = Q (.exit 0, s) := yX 0
theorem n9_13_eq (Q : Ex × St → Prop) (s : St) : wC Try.prog cx9 n9_13 Q s = cndW (s.env.get 90) (wL Try.prog cx9 n9_14 Q s) (wL Try.prog cx9 n9_15 Q s) := yC 90 _ _
theorem n9_12_eq (Q : Ex × St → Prop) (env : Env) (h : Heap) : wC Try.prog cx9 n9_12 Q ⟨env, h⟩ = (Evs (mFieldAddr tState (env.get 2) 5) fun v1 => Evs (mLoad .cell v1 h) fun v2 => Evs (mLenS v2) fun v3 => Evs (mBin .lss (env.get 5) v3) fun v4 => wC Try.prog cx9 n9_13 Q ⟨(Env.put env 90 v4), h⟩) := (ySR 4 (cOps (cL n9_12)) (cR n9_12)).trans (by
  refine w0 ?_
  refine wT 86 (env.get 5) ?_
  refine wP 87 fun v1 => ?_
  refine wP 88 fun v2 => ?_
  refine wP 89 fun v3 => ?_
  refine wP 90 fun v4 => ?_
  exact wE)
theorem n9_22_eq (Q : Ex × St → Prop) (s : St) : wC Try.prog cx9 n9_22 Q s = Q (.ret, s) := yE
theorem n9_21_eq (Q : Ex × St → Prop) (env : Env) (h : Heap) : wC Try.prog cx9 n9_21 Q ⟨env, h⟩ = ( wC Try.prog cx9 n9_22 Q ⟨(Env.put env 4 (.bool false)), h⟩) := (ySR 8 (cOps (cL n9_21)) (cR n9_21)).trans (by
  refine w0 ?_
  refine wT 4 (.bool false) ?_
  exact wE)
theorem n9_23_eq (Q : Ex × St → Prop) (s : St) : wC Try.prog cx9 n9_23 Q s = Q (.nrm, s) := yK
theorem n9_20_eq (Q : Ex × St → Prop) (s : St) : wC Try.prog cx9 n9_20 Q s = cndW (s.env.get 105) (wL Try.prog cx9 n9_21 Q s) (wL Try.prog cx9 n9_23 Q s) := yC 105 _ _
theorem n9_19_eq (Q : Ex × St → Prop) (env : Env) (h : Heap) : wC Try.prog cx9 n9_19 Q ⟨env, h⟩ = (Evs (mLoad tSeat (env.get 6) h) fun v0 => Evs (mLoad tSeat (env.get 7) h) fun v1 => Evs (mEq tSeat .neq v0 v1) fun v2 => wC Try.prog cx9 n9_20 Q ⟨(Env.put env 105 v2), h⟩) := (ySR 7 (cOps (cL n9_19)) (cR n9_19)).trans (by
  refine w0 ?_
  refine wP 103 fun v0 => ?_
  refine wP 104 fun v1 => ?_
  refine wP 105 fun v2 => ?_
  exact wE)
theorem n9_18_ok : treeOk (cOps (cL n9_18)).toList [10, 11, 12, 13] [0, 1, 0, 7, 15, 0, 32, 0, 224, 480, 0, 0, 3103, 8191] = true := by kernel_rfl
theorem n9_18_w (Q : Ex × St → Prop) (env : Env) (h : Heap) (H : Evs (mFieldAddr tState (env.get 2) 5) fun v0_1 => Evs (mLoad .cell v0_1 h) fun v1_2 => Evs (mIdxS tSeat v1_2 (env.get 5)) fun v3_3 => Evs (mLoad tSeat v3_3 h) fun v4_4 => Evs (mFieldAddr tState (env.get 3) 5) fun v5_5 => Evs (mLoad .cell v5_5 h) fun v6_6 => Evs (mIdxS tSeat v6_6 (env.get 5)) fun v8_7 => Evs (mLoad tSeat v8_7 h) fun v9_8 => bothP (Evs (mNew tSeat (.node [(.node [(arr 32 fun _ => 0#8), (arr 32 fun _ => 0#8)]), (u8 0#8), (u32 0#32)]) h) fun r10_9 => stabP (mLoad .cell v0_1 r10_9.2 = some v1_2) (stabP (mLoad tSeat v3_3 r10_9.2 = some v4_4) (stabP (mLoad .cell v5_5 r10_9.2 = some v6_6) (stabP (mLoad tSeat v8_7 r10_9.2 = some v9_8) (Evs (mNew tSeat (.node [(.node [(arr 32 fun _ => 0#8), (arr 32 fun _ => 0#8)]), (u8 0#8), (u32 0#32)]) r10_9.2) fun r11_10 => stabP (mLoad .cell v0_1 r11_10.2 = some v1_2) (stabP (mLoad tSeat v3_3 r11_10.2 = some v4_4) (stabP (mLoad .cell v5_5 r11_10.2 = some v6_6) (stabP (mLoad tSeat v8_7 r11_10.2 = some v9_8) (Evs (stU tSeat r10_9.1 v4_4 r11_10.2) fun r12_11 => stabP (mLoad .cell v5_5 r12_11.2 = some v6_6) (stabP (mLoad tSeat v8_7 r12_11.2 = some v9_8) (Evs (stU tSeat r11_10.1 v9_8 r12_11.2) fun r13_12 => wC Try.prog cx9 n9_19 Q ⟨(Env.put (Env.put env 6 r10_9.1) 7 r11_10.1), r13_12.2⟩))))))))))) (Evs (mNew tSeat (.node [(.node [(arr 32 fun _ => 0#8), (arr 32 fun _ => 0#8)]), (u8 0#8), (u32 0#32)]) h) fun r11_13 => stabP (mLoad .cell v0_1 r11_13.2 = some v1_2) (stabP (mLoad tSeat v3_3 r11_13.2 = some v4_4) (stabP (mLoad .cell v5_5 r11_13.2 = some v6_6) (stabP (mLoad tSeat v8_7 r11_13.2 = some v9_8) (Evs (mNew tSeat (.node [(.node [(arr 32 fun _ => 0#8), (arr 32 fun _ => 0#8)]), (u8 0#8), (u32 0#32)]) r11_13.2) fun r10_14 => stabP (mLoad .cell v0_1 r10_14.2 = some v1_2) (stabP (mLoad tSeat v3_3 r10_14.2 = some v4_4) (stabP (mLoad .cell v5_5 r10_14.2 = some v6_6) (stabP (mLoad tSeat v8_7 r10_14.2 = some v9_8) (Evs (stU tSeat r10_14.1 v4_4 r10_14.2) fun r12_15 => stabP (mLoad .cell v5_5 r12_15.2 = some v6_6) (stabP (mLoad tSeat v8_7 r12_15.2 = some v9_8) (Evs (stU tSeat r11_13.1 v9_8 r12_15.2) fun r13_16 => wC Try.prog cx9 n9_19 Q ⟨(Env.put (Env.put env 7 r11_13.1) 6 r10_14.1), r13_16.2⟩)))))))))))) : wC Try.prog cx9 n9_18 Q ⟨env, h⟩ := by
  refine ySD 6 (cOps (cL n9_18)) (cR n9_18) [10, 11, 12, 13] [0, 1, 0, 7, 15, 0, 32, 0, 224, 480, 0, 0, 3103, 8191] [0, 1, 2, 3, 4, 5, 6, 7, 8, 9] n9_18_ok ?_
  refine rP H 93 fun v0_1 H => ?_
  refine rP H 94 fun v1_2 H => ?_
  refine rT 95 (env.get 5) ?_
  refine rP H 96 fun v3_3 H => ?_
  refine rP H 97 fun v4_4 H => ?_
  refine rP H 98 fun v5_5 H => ?_
  refine rP H 99 fun v6_6 H => ?_
  refine rT 100 (env.get 5) ?_
  refine rP H 101 fun v8_7 H => ?_
  refine rP H 102 fun v9_8 H => ?_
  refine rE ?_
  refine tN 10 [11] ?_
  refine aN2 ?_ ?_
  · replace H := H.1
    refine tH H 6 [] [1, 4, 6, 9] (fun r10_9 H => ?_)
    refine sP v1_2 94 H (fun H => ?_) (by kernel_rfl) (by kernel_rfl) (by kernel_rfl)
    refine sP v4_4 97 H (fun H => ?_) (by kernel_rfl) (by kernel_rfl) (by kernel_rfl)
    refine sP v6_6 99 H (fun H => ?_) (by kernel_rfl) (by kernel_rfl) (by kernel_rfl)
    refine sP v9_8 102 H (fun H => ?_) (by kernel_rfl) (by kernel_rfl) (by kernel_rfl)
    refine ⟨sNil, ?_⟩
    refine rE ?_
    refine tN 11 [] ?_
    refine aN1 ?_
    refine tH H 7 [] [1, 4, 6, 9] (fun r11_10 H => ?_)
    refine sP v1_2 94 H (fun H => ?_) (by kernel_rfl) (by kernel_rfl) (by kernel_rfl)
    refine sP v4_4 97 H (fun H => ?_) (by kernel_rfl) (by kernel_rfl) (by kernel_rfl)
    refine sP v6_6 99 H (fun H => ?_) (by kernel_rfl) (by kernel_rfl) (by kernel_rfl)
    refine sP v9_8 102 H (fun H => ?_) (by kernel_rfl) (by kernel_rfl) (by kernel_rfl)
    refine ⟨sNil, ?_⟩
    refine rE ?_
    refine tN 12 [] ?_
    refine aN1 ?_
    refine tHn H [] [6, 9] (fun r12_11 H => ?_)
    refine sP v6_6 99 H (fun H => ?_) (by kernel_rfl) (by kernel_rfl) (by kernel_rfl)
    refine sP v9_8 102 H (fun H => ?_) (by kernel_rfl) (by kernel_rfl) (by kernel_rfl)
    refine ⟨sNil, ?_⟩
    refine rE ?_
    refine tN 13 [] ?_
    refine aN1 ?_
    refine tHn H [] [] (fun r13_12 H => ?_)
    refine ⟨sNil, ?_⟩
    refine rE ?_
    exact tE H
  replace H := H.2
  refine aN1 ?_
  refine tH H 7 [] [1, 4, 6, 9] (fun r11_13 H => ?_)
  refine sP v1_2 94 H (fun H => ?_) (by kernel_rfl) (by kernel_rfl) (by kernel_rfl)
  refine sP v4_4 97 H (fun H => ?_) (by kernel_rfl) (by kernel_rfl) (by kernel_rfl)
  refine sP v6_6 99 H (fun H => ?_) (by kernel_rfl) (by kernel_rfl) (by kernel_rfl)
  refine sP v9_8 102 H (fun H => ?_) (by kernel_rfl) (by kernel_rfl) (by kernel_rfl)
  refine ⟨sNil, ?_⟩
  refine rE ?_
  refine tN 10 [] ?_
  refine aN1 ?_
  refine tH H 6 [] [1, 4, 6, 9] (fun r10_14 H => ?_)
  refine sP v1_2 94 H (fun H => ?_) (by kernel_rfl) (by kernel_rfl) (by kernel_rfl)
  refine sP v4_4 97 H (fun H => ?_) (by kernel_rfl) (by kernel_rfl) (by kernel_rfl)
  refine sP v6_6 99 H (fun H => ?_) (by kernel_rfl) (by kernel_rfl) (by kernel_rfl)
  refine sP v9_8 102 H (fun H => ?_) (by kernel_rfl) (by kernel_rfl) (by kernel_rfl)
  refine ⟨sNil, ?_⟩
  refine rE ?_
  refine tN 12 [] ?_
  refine aN1 ?_
  refine tHn H [] [6, 9] (fun r12_15 H => ?_)
  refine sP v6_6 99 H (fun H => ?_) (by kernel_rfl) (by kernel_rfl) (by kernel_rfl)
  refine sP v9_8 102 H (fun H => ?_) (by kernel_rfl) (by kernel_rfl) (by kernel_rfl)
  refine ⟨sNil, ?_⟩
  refine rE ?_
  refine tN 13 [] ?_
  refine aN1 ?_
  refine tHn H [] [] (fun r13_16 H => ?_)
  refine ⟨sNil, ?_⟩
  refine rE ?_
  exact tE H
theorem n9_17_eq (Q : Ex × St → Prop) (s : St) : wC Try.prog cx9 n9_17 Q s = wC Try.prog cx9 n9_18 (fun r => Q (inBlk 1 r)) s := yB 1 _
theorem n9_24_eq (Q : Ex × St → Prop) (env : Env) (h : Heap) : wC Try.prog cx9 n9_24 Q ⟨env, h⟩ = (Evs (mBin .add (env.get 5) (nat 1)) fun v1 => Q (.nrm, ⟨(Env.put env 5 v1), h⟩)) := (yR 5 (cOps n9_24)).trans (by
  refine w0 ?_
  refine wT 91 (env.get 5) ?_
  refine wP 92 fun v1 => ?_
  refine wT 5 v1 ?_
  exact wE)
theorem n9_16_eq (Q : Ex × St → Prop) (s : St) : wC Try.prog cx9 n9_16 Q s = wC Try.prog cx9 n9_17 (sqW (wC Try.prog cx9 n9_24) Q) s := yS _ _
theorem n9_11_eq (Q : Ex × St → Prop) (s : St) : wC Try.prog cx9 n9_11 Q s = wC Try.prog cx9 n9_12 (sqW (wC Try.prog cx9 n9_16) Q) s := yS _ _
theorem n9_10_eq (Q : Ex × St → Prop) (s : St) : wC Try.prog cx9 n9_10 Q s = loopW (wC Try.prog cx9 n9_11) Q s := yL _
theorem n9_9_eq (Q : Ex × St → Prop) (s : St) : wC Try.prog cx9 n9_9 Q s = wC Try.prog cx9 n9_10 (fun r => Q (inBlk 0 r)) s := yB 0 _
theorem n9_8_eq (Q : Ex × St → Prop) (env : Env) (h : Heap) : wC Try.prog cx9 n9_8 Q ⟨env, h⟩ = ( wC Try.prog cx9 n9_9 Q ⟨(Env.put env 5 (nat 0)), h⟩) := (ySR 3 (cOps (cL n9_8)) (cR n9_8)).trans (by
  refine w0 ?_
  refine wT 5 (nat 0) ?_
  exact wE)
theorem n9_32_eq (Q : Ex × St → Prop) (s : St) : wC Try.prog cx9 n9_32 Q s = Q (.nrm, s) := yK
theorem n9_33_eq (Q : Ex × St → Prop) (s : St) : wC Try.prog cx9 n9_33 Q s = Q (.exit 2, s) := yX 2
theorem n9_31_eq (Q : Ex × St → Prop) (s : St) : wC Try.prog cx9 n9_31 Q s = cndW (s.env.get 110) (wL Try.prog cx9 n9_32 Q s) (wL Try.prog cx9 n9_33 Q s) := yC 110 _ _
theorem n9_30_eq (Q : Ex × St → Prop) (env : Env) (h : Heap) : wC Try.prog cx9 n9_30 Q ⟨env, h⟩ = (Evs (mFieldAddr tState (env.get 2) 6) fun v1 => Evs (mLoad .cell v1 h) fun v2 => Evs (mLenS v2) fun v3 => Evs (mBin .lss (env.get 8) v3) fun v4 => wC Try.prog cx9 n9_31 Q ⟨(Env.put env 110 v4), h⟩) := (ySR 10 (cOps (cL n9_30)) (cR n9_30)).trans (by
  refine w0 ?_
  refine wT 106 (env.get 8) ?_
  refine wP 107 fun v1 => ?_
  refine wP 108 fun v2 => ?_
  refine wP 109 fun v3 => ?_
  refine wP 110 fun v4 => ?_
  exact wE)
theorem n9_40_eq (Q : Ex × St → Prop) (s : St) : wC Try.prog cx9 n9_40 Q s = Q (.ret, s) := yE
theorem n9_39_eq (Q : Ex × St → Prop) (env : Env) (h : Heap) : wC Try.prog cx9 n9_39 Q ⟨env, h⟩ = ( wC Try.prog cx9 n9_40 Q ⟨(Env.put env 4 (.bool false)), h⟩) := (ySR 14 (cOps (cL n9_39)) (cR n9_39)).trans (by
  refine w0 ?_
  refine wT 4 (.bool false) ?_
  exact wE)
theorem n9_41_eq (Q : Ex × St → Prop) (s : St) : wC Try.prog cx9 n9_41 Q s = Q (.nrm, s) := yK
theorem n9_38_eq (Q : Ex × St → Prop) (s : St) : wC Try.prog cx9 n9_38 Q s = cndW (s.env.get 125) (wL Try.prog cx9 n9_39 Q s) (wL Try.prog cx9 n9_41 Q s) := yC 125 _ _
theorem n9_37_eq (Q : Ex × St → Prop) (env : Env) (h : Heap) : wC Try.prog cx9 n9_37 Q ⟨env, h⟩ = (Evs (mLoad tInvite (env.get 9) h) fun v0 => Evs (mLoad tInvite (env.get 10) h) fun v1 => Evs (mEq tInvite .neq v0 v1) fun v2 => wC Try.prog cx9 n9_38 Q ⟨(Env.put env 125 v2), h⟩) := (ySR 13 (cOps (cL n9_37)) (cR n9_37)).trans (by
  refine w0 ?_
  refine wP 123 fun v0 => ?_
  refine wP 124 fun v1 => ?_
  refine wP 125 fun v2 => ?_
  exact wE)
theorem n9_36_ok : treeOk (cOps (cL n9_36)).toList [10, 11, 12, 13] [0, 1, 0, 7, 15, 0, 32, 0, 224, 480, 0, 0, 3103, 8191] = true := by kernel_rfl
theorem n9_36_w (Q : Ex × St → Prop) (env : Env) (h : Heap) (H : Evs (mFieldAddr tState (env.get 2) 6) fun v0_1 => Evs (mLoad .cell v0_1 h) fun v1_2 => Evs (mIdxS tInvite v1_2 (env.get 8)) fun v3_3 => Evs (mLoad tInvite v3_3 h) fun v4_4 => Evs (mFieldAddr tState (env.get 3) 6) fun v5_5 => Evs (mLoad .cell v5_5 h) fun v6_6 => Evs (mIdxS tInvite v6_6 (env.get 8)) fun v8_7 => Evs (mLoad tInvite v8_7 h) fun v9_8 => bothP (Evs (mNew tInvite (.node [(.node [(arr 32 fun _ => 0#8), (arr 32 fun _ => 0#8)]), (u8 0#8), (.node [(arr 32 fun _ => 0#8), (arr 32 fun _ => 0#8)])]) h) fun r10_9 => stabP (mLoad .cell v0_1 r10_9.2 = some v1_2) (stabP (mLoad tInvite v3_3 r10_9.2 = some v4_4) (stabP (mLoad .cell v5_5 r10_9.2 = some v6_6) (stabP (mLoad tInvite v8_7 r10_9.2 = some v9_8) (Evs (mNew tInvite (.node [(.node [(arr 32 fun _ => 0#8), (arr 32 fun _ => 0#8)]), (u8 0#8), (.node [(arr 32 fun _ => 0#8), (arr 32 fun _ => 0#8)])]) r10_9.2) fun r11_10 => stabP (mLoad .cell v0_1 r11_10.2 = some v1_2) (stabP (mLoad tInvite v3_3 r11_10.2 = some v4_4) (stabP (mLoad .cell v5_5 r11_10.2 = some v6_6) (stabP (mLoad tInvite v8_7 r11_10.2 = some v9_8) (Evs (stU tInvite r10_9.1 v4_4 r11_10.2) fun r12_11 => stabP (mLoad .cell v5_5 r12_11.2 = some v6_6) (stabP (mLoad tInvite v8_7 r12_11.2 = some v9_8) (Evs (stU tInvite r11_10.1 v9_8 r12_11.2) fun r13_12 => wC Try.prog cx9 n9_37 Q ⟨(Env.put (Env.put env 9 r10_9.1) 10 r11_10.1), r13_12.2⟩))))))))))) (Evs (mNew tInvite (.node [(.node [(arr 32 fun _ => 0#8), (arr 32 fun _ => 0#8)]), (u8 0#8), (.node [(arr 32 fun _ => 0#8), (arr 32 fun _ => 0#8)])]) h) fun r11_13 => stabP (mLoad .cell v0_1 r11_13.2 = some v1_2) (stabP (mLoad tInvite v3_3 r11_13.2 = some v4_4) (stabP (mLoad .cell v5_5 r11_13.2 = some v6_6) (stabP (mLoad tInvite v8_7 r11_13.2 = some v9_8) (Evs (mNew tInvite (.node [(.node [(arr 32 fun _ => 0#8), (arr 32 fun _ => 0#8)]), (u8 0#8), (.node [(arr 32 fun _ => 0#8), (arr 32 fun _ => 0#8)])]) r11_13.2) fun r10_14 => stabP (mLoad .cell v0_1 r10_14.2 = some v1_2) (stabP (mLoad tInvite v3_3 r10_14.2 = some v4_4) (stabP (mLoad .cell v5_5 r10_14.2 = some v6_6) (stabP (mLoad tInvite v8_7 r10_14.2 = some v9_8) (Evs (stU tInvite r10_14.1 v4_4 r10_14.2) fun r12_15 => stabP (mLoad .cell v5_5 r12_15.2 = some v6_6) (stabP (mLoad tInvite v8_7 r12_15.2 = some v9_8) (Evs (stU tInvite r11_13.1 v9_8 r12_15.2) fun r13_16 => wC Try.prog cx9 n9_37 Q ⟨(Env.put (Env.put env 10 r11_13.1) 9 r10_14.1), r13_16.2⟩)))))))))))) : wC Try.prog cx9 n9_36 Q ⟨env, h⟩ := by
  refine ySD 12 (cOps (cL n9_36)) (cR n9_36) [10, 11, 12, 13] [0, 1, 0, 7, 15, 0, 32, 0, 224, 480, 0, 0, 3103, 8191] [0, 1, 2, 3, 4, 5, 6, 7, 8, 9] n9_36_ok ?_
  refine rP H 113 fun v0_1 H => ?_
  refine rP H 114 fun v1_2 H => ?_
  refine rT 115 (env.get 8) ?_
  refine rP H 116 fun v3_3 H => ?_
  refine rP H 117 fun v4_4 H => ?_
  refine rP H 118 fun v5_5 H => ?_
  refine rP H 119 fun v6_6 H => ?_
  refine rT 120 (env.get 8) ?_
  refine rP H 121 fun v8_7 H => ?_
  refine rP H 122 fun v9_8 H => ?_
  refine rE ?_
  refine tN 10 [11] ?_
  refine aN2 ?_ ?_
  · replace H := H.1
    refine tH H 9 [] [1, 4, 6, 9] (fun r10_9 H => ?_)
    refine sP v1_2 114 H (fun H => ?_) (by kernel_rfl) (by kernel_rfl) (by kernel_rfl)
    refine sP v4_4 117 H (fun H => ?_) (by kernel_rfl) (by kernel_rfl) (by kernel_rfl)
    refine sP v6_6 119 H (fun H => ?_) (by kernel_rfl) (by kernel_rfl) (by kernel_rfl)
    refine sP v9_8 122 H (fun H => ?_) (by kernel_rfl) (by kernel_rfl) (by kernel_rfl)
    refine ⟨sNil, ?_⟩
    refine rE ?_
    refine tN 11 [] ?_
    refine aN1 ?_
    refine tH H 10 [] [1, 4, 6, 9] (fun r11_10 H => ?_)
    refine sP v1_2 114 H (fun H => ?_) (by kernel_rfl) (by kernel_rfl) (by kernel_rfl)
    refine sP v4_4 117 H (fun H => ?_) (by kernel_rfl) (by kernel_rfl) (by kernel_rfl)
    refine sP v6_6 119 H (fun H => ?_) (by kernel_rfl) (by kernel_rfl) (by kernel_rfl)
    refine sP v9_8 122 H (fun H => ?_) (by kernel_rfl) (by kernel_rfl) (by kernel_rfl)
    refine ⟨sNil, ?_⟩
    refine rE ?_
    refine tN 12 [] ?_
    refine aN1 ?_
    refine tHn H [] [6, 9] (fun r12_11 H => ?_)
    refine sP v6_6 119 H (fun H => ?_) (by kernel_rfl) (by kernel_rfl) (by kernel_rfl)
    refine sP v9_8 122 H (fun H => ?_) (by kernel_rfl) (by kernel_rfl) (by kernel_rfl)
    refine ⟨sNil, ?_⟩
    refine rE ?_
    refine tN 13 [] ?_
    refine aN1 ?_
    refine tHn H [] [] (fun r13_12 H => ?_)
    refine ⟨sNil, ?_⟩
    refine rE ?_
    exact tE H
  replace H := H.2
  refine aN1 ?_
  refine tH H 10 [] [1, 4, 6, 9] (fun r11_13 H => ?_)
  refine sP v1_2 114 H (fun H => ?_) (by kernel_rfl) (by kernel_rfl) (by kernel_rfl)
  refine sP v4_4 117 H (fun H => ?_) (by kernel_rfl) (by kernel_rfl) (by kernel_rfl)
  refine sP v6_6 119 H (fun H => ?_) (by kernel_rfl) (by kernel_rfl) (by kernel_rfl)
  refine sP v9_8 122 H (fun H => ?_) (by kernel_rfl) (by kernel_rfl) (by kernel_rfl)
  refine ⟨sNil, ?_⟩
  refine rE ?_
  refine tN 10 [] ?_
  refine aN1 ?_
  refine tH H 9 [] [1, 4, 6, 9] (fun r10_14 H => ?_)
  refine sP v1_2 114 H (fun H => ?_) (by kernel_rfl) (by kernel_rfl) (by kernel_rfl)
  refine sP v4_4 117 H (fun H => ?_) (by kernel_rfl) (by kernel_rfl) (by kernel_rfl)
  refine sP v6_6 119 H (fun H => ?_) (by kernel_rfl) (by kernel_rfl) (by kernel_rfl)
  refine sP v9_8 122 H (fun H => ?_) (by kernel_rfl) (by kernel_rfl) (by kernel_rfl)
  refine ⟨sNil, ?_⟩
  refine rE ?_
  refine tN 12 [] ?_
  refine aN1 ?_
  refine tHn H [] [6, 9] (fun r12_15 H => ?_)
  refine sP v6_6 119 H (fun H => ?_) (by kernel_rfl) (by kernel_rfl) (by kernel_rfl)
  refine sP v9_8 122 H (fun H => ?_) (by kernel_rfl) (by kernel_rfl) (by kernel_rfl)
  refine ⟨sNil, ?_⟩
  refine rE ?_
  refine tN 13 [] ?_
  refine aN1 ?_
  refine tHn H [] [] (fun r13_16 H => ?_)
  refine ⟨sNil, ?_⟩
  refine rE ?_
  exact tE H
theorem n9_35_eq (Q : Ex × St → Prop) (s : St) : wC Try.prog cx9 n9_35 Q s = wC Try.prog cx9 n9_36 (fun r => Q (inBlk 3 r)) s := yB 3 _
theorem n9_42_eq (Q : Ex × St → Prop) (env : Env) (h : Heap) : wC Try.prog cx9 n9_42 Q ⟨env, h⟩ = (Evs (mBin .add (env.get 8) (nat 1)) fun v1 => Q (.nrm, ⟨(Env.put env 8 v1), h⟩)) := (yR 11 (cOps n9_42)).trans (by
  refine w0 ?_
  refine wT 111 (env.get 8) ?_
  refine wP 112 fun v1 => ?_
  refine wT 8 v1 ?_
  exact wE)
theorem n9_34_eq (Q : Ex × St → Prop) (s : St) : wC Try.prog cx9 n9_34 Q s = wC Try.prog cx9 n9_35 (sqW (wC Try.prog cx9 n9_42) Q) s := yS _ _
theorem n9_29_eq (Q : Ex × St → Prop) (s : St) : wC Try.prog cx9 n9_29 Q s = wC Try.prog cx9 n9_30 (sqW (wC Try.prog cx9 n9_34) Q) s := yS _ _
theorem n9_28_eq (Q : Ex × St → Prop) (s : St) : wC Try.prog cx9 n9_28 Q s = loopW (wC Try.prog cx9 n9_29) Q s := yL _
theorem n9_27_eq (Q : Ex × St → Prop) (s : St) : wC Try.prog cx9 n9_27 Q s = wC Try.prog cx9 n9_28 (fun r => Q (inBlk 2 r)) s := yB 2 _
theorem n9_26_eq (Q : Ex × St → Prop) (env : Env) (h : Heap) : wC Try.prog cx9 n9_26 Q ⟨env, h⟩ = ( wC Try.prog cx9 n9_27 Q ⟨(Env.put env 8 (nat 0)), h⟩) := (ySR 9 (cOps (cL n9_26)) (cR n9_26)).trans (by
  refine w0 ?_
  refine wT 8 (nat 0) ?_
  exact wE)
theorem n9_50_eq (Q : Ex × St → Prop) (s : St) : wC Try.prog cx9 n9_50 Q s = Q (.nrm, s) := yK
theorem n9_51_eq (Q : Ex × St → Prop) (s : St) : wC Try.prog cx9 n9_51 Q s = Q (.exit 4, s) := yX 4
theorem n9_49_eq (Q : Ex × St → Prop) (s : St) : wC Try.prog cx9 n9_49 Q s = cndW (s.env.get 130) (wL Try.prog cx9 n9_50 Q s) (wL Try.prog cx9 n9_51 Q s) := yC 130 _ _
theorem n9_48_eq (Q : Ex × St → Prop) (env : Env) (h : Heap) : wC Try.prog cx9 n9_48 Q ⟨env, h⟩ = (Evs (mFieldAddr tState (env.get 2) 7) fun v1 => Evs (mLoad .cell v1 h) fun v2 => Evs (mLenS v2) fun v3 => Evs (mBin .lss (env.get 11) v3) fun v4 => wC Try.prog cx9 n9_49 Q ⟨(Env.put env 130 v4), h⟩) := (ySR 16 (cOps (cL n9_48)) (cR n9_48)).trans (by
  refine w0 ?_
  refine wT 126 (env.get 11) ?_
  refine wP 127 fun v1 => ?_
  refine wP 128 fun v2 => ?_
  refine wP 129 fun v3 => ?_
  refine wP 130 fun v4 => ?_
  exact wE)
theorem n9_57_eq (Q : Ex × St → Prop) (s : St) : wC Try.prog cx9 n9_57 Q s = Q (.ret, s) := yE
theorem n9_56_eq (Q : Ex × St → Prop) (env : Env) (h : Heap) : wC Try.prog cx9 n9_56 Q ⟨env, h⟩ = ( wC Try.prog cx9 n9_57 Q ⟨(Env.put env 4 (.bool false)), h⟩) := (ySR 19 (cOps (cL n9_56)) (cR n9_56)).trans (by
  refine w0 ?_
  refine wT 4 (.bool false) ?_
  exact wE)
theorem n9_58_eq (Q : Ex × St → Prop) (s : St) : wC Try.prog cx9 n9_58 Q s = Q (.nrm, s) := yK
theorem n9_55_eq (Q : Ex × St → Prop) (s : St) : wC Try.prog cx9 n9_55 Q s = cndW (s.env.get 143) (wL Try.prog cx9 n9_56 Q s) (wL Try.prog cx9 n9_58 Q s) := yC 143 _ _
theorem n9_54_ok : treeOk (cOps (cL n9_54)).toList [] [0, 1, 0, 7, 15, 0, 32, 0, 224, 480, 1023] = true := by kernel_rfl
theorem n9_54_w (Q : Ex × St → Prop) (env : Env) (h : Heap) (H : Evs (mFieldAddr tState (env.get 2) 7) fun v0_1 => Evs (mLoad .cell v0_1 h) fun v1_2 => Evs (mIdxS tAsk v1_2 (env.get 11)) fun v3_3 => Evs (mLoad tAsk v3_3 h) fun v4_4 => Evs (mFieldAddr tState (env.get 3) 7) fun v5_5 => Evs (mLoad .cell v5_5 h) fun v6_6 => Evs (mIdxS tAsk v6_6 (env.get 11)) fun v8_7 => Evs (mLoad tAsk v8_7 h) fun v9_8 => Evs (mEq tAsk .neq v4_4 v9_8) fun v10_9 => wC Try.prog cx9 n9_55 Q ⟨(Env.put env 143 v10_9), h⟩) : wC Try.prog cx9 n9_54 Q ⟨env, h⟩ := by
  refine ySD 18 (cOps (cL n9_54)) (cR n9_54) [] [0, 1, 0, 7, 15, 0, 32, 0, 224, 480, 1023] [0, 1, 2, 3, 4, 5, 6, 7, 8, 9, 10] n9_54_ok ?_
  refine rP H 133 fun v0_1 H => ?_
  refine rP H 134 fun v1_2 H => ?_
  refine rT 135 (env.get 11) ?_
  refine rP H 136 fun v3_3 H => ?_
  refine rP H 137 fun v4_4 H => ?_
  refine rP H 138 fun v5_5 H => ?_
  refine rP H 139 fun v6_6 H => ?_
  refine rT 140 (env.get 11) ?_
  refine rP H 141 fun v8_7 H => ?_
  refine rP H 142 fun v9_8 H => ?_
  refine rP H 143 fun v10_9 H => ?_
  refine rE ?_
  exact tE H
theorem n9_53_eq (Q : Ex × St → Prop) (s : St) : wC Try.prog cx9 n9_53 Q s = wC Try.prog cx9 n9_54 (fun r => Q (inBlk 5 r)) s := yB 5 _
theorem n9_59_eq (Q : Ex × St → Prop) (env : Env) (h : Heap) : wC Try.prog cx9 n9_59 Q ⟨env, h⟩ = (Evs (mBin .add (env.get 11) (nat 1)) fun v1 => Q (.nrm, ⟨(Env.put env 11 v1), h⟩)) := (yR 17 (cOps n9_59)).trans (by
  refine w0 ?_
  refine wT 131 (env.get 11) ?_
  refine wP 132 fun v1 => ?_
  refine wT 11 v1 ?_
  exact wE)
theorem n9_52_eq (Q : Ex × St → Prop) (s : St) : wC Try.prog cx9 n9_52 Q s = wC Try.prog cx9 n9_53 (sqW (wC Try.prog cx9 n9_59) Q) s := yS _ _
theorem n9_47_eq (Q : Ex × St → Prop) (s : St) : wC Try.prog cx9 n9_47 Q s = wC Try.prog cx9 n9_48 (sqW (wC Try.prog cx9 n9_52) Q) s := yS _ _
theorem n9_46_eq (Q : Ex × St → Prop) (s : St) : wC Try.prog cx9 n9_46 Q s = loopW (wC Try.prog cx9 n9_47) Q s := yL _
theorem n9_45_eq (Q : Ex × St → Prop) (s : St) : wC Try.prog cx9 n9_45 Q s = wC Try.prog cx9 n9_46 (fun r => Q (inBlk 4 r)) s := yB 4 _
theorem n9_44_eq (Q : Ex × St → Prop) (env : Env) (h : Heap) : wC Try.prog cx9 n9_44 Q ⟨env, h⟩ = ( wC Try.prog cx9 n9_45 Q ⟨(Env.put env 11 (nat 0)), h⟩) := (ySR 15 (cOps (cL n9_44)) (cR n9_44)).trans (by
  refine w0 ?_
  refine wT 11 (nat 0) ?_
  exact wE)
theorem n9_67_eq (Q : Ex × St → Prop) (s : St) : wC Try.prog cx9 n9_67 Q s = Q (.nrm, s) := yK
theorem n9_68_eq (Q : Ex × St → Prop) (s : St) : wC Try.prog cx9 n9_68 Q s = Q (.exit 6, s) := yX 6
theorem n9_66_eq (Q : Ex × St → Prop) (s : St) : wC Try.prog cx9 n9_66 Q s = cndW (s.env.get 148) (wL Try.prog cx9 n9_67 Q s) (wL Try.prog cx9 n9_68 Q s) := yC 148 _ _
theorem n9_65_eq (Q : Ex × St → Prop) (env : Env) (h : Heap) : wC Try.prog cx9 n9_65 Q ⟨env, h⟩ = (Evs (mFieldAddr tState (env.get 2) 8) fun v1 => Evs (mLoad .cell v1 h) fun v2 => Evs (mLenS v2) fun v3 => Evs (mBin .lss (env.get 12) v3) fun v4 => wC Try.prog cx9 n9_66 Q ⟨(Env.put env 148 v4), h⟩) := (ySR 21 (cOps (cL n9_65)) (cR n9_65)).trans (by
  refine w0 ?_
  refine wT 144 (env.get 12) ?_
  refine wP 145 fun v1 => ?_
  refine wP 146 fun v2 => ?_
  refine wP 147 fun v3 => ?_
  refine wP 148 fun v4 => ?_
  exact wE)
theorem n9_74_eq (Q : Ex × St → Prop) (s : St) : wC Try.prog cx9 n9_74 Q s = Q (.ret, s) := yE
theorem n9_73_eq (Q : Ex × St → Prop) (env : Env) (h : Heap) : wC Try.prog cx9 n9_73 Q ⟨env, h⟩ = ( wC Try.prog cx9 n9_74 Q ⟨(Env.put env 4 (.bool false)), h⟩) := (ySR 24 (cOps (cL n9_73)) (cR n9_73)).trans (by
  refine w0 ?_
  refine wT 4 (.bool false) ?_
  exact wE)
theorem n9_75_eq (Q : Ex × St → Prop) (s : St) : wC Try.prog cx9 n9_75 Q s = Q (.nrm, s) := yK
theorem n9_72_eq (Q : Ex × St → Prop) (s : St) : wC Try.prog cx9 n9_72 Q s = cndW (s.env.get 161) (wL Try.prog cx9 n9_73 Q s) (wL Try.prog cx9 n9_75 Q s) := yC 161 _ _
theorem n9_71_ok : treeOk (cOps (cL n9_71)).toList [] [0, 1, 0, 7, 15, 0, 32, 0, 224, 480, 1023] = true := by kernel_rfl
theorem n9_71_w (Q : Ex × St → Prop) (env : Env) (h : Heap) (H : Evs (mFieldAddr tState (env.get 2) 8) fun v0_1 => Evs (mLoad .cell v0_1 h) fun v1_2 => Evs (mIdxS tBan v1_2 (env.get 12)) fun v3_3 => Evs (mLoad tBan v3_3 h) fun v4_4 => Evs (mFieldAddr tState (env.get 3) 8) fun v5_5 => Evs (mLoad .cell v5_5 h) fun v6_6 => Evs (mIdxS tBan v6_6 (env.get 12)) fun v8_7 => Evs (mLoad tBan v8_7 h) fun v9_8 => Evs (mEq tBan .neq v4_4 v9_8) fun v10_9 => wC Try.prog cx9 n9_72 Q ⟨(Env.put env 161 v10_9), h⟩) : wC Try.prog cx9 n9_71 Q ⟨env, h⟩ := by
  refine ySD 23 (cOps (cL n9_71)) (cR n9_71) [] [0, 1, 0, 7, 15, 0, 32, 0, 224, 480, 1023] [0, 1, 2, 3, 4, 5, 6, 7, 8, 9, 10] n9_71_ok ?_
  refine rP H 151 fun v0_1 H => ?_
  refine rP H 152 fun v1_2 H => ?_
  refine rT 153 (env.get 12) ?_
  refine rP H 154 fun v3_3 H => ?_
  refine rP H 155 fun v4_4 H => ?_
  refine rP H 156 fun v5_5 H => ?_
  refine rP H 157 fun v6_6 H => ?_
  refine rT 158 (env.get 12) ?_
  refine rP H 159 fun v8_7 H => ?_
  refine rP H 160 fun v9_8 H => ?_
  refine rP H 161 fun v10_9 H => ?_
  refine rE ?_
  exact tE H
theorem n9_70_eq (Q : Ex × St → Prop) (s : St) : wC Try.prog cx9 n9_70 Q s = wC Try.prog cx9 n9_71 (fun r => Q (inBlk 7 r)) s := yB 7 _
theorem n9_76_eq (Q : Ex × St → Prop) (env : Env) (h : Heap) : wC Try.prog cx9 n9_76 Q ⟨env, h⟩ = (Evs (mBin .add (env.get 12) (nat 1)) fun v1 => Q (.nrm, ⟨(Env.put env 12 v1), h⟩)) := (yR 22 (cOps n9_76)).trans (by
  refine w0 ?_
  refine wT 149 (env.get 12) ?_
  refine wP 150 fun v1 => ?_
  refine wT 12 v1 ?_
  exact wE)
theorem n9_69_eq (Q : Ex × St → Prop) (s : St) : wC Try.prog cx9 n9_69 Q s = wC Try.prog cx9 n9_70 (sqW (wC Try.prog cx9 n9_76) Q) s := yS _ _
theorem n9_64_eq (Q : Ex × St → Prop) (s : St) : wC Try.prog cx9 n9_64 Q s = wC Try.prog cx9 n9_65 (sqW (wC Try.prog cx9 n9_69) Q) s := yS _ _
theorem n9_63_eq (Q : Ex × St → Prop) (s : St) : wC Try.prog cx9 n9_63 Q s = loopW (wC Try.prog cx9 n9_64) Q s := yL _
theorem n9_62_eq (Q : Ex × St → Prop) (s : St) : wC Try.prog cx9 n9_62 Q s = wC Try.prog cx9 n9_63 (fun r => Q (inBlk 6 r)) s := yB 6 _
theorem n9_61_eq (Q : Ex × St → Prop) (env : Env) (h : Heap) : wC Try.prog cx9 n9_61 Q ⟨env, h⟩ = ( wC Try.prog cx9 n9_62 Q ⟨(Env.put env 12 (nat 0)), h⟩) := (ySR 20 (cOps (cL n9_61)) (cR n9_61)).trans (by
  refine w0 ?_
  refine wT 12 (nat 0) ?_
  exact wE)
theorem n9_78_eq (Q : Ex × St → Prop) (s : St) : wC Try.prog cx9 n9_78 Q s = Q (.ret, s) := yE
theorem n9_77_eq (Q : Ex × St → Prop) (env : Env) (h : Heap) : wC Try.prog cx9 n9_77 Q ⟨env, h⟩ = ( wC Try.prog cx9 n9_78 Q ⟨(Env.put env 4 (.bool true)), h⟩) := (ySR 25 (cOps (cL n9_77)) (cR n9_77)).trans (by
  refine w0 ?_
  refine wT 4 (.bool true) ?_
  exact wE)
theorem n9_60_eq (Q : Ex × St → Prop) (s : St) : wC Try.prog cx9 n9_60 Q s = wC Try.prog cx9 n9_61 (sqW (wC Try.prog cx9 n9_77) Q) s := yS _ _
theorem n9_43_eq (Q : Ex × St → Prop) (s : St) : wC Try.prog cx9 n9_43 Q s = wC Try.prog cx9 n9_44 (sqW (wC Try.prog cx9 n9_60) Q) s := yS _ _
theorem n9_25_eq (Q : Ex × St → Prop) (s : St) : wC Try.prog cx9 n9_25 Q s = wC Try.prog cx9 n9_26 (sqW (wC Try.prog cx9 n9_43) Q) s := yS _ _
theorem n9_7_eq (Q : Ex × St → Prop) (s : St) : wC Try.prog cx9 n9_7 Q s = wC Try.prog cx9 n9_8 (sqW (wC Try.prog cx9 n9_25) Q) s := yS _ _
theorem n9_1_eq (Q : Ex × St → Prop) (s : St) : wC Try.prog cx9 n9_1 Q s = wC Try.prog cx9 n9_2 (sqW (wC Try.prog cx9 n9_7) Q) s := yS _ _
theorem n9_0_eq (Q : Ex × St → Prop) (env : Env) (h : Heap) : wC Try.prog cx9 n9_0 Q ⟨env, h⟩ = (Evs (mNew tState (env.get 0) h) fun r0 => Evs (mNew tState (env.get 1) r0.2) fun r1 => wC Try.prog cx9 n9_1 Q ⟨(Env.put (Env.put (Env.put env 2 r0.1) 3 r1.1) 4 (.bool false)), r1.2⟩) := (ySR 0 (cOps (cL n9_0)) (cR n9_0)).trans (by
  refine w0 ?_
  refine wH 2 fun r0 => ?_
  refine wH 3 fun r1 => ?_
  refine wT 4 (.bool false) ?_
  exact wE)
theorem fn9 : Try.prog.funcs[9]? = some Try.f9 := by kernel_rfl
set_option maxHeartbeats 4000000 in
theorem q9 {a0 a1 : AV} {h : Heap} {K : AV × Heap → Prop} (H : ∀ env : Env, env.get 0 = a0 → env.get 1 = a1 → wC Try.prog cx9 n9_0 (retW (fun s => (bnd (some (s.env.get 4)) fun v => bnd (some []) fun vs => some (v :: vs))) K) ⟨env, h⟩) : SpecQ Try.prog 9 [a0, a1] h K :=
  bodyW_sound (C := cx9) TT_ok mixed_ok fn9 (by kernel_rfl) (show _ = some n9_0 by kernel_rfl) (by kernel_rfl) (by kernel_rfl) (of_decide_eq_true (by kernel_rfl)) ((show wC Try.prog cx9 n9_0 (retW (fun s => resAll cx9 s Try.f9.results.toList) K) ⟨env0 cx9 [a0, a1], h⟩ = wC Try.prog cx9 n9_0 (retW (fun s => (bnd (some (s.env.get 4)) fun v => bnd (some []) fun vs => some (v :: vs))) K) ⟨[(0, a0), (1, a1), (2, .junk), (3, .junk), (4, .junk), (5, .junk), (6, .junk), (7, .junk), (8, .junk), (9, .junk), (10, .junk), (11, .junk), (12, .junk), (85, .junk), (90, .junk), (105, .junk), (110, .junk), (125, .junk), (130, .junk), (143, .junk), (148, .junk), (161, .junk)], h⟩ by kernel_rfl).mpr (H [(0, a0), (1, a1), (2, .junk), (3, .junk), (4, .junk), (5, .junk), (6, .junk), (7, .junk), (8, .junk), (9, .junk), (10, .junk), (11, .junk), (12, .junk), (85, .junk), (90, .junk), (105, .junk), (110, .junk), (125, .junk), (130, .junk), (143, .junk), (148, .junk), (161, .junk)] rfl rfl))
set_option maxHeartbeats 4000000 in
def sn9 := And.intro n9_5_eq (And.intro n9_4_eq (And.intro n9_6_eq (And.intro n9_3_eq (And.intro n9_2_eq (And.intro n9_14_eq (And.intro n9_15_eq (And.intro n9_13_eq (And.intro n9_12_eq (And.intro n9_22_eq (And.intro n9_21_eq (And.intro n9_23_eq (And.intro n9_20_eq (And.intro n9_19_eq (And.intro n9_17_eq (And.intro n9_24_eq (And.intro n9_16_eq (And.intro n9_11_eq (And.intro n9_10_eq (And.intro n9_9_eq (And.intro n9_8_eq (And.intro n9_32_eq (And.intro n9_33_eq (And.intro n9_31_eq (And.intro n9_30_eq (And.intro n9_40_eq (And.intro n9_39_eq (And.intro n9_41_eq (And.intro n9_38_eq (And.intro n9_37_eq (And.intro n9_35_eq (And.intro n9_42_eq (And.intro n9_34_eq (And.intro n9_29_eq (And.intro n9_28_eq (And.intro n9_27_eq (And.intro n9_26_eq (And.intro n9_50_eq (And.intro n9_51_eq (And.intro n9_49_eq (And.intro n9_48_eq (And.intro n9_57_eq (And.intro n9_56_eq (And.intro n9_58_eq (And.intro n9_55_eq (And.intro n9_53_eq (And.intro n9_59_eq (And.intro n9_52_eq (And.intro n9_47_eq (And.intro n9_46_eq (And.intro n9_45_eq (And.intro n9_44_eq (And.intro n9_67_eq (And.intro n9_68_eq (And.intro n9_66_eq (And.intro n9_65_eq (And.intro n9_74_eq (And.intro n9_73_eq (And.intro n9_75_eq (And.intro n9_72_eq (And.intro n9_70_eq (And.intro n9_76_eq (And.intro n9_69_eq (And.intro n9_64_eq (And.intro n9_63_eq (And.intro n9_62_eq (And.intro n9_61_eq (And.intro n9_78_eq (And.intro n9_77_eq (And.intro n9_60_eq (And.intro n9_43_eq (And.intro n9_25_eq (And.intro n9_7_eq (And.intro n9_1_eq (n9_0_eq))))))))))))))))))))))))))))))))))))))))))))))))))))))))))))))))))))))))))
-- draws: n9_18 n9_36 n9_54 n9_71
end Go.Vab

/-
  The document's SameState, walked.
-/
namespace Go.Vab
open Go Go.Proofs

theorem c9 {h : Heap} {a b : Stt} {at_ ap as_ ai aa ab bt bp bs bi ba bb : AV} (ra : StR h a at_ ap as_ ai aa ab) (rb : StR h b bt bp bs bi ba bb) :
    SpecQ Try.prog 9 [eSt a at_ ap as_ ai aa ab, eSt b bt bp bs bi ba bb] h fun r => r = (.bool (decide (a = b)), h) := by
  have ta := ra.cells
  have tb := rb.cells
  obtain ⟨A, hA⟩ : ∃ A, A = eSt a at_ ap as_ ai aa ab := ⟨_, rfl⟩
  obtain ⟨B, hB⟩ : ∃ B, B = eSt b bt bp bs bi ba bb := ⟨_, rfl⟩
  have sat := fun l => (ra.ft.app l).str
  have sap := fun l => (ra.fp.app l).str
  have sbt := fun l => (rb.ft.app l).str
  have sbp := fun l => (rb.fp.app l).str
  have las := ra.fs.len
  have lai := ra.fi.len
  have laa := ra.fa.len
  have lab := ra.fb.len
  have lbs := rb.fs.len
  have lbi := rb.fi.len
  have lba := rb.fa.len
  have lbb := rb.fb.len
  have bas := ra.fs.bound
  have bai := ra.fi.bound
  have baa := ra.fa.bound
  have bab := ra.fb.bound
  simp only [List.length_map] at las lai laa lab lbs lbi lba lbb bas bai baa bab
  refine SpecQ.drop1 rfl (q9 fun env g0 g1 => ?_)
  repeat' (first | ((with_reducible apply evs_of); (focus ((conv => lhs; simp (disch := omega) [g0, g1, ta, tb, sat, sap, sbt, sbp, las, lai, laa, lab, lbs, lbi, lba, lbb]); done)); try dsimp only) | ((with_reducible apply cndW_T); (focus (simp (disch := omega) [g0, g1, ta, tb, sat, sap, sbt, sbp, las, lai, laa, lab, lbs, lbi, lba, lbb] <;> omega))) | ((with_reducible apply cndW_F); (focus (simp (disch := omega) [g0, g1, ta, tb, sat, sap, sbt, sbp, las, lai, laa, lab, lbs, lbi, lba, lbb] <;> omega))) | ((with_reducible apply stabP_i); (focus (simp (disch := omega) [g0, g1, ta, tb, sat, sap, sbt, sbp, las, lai, laa, lab, lbs, lbi, lba, lbb]; done))) | (with_reducible apply bothP_i) | (with_reducible apply wL_i) | ((with_reducible apply stabA_i); (focus ((conv => lhs; simp (disch := omega) [g0, g1, ta, tb, sat, sap, sbt, sbp, las, lai, laa, lab, lbs, lbi, lba, lbb]); done))) | ((with_reducible apply stabA_fn); (focus ((conv => lhs; simp (disch := omega) [g0, g1, ta, tb, sat, sap, sbt, sbp, las, lai, laa, lab, lbs, lbi, lba, lbb]); done))) | ((with_reducible apply stab_do); (focus (simp (disch := omega) [g0, g1, ta, tb, sat, sap, sbt, sbp, las, lai, laa, lab, lbs, lbi, lba, lbb]; done))) | (simp (decide := true) only [sn9, sqW_nrm, sqW_exit, sqW_ret, inBlk_nrm, inBlk_ret, inBlk_same, inBlk_exit, if_true, if_false, retW_nrm, retW_ret]) | (with_reducible refine n9_18_w _ _ _ ?_) | (with_reducible refine n9_36_w _ _ _ ?_) | (with_reducible refine n9_54_w _ _ _ ?_) | (with_reducible refine n9_71_w _ _ _ ?_) | ((with_reducible apply cndW_splitE); (focus ((conv => lhs; simp (disch := omega) [g0, g1, ta, tb, sat, sap, sbt, sbp, las, lai, laa, lab, lbs, lbi, lba, lbb]); done)); all_goals ((intro hb; try simp only [Bool.not_true, Bool.not_false] at hb); try simp only [hb])) | (with_reducible refine gv_split ?_ ?_ <;> (intro hb; try simp only [Bool.not_true, Bool.not_false] at hb) <;> try simp only [hb]) | (with_reducible refine cndW_split ?_ ?_ <;> (intro hb; try simp only [Bool.not_true, Bool.not_false] at hb) <;> try simp only [hb]))
  rotate_left
  all_goals try (refine fin_b (decide_eq_false ?_).symm; rintro rfl; simp_all; done)
  rename_i u1 u2 u3 u4 u5 u6 u7 u8
  simp only [Bool.not_eq_false', decide_eq_true_eq, Bool.or_eq_false_iff] at u1 u2 u3 u4 u5 u6 u7 u8 hb
  -- seats
  refine loop_up a.seats.length (fun i st => ∃ env' t, st = ⟨env', h ++ (⟨eSt a at_ ap as_ ai aa ab, 0, .own⟩ :: ⟨eSt b bt bp bs bi ba bb, 0, .own⟩ :: t)⟩ ∧ env'.get 2 = .ptr h.length 0 [] tState ∧ env'.get 3 = .ptr (h.length + 1) 0 [] tState ∧ env'.get 5 = nat i ∧ ∀ j, j < i → a.seats[j]? = b.seats[j]?) ?_ ?_ ⟨_, _, rfl, by simp [*], by simp [*], by simp, fun j hj => absurd hj (by omega)⟩
  · rintro i st hi ⟨env', t, rfl, e2, e3, ei, hj⟩
    obtain ⟨p, p1, p2⟩ := ra.fs.idx (i := i) (by simpa using hi)
    obtain ⟨q, q1, q2⟩ := rb.fs.idx (i := i) (by simpa [← u6] using hi)
    simp only [List.getElem?_map, List.getElem?_eq_getElem hi, Option.map_some] at p2
    simp only [List.getElem?_map, List.getElem?_eq_getElem (show i < b.seats.length by omega), Option.map_some] at q2
    by_cases hab : a.seats[i] = b.seats[i]
    · repeat' (first | ((with_reducible apply evs_of); (focus ((conv => lhs; simp (disch := omega) [e2, e3, ei, p1, p2, q1, q2, hab, las]); done)); try dsimp only) | ((with_reducible apply cndW_T); (focus (simp (disch := omega) [e2, e3, ei, p1, p2, q1, q2, hab, las] <;> omega))) | ((with_reducible apply cndW_F); (focus (simp (disch := omega) [e2, e3, ei, p1, p2, q1, q2, hab, las] <;> omega))) | ((with_reducible apply stabP_i); (focus (simp (disch := omega) [e2, e3, ei, p1, p2, q1, q2, hab, las]; done))) | (with_reducible apply bothP_i) | (with_reducible apply wL_i) | ((with_reducible apply stabA_i); (focus ((conv => lhs; simp (disch := omega) [e2, e3, ei, p1, p2, q1, q2, hab, las]); done))) | ((with_reducible apply stabA_fn); (focus ((conv => lhs; simp (disch := omega) [e2, e3, ei, p1, p2, q1, q2, hab, las]); done))) | ((with_reducible apply stab_do); (focus (simp (disch := omega) [e2, e3, ei, p1, p2, q1, q2, hab, las]; done))) | (simp (decide := true) only [sn9, sqW_nrm, sqW_exit, sqW_ret, inBlk_nrm, inBlk_ret, inBlk_same, inBlk_exit, if_true, if_false, retW_nrm, retW_ret]) | (with_reducible refine n9_18_w _ _ _ ?_) | (with_reducible refine n9_36_w _ _ _ ?_) | (with_reducible refine n9_54_w _ _ _ ?_) | (with_reducible refine n9_71_w _ _ _ ?_))
      all_goals
        refine .inl ⟨by simp, _, _, rfl, by simp [e2], by simp [e3], by simp, fun j hj' => ?_⟩
        by_cases hji : j = i
        · subst hji
          rw [List.getElem?_eq_getElem hi, List.getElem?_eq_getElem (by omega), hab]
        · exact hj j (by omega)
    · repeat' (first | ((with_reducible apply evs_of); (focus ((conv => lhs; simp (disch := omega) [e2, e3, ei, p1, p2, q1, q2, hab, las]); done)); try dsimp only) | ((with_reducible apply cndW_T); (focus (simp (disch := omega) [e2, e3, ei, p1, p2, q1, q2, hab, las] <;> omega))) | ((with_reducible apply cndW_F); (focus (simp (disch := omega) [e2, e3, ei, p1, p2, q1, q2, hab, las] <;> omega))) | ((with_reducible apply stabP_i); (focus (simp (disch := omega) [e2, e3, ei, p1, p2, q1, q2, hab, las]; done))) | (with_reducible apply bothP_i) | (with_reducible apply wL_i) | ((with_reducible apply stabA_i); (focus ((conv => lhs; simp (disch := omega) [e2, e3, ei, p1, p2, q1, q2, hab, las]); done))) | ((with_reducible apply stabA_fn); (focus ((conv => lhs; simp (disch := omega) [e2, e3, ei, p1, p2, q1, q2, hab, las]); done))) | ((with_reducible apply stab_do); (focus (simp (disch := omega) [e2, e3, ei, p1, p2, q1, q2, hab, las]; done))) | (simp (decide := true) only [sn9, sqW_nrm, sqW_exit, sqW_ret, inBlk_nrm, inBlk_ret, inBlk_same, inBlk_exit, if_true, if_false, retW_nrm, retW_ret]) | (with_reducible refine n9_18_w _ _ _ ?_) | (with_reducible refine n9_36_w _ _ _ ?_) | (with_reducible refine n9_54_w _ _ _ ?_) | (with_reducible refine n9_71_w _ _ _ ?_))
      all_goals
        refine .inr ⟨by simp, ?_⟩
        repeat' (first | ((with_reducible apply evs_of); (focus ((conv => lhs; simp (disch := omega) [e2, e3, ei]); done)); try dsimp only) | ((with_reducible apply cndW_T); (focus (simp (disch := omega) [e2, e3, ei] <;> omega))) | ((with_reducible apply cndW_F); (focus (simp (disch := omega) [e2, e3, ei] <;> omega))) | ((with_reducible apply stabP_i); (focus (simp (disch := omega) [e2, e3, ei]; done))) | (with_reducible apply bothP_i) | (with_reducible apply wL_i) | ((with_reducible apply stabA_i); (focus ((conv => lhs; simp (disch := omega) [e2, e3, ei]); done))) | ((with_reducible apply stabA_fn); (focus ((conv => lhs; simp (disch := omega) [e2, e3, ei]); done))) | ((with_reducible apply stab_do); (focus (simp (disch := omega) [e2, e3, ei]; done))) | (simp (decide := true) only [sn9, sqW_nrm, sqW_exit, sqW_ret, inBlk_nrm, inBlk_ret, inBlk_same, inBlk_exit, if_true, if_false, retW_nrm, retW_ret]) | (with_reducible refine n9_18_w _ _ _ ?_) | (with_reducible refine n9_36_w _ _ _ ?_) | (with_reducible refine n9_54_w _ _ _ ?_) | (with_reducible refine n9_71_w _ _ _ ?_))
        refine fin_b (decide_eq_false ?_).symm
        rintro rfl
        exact hab rfl
  rintro st ⟨env', t, rfl, e2, e3, ei, hj⟩
  repeat' (first | ((with_reducible apply evs_of); (focus ((conv => lhs; simp (disch := omega) [e2, e3, ei, las]); done)); try dsimp only) | ((with_reducible apply cndW_T); (focus (simp (disch := omega) [e2, e3, ei, las] <;> omega))) | ((with_reducible apply cndW_F); (focus (simp (disch := omega) [e2, e3, ei, las] <;> omega))) | ((with_reducible apply stabP_i); (focus (simp (disch := omega) [e2, e3, ei, las]; done))) | (with_reducible apply bothP_i) | (with_reducible apply wL_i) | ((with_reducible apply stabA_i); (focus ((conv => lhs; simp (disch := omega) [e2, e3, ei, las]); done))) | ((with_reducible apply stabA_fn); (focus ((conv => lhs; simp (disch := omega) [e2, e3, ei, las]); done))) | ((with_reducible apply stab_do); (focus (simp (disch := omega) [e2, e3, ei, las]; done))) | (simp (decide := true) only [sn9, sqW_nrm, sqW_exit, sqW_ret, inBlk_nrm, inBlk_ret, inBlk_same, inBlk_exit, if_true, if_false, retW_nrm, retW_ret]) | (with_reducible refine n9_18_w _ _ _ ?_) | (with_reducible refine n9_36_w _ _ _ ?_) | (with_reducible refine n9_54_w _ _ _ ?_) | (with_reducible refine n9_71_w _ _ _ ?_))
  refine ⟨by simp, ?_⟩
  repeat' (first | ((with_reducible apply evs_of); (focus ((conv => lhs; simp (disch := omega) [e2, e3, ei, las]); done)); try dsimp only) | ((with_reducible apply cndW_T); (focus (simp (disch := omega) [e2, e3, ei, las] <;> omega))) | ((with_reducible apply cndW_F); (focus (simp (disch := omega) [e2, e3, ei, las] <;> omega))) | ((with_reducible apply stabP_i); (focus (simp (disch := omega) [e2, e3, ei, las]; done))) | (with_reducible apply bothP_i) | (with_reducible apply wL_i) | ((with_reducible apply stabA_i); (focus ((conv => lhs; simp (disch := omega) [e2, e3, ei, las]); done))) | ((with_reducible apply stabA_fn); (focus ((conv => lhs; simp (disch := omega) [e2, e3, ei, las]); done))) | ((with_reducible apply stab_do); (focus (simp (disch := omega) [e2, e3, ei, las]; done))) | (simp (decide := true) only [sn9, sqW_nrm, sqW_exit, sqW_ret, inBlk_nrm, inBlk_ret, inBlk_same, inBlk_exit, if_true, if_false, retW_nrm, retW_ret]) | (with_reducible refine n9_18_w _ _ _ ?_) | (with_reducible refine n9_36_w _ _ _ ?_) | (with_reducible refine n9_54_w _ _ _ ?_) | (with_reducible refine n9_71_w _ _ _ ?_))
  have w_seats : a.seats = b.seats := List.ext_getElem? fun j => by
    by_cases hj' : j < a.seats.length
    · exact hj j hj'
    · rw [List.getElem?_eq_none (by omega), List.getElem?_eq_none (by omega)]
  clear hj
  -- invites
  refine loop_up a.invites.length (fun i st => ∃ env' t, st = ⟨env', h ++ (⟨eSt a at_ ap as_ ai aa ab, 0, .own⟩ :: ⟨eSt b bt bp bs bi ba bb, 0, .own⟩ :: t)⟩ ∧ env'.get 2 = .ptr h.length 0 [] tState ∧ env'.get 3 = .ptr (h.length + 1) 0 [] tState ∧ env'.get 8 = nat i ∧ ∀ j, j < i → a.invites[j]? = b.invites[j]?) ?_ ?_ ⟨_, _, rfl, by simp [*], by simp [*], by simp, fun j hj => absurd hj (by omega)⟩
  · rintro i st hi ⟨env', t, rfl, e2, e3, ei, hj⟩
    obtain ⟨p, p1, p2⟩ := ra.fi.idx (i := i) (by simpa using hi)
    obtain ⟨q, q1, q2⟩ := rb.fi.idx (i := i) (by simpa [← u7] using hi)
    simp only [List.getElem?_map, List.getElem?_eq_getElem hi, Option.map_some] at p2
    simp only [List.getElem?_map, List.getElem?_eq_getElem (show i < b.invites.length by omega), Option.map_some] at q2
    by_cases hab : a.invites[i] = b.invites[i]
    · repeat' (first | ((with_reducible apply evs_of); (focus ((conv => lhs; simp (disch := omega) [e2, e3, ei, p1, p2, q1, q2, hab, lai]); done)); try dsimp only) | ((with_reducible apply cndW_T); (focus (simp (disch := omega) [e2, e3, ei, p1, p2, q1, q2, hab, lai] <;> omega))) | ((with_reducible apply cndW_F); (focus (simp (disch := omega) [e2, e3, ei, p1, p2, q1, q2, hab, lai] <;> omega))) | ((with_reducible apply stabP_i); (focus (simp (disch := omega) [e2, e3, ei, p1, p2, q1, q2, hab, lai]; done))) | (with_reducible apply bothP_i) | (with_reducible apply wL_i) | ((with_reducible apply stabA_i); (focus ((conv => lhs; simp (disch := omega) [e2, e3, ei, p1, p2, q1, q2, hab, lai]); done))) | ((with_reducible apply stabA_fn); (focus ((conv => lhs; simp (disch := omega) [e2, e3, ei, p1, p2, q1, q2, hab, lai]); done))) | ((with_reducible apply stab_do); (focus (simp (disch := omega) [e2, e3, ei, p1, p2, q1, q2, hab, lai]; done))) | (simp (decide := true) only [sn9, sqW_nrm, sqW_exit, sqW_ret, inBlk_nrm, inBlk_ret, inBlk_same, inBlk_exit, if_true, if_false, retW_nrm, retW_ret]) | (with_reducible refine n9_18_w _ _ _ ?_) | (with_reducible refine n9_36_w _ _ _ ?_) | (with_reducible refine n9_54_w _ _ _ ?_) | (with_reducible refine n9_71_w _ _ _ ?_))
      all_goals
        refine .inl ⟨by simp, _, _, rfl, by simp [e2], by simp [e3], by simp, fun j hj' => ?_⟩
        by_cases hji : j = i
        · subst hji
          rw [List.getElem?_eq_getElem hi, List.getElem?_eq_getElem (by omega), hab]
        · exact hj j (by omega)
    · repeat' (first | ((with_reducible apply evs_of); (focus ((conv => lhs; simp (disch := omega) [e2, e3, ei, p1, p2, q1, q2, hab, lai]); done)); try dsimp only) | ((with_reducible apply cndW_T); (focus (simp (disch := omega) [e2, e3, ei, p1, p2, q1, q2, hab, lai] <;> omega))) | ((with_reducible apply cndW_F); (focus (simp (disch := omega) [e2, e3, ei, p1, p2, q1, q2, hab, lai] <;> omega))) | ((with_reducible apply stabP_i); (focus (simp (disch := omega) [e2, e3, ei, p1, p2, q1, q2, hab, lai]; done))) | (with_reducible apply bothP_i) | (with_reducible apply wL_i) | ((with_reducible apply stabA_i); (focus ((conv => lhs; simp (disch := omega) [e2, e3, ei, p1, p2, q1, q2, hab, lai]); done))) | ((with_reducible apply stabA_fn); (focus ((conv => lhs; simp (disch := omega) [e2, e3, ei, p1, p2, q1, q2, hab, lai]); done))) | ((with_reducible apply stab_do); (focus (simp (disch := omega) [e2, e3, ei, p1, p2, q1, q2, hab, lai]; done))) | (simp (decide := true) only [sn9, sqW_nrm, sqW_exit, sqW_ret, inBlk_nrm, inBlk_ret, inBlk_same, inBlk_exit, if_true, if_false, retW_nrm, retW_ret]) | (with_reducible refine n9_18_w _ _ _ ?_) | (with_reducible refine n9_36_w _ _ _ ?_) | (with_reducible refine n9_54_w _ _ _ ?_) | (with_reducible refine n9_71_w _ _ _ ?_))
      all_goals
        refine .inr ⟨by simp, ?_⟩
        repeat' (first | ((with_reducible apply evs_of); (focus ((conv => lhs; simp (disch := omega) [e2, e3, ei]); done)); try dsimp only) | ((with_reducible apply cndW_T); (focus (simp (disch := omega) [e2, e3, ei] <;> omega))) | ((with_reducible apply cndW_F); (focus (simp (disch := omega) [e2, e3, ei] <;> omega))) | ((with_reducible apply stabP_i); (focus (simp (disch := omega) [e2, e3, ei]; done))) | (with_reducible apply bothP_i) | (with_reducible apply wL_i) | ((with_reducible apply stabA_i); (focus ((conv => lhs; simp (disch := omega) [e2, e3, ei]); done))) | ((with_reducible apply stabA_fn); (focus ((conv => lhs; simp (disch := omega) [e2, e3, ei]); done))) | ((with_reducible apply stab_do); (focus (simp (disch := omega) [e2, e3, ei]; done))) | (simp (decide := true) only [sn9, sqW_nrm, sqW_exit, sqW_ret, inBlk_nrm, inBlk_ret, inBlk_same, inBlk_exit, if_true, if_false, retW_nrm, retW_ret]) | (with_reducible refine n9_18_w _ _ _ ?_) | (with_reducible refine n9_36_w _ _ _ ?_) | (with_reducible refine n9_54_w _ _ _ ?_) | (with_reducible refine n9_71_w _ _ _ ?_))
        refine fin_b (decide_eq_false ?_).symm
        rintro rfl
        exact hab rfl
  rintro st ⟨env', t, rfl, e2, e3, ei, hj⟩
  repeat' (first | ((with_reducible apply evs_of); (focus ((conv => lhs; simp (disch := omega) [e2, e3, ei, lai]); done)); try dsimp only) | ((with_reducible apply cndW_T); (focus (simp (disch := omega) [e2, e3, ei, lai] <;> omega))) | ((with_reducible apply cndW_F); (focus (simp (disch := omega) [e2, e3, ei, lai] <;> omega))) | ((with_reducible apply stabP_i); (focus (simp (disch := omega) [e2, e3, ei, lai]; done))) | (with_reducible apply bothP_i) | (with_reducible apply wL_i) | ((with_reducible apply stabA_i); (focus ((conv => lhs; simp (disch := omega) [e2, e3, ei, lai]); done))) | ((with_reducible apply stabA_fn); (focus ((conv => lhs; simp (disch := omega) [e2, e3, ei, lai]); done))) | ((with_reducible apply stab_do); (focus (simp (disch := omega) [e2, e3, ei, lai]; done))) | (simp (decide := true) only [sn9, sqW_nrm, sqW_exit, sqW_ret, inBlk_nrm, inBlk_ret, inBlk_same, inBlk_exit, if_true, if_false, retW_nrm, retW_ret]) | (with_reducible refine n9_18_w _ _ _ ?_) | (with_reducible refine n9_36_w _ _ _ ?_) | (with_reducible refine n9_54_w _ _ _ ?_) | (with_reducible refine n9_71_w _ _ _ ?_))
  refine ⟨by simp, ?_⟩
  repeat' (first | ((with_reducible apply evs_of); (focus ((conv => lhs; simp (disch := omega) [e2, e3, ei, lai]); done)); try dsimp only) | ((with_reducible apply cndW_T); (focus (simp (disch := omega) [e2, e3, ei, lai] <;> omega))) | ((with_reducible apply cndW_F); (focus (simp (disch := omega) [e2, e3, ei, lai] <;> omega))) | ((with_reducible apply stabP_i); (focus (simp (disch := omega) [e2, e3, ei, lai]; done))) | (with_reducible apply bothP_i) | (with_reducible apply wL_i) | ((with_reducible apply stabA_i); (focus ((conv => lhs; simp (disch := omega) [e2, e3, ei, lai]); done))) | ((with_reducible apply stabA_fn); (focus ((conv => lhs; simp (disch := omega) [e2, e3, ei, lai]); done))) | ((with_reducible apply stab_do); (focus (simp (disch := omega) [e2, e3, ei, lai]; done))) | (simp (decide := true) only [sn9, sqW_nrm, sqW_exit, sqW_ret, inBlk_nrm, inBlk_ret, inBlk_same, inBlk_exit, if_true, if_false, retW_nrm, retW_ret]) | (with_reducible refine n9_18_w _ _ _ ?_) | (with_reducible refine n9_36_w _ _ _ ?_) | (with_reducible refine n9_54_w _ _ _ ?_) | (with_reducible refine n9_71_w _ _ _ ?_))
  have w_invites : a.invites = b.invites := List.ext_getElem? fun j => by
    by_cases hj' : j < a.invites.length
    · exact hj j hj'
    · rw [List.getElem?_eq_none (by omega), List.getElem?_eq_none (by omega)]
  clear hj
  -- asks
  refine loop_up a.asks.length (fun i st => ∃ env' t, st = ⟨env', h ++ (⟨eSt a at_ ap as_ ai aa ab, 0, .own⟩ :: ⟨eSt b bt bp bs bi ba bb, 0, .own⟩ :: t)⟩ ∧ env'.get 2 = .ptr h.length 0 [] tState ∧ env'.get 3 = .ptr (h.length + 1) 0 [] tState ∧ env'.get 11 = nat i ∧ ∀ j, j < i → a.asks[j]? = b.asks[j]?) ?_ ?_ ⟨_, _, rfl, by simp [*], by simp [*], by simp, fun j hj => absurd hj (by omega)⟩
  · rintro i st hi ⟨env', t, rfl, e2, e3, ei, hj⟩
    obtain ⟨p, p1, p2⟩ := ra.fa.idx (i := i) (by simpa using hi)
    obtain ⟨q, q1, q2⟩ := rb.fa.idx (i := i) (by simpa [← u8] using hi)
    simp only [List.getElem?_map, List.getElem?_eq_getElem hi, Option.map_some] at p2
    simp only [List.getElem?_map, List.getElem?_eq_getElem (show i < b.asks.length by omega), Option.map_some] at q2
    by_cases hab : a.asks[i] = b.asks[i]
    · repeat' (first | ((with_reducible apply evs_of); (focus ((conv => lhs; simp (disch := omega) [e2, e3, ei, p1, p2, q1, q2, hab, laa]); done)); try dsimp only) | ((with_reducible apply cndW_T); (focus (simp (disch := omega) [e2, e3, ei, p1, p2, q1, q2, hab, laa] <;> omega))) | ((with_reducible apply cndW_F); (focus (simp (disch := omega) [e2, e3, ei, p1, p2, q1, q2, hab, laa] <;> omega))) | ((with_reducible apply stabP_i); (focus (simp (disch := omega) [e2, e3, ei, p1, p2, q1, q2, hab, laa]; done))) | (with_reducible apply bothP_i) | (with_reducible apply wL_i) | ((with_reducible apply stabA_i); (focus ((conv => lhs; simp (disch := omega) [e2, e3, ei, p1, p2, q1, q2, hab, laa]); done))) | ((with_reducible apply stabA_fn); (focus ((conv => lhs; simp (disch := omega) [e2, e3, ei, p1, p2, q1, q2, hab, laa]); done))) | ((with_reducible apply stab_do); (focus (simp (disch := omega) [e2, e3, ei, p1, p2, q1, q2, hab, laa]; done))) | (simp (decide := true) only [sn9, sqW_nrm, sqW_exit, sqW_ret, inBlk_nrm, inBlk_ret, inBlk_same, inBlk_exit, if_true, if_false, retW_nrm, retW_ret]) | (with_reducible refine n9_18_w _ _ _ ?_) | (with_reducible refine n9_36_w _ _ _ ?_) | (with_reducible refine n9_54_w _ _ _ ?_) | (with_reducible refine n9_71_w _ _ _ ?_))
      all_goals
        refine .inl ⟨by simp, _, _, rfl, by simp [e2], by simp [e3], by simp, fun j hj' => ?_⟩
        by_cases hji : j = i
        · subst hji
          rw [List.getElem?_eq_getElem hi, List.getElem?_eq_getElem (by omega), hab]
        · exact hj j (by omega)
    · repeat' (first | ((with_reducible apply evs_of); (focus ((conv => lhs; simp (disch := omega) [e2, e3, ei, p1, p2, q1, q2, hab, laa]); done)); try dsimp only) | ((with_reducible apply cndW_T); (focus (simp (disch := omega) [e2, e3, ei, p1, p2, q1, q2, hab, laa] <;> omega))) | ((with_reducible apply cndW_F); (focus (simp (disch := omega) [e2, e3, ei, p1, p2, q1, q2, hab, laa] <;> omega))) | ((with_reducible apply stabP_i); (focus (simp (disch := omega) [e2, e3, ei, p1, p2, q1, q2, hab, laa]; done))) | (with_reducible apply bothP_i) | (with_reducible apply wL_i) | ((with_reducible apply stabA_i); (focus ((conv => lhs; simp (disch := omega) [e2, e3, ei, p1, p2, q1, q2, hab, laa]); done))) | ((with_reducible apply stabA_fn); (focus ((conv => lhs; simp (disch := omega) [e2, e3, ei, p1, p2, q1, q2, hab, laa]); done))) | ((with_reducible apply stab_do); (focus (simp (disch := omega) [e2, e3, ei, p1, p2, q1, q2, hab, laa]; done))) | (simp (decide := true) only [sn9, sqW_nrm, sqW_exit, sqW_ret, inBlk_nrm, inBlk_ret, inBlk_same, inBlk_exit, if_true, if_false, retW_nrm, retW_ret]) | (with_reducible refine n9_18_w _ _ _ ?_) | (with_reducible refine n9_36_w _ _ _ ?_) | (with_reducible refine n9_54_w _ _ _ ?_) | (with_reducible refine n9_71_w _ _ _ ?_))
      all_goals
        refine .inr ⟨by simp, ?_⟩
        repeat' (first | ((with_reducible apply evs_of); (focus ((conv => lhs; simp (disch := omega) [e2, e3, ei]); done)); try dsimp only) | ((with_reducible apply cndW_T); (focus (simp (disch := omega) [e2, e3, ei] <;> omega))) | ((with_reducible apply cndW_F); (focus (simp (disch := omega) [e2, e3, ei] <;> omega))) | ((with_reducible apply stabP_i); (focus (simp (disch := omega) [e2, e3, ei]; done))) | (with_reducible apply bothP_i) | (with_reducible apply wL_i) | ((with_reducible apply stabA_i); (focus ((conv => lhs; simp (disch := omega) [e2, e3, ei]); done))) | ((with_reducible apply stabA_fn); (focus ((conv => lhs; simp (disch := omega) [e2, e3, ei]); done))) | ((with_reducible apply stab_do); (focus (simp (disch := omega) [e2, e3, ei]; done))) | (simp (decide := true) only [sn9, sqW_nrm, sqW_exit, sqW_ret, inBlk_nrm, inBlk_ret, inBlk_same, inBlk_exit, if_true, if_false, retW_nrm, retW_ret]) | (with_reducible refine n9_18_w _ _ _ ?_) | (with_reducible refine n9_36_w _ _ _ ?_) | (with_reducible refine n9_54_w _ _ _ ?_) | (with_reducible refine n9_71_w _ _ _ ?_))
        refine fin_b (decide_eq_false ?_).symm
        rintro rfl
        exact hab rfl
  rintro st ⟨env', t, rfl, e2, e3, ei, hj⟩
  repeat' (first | ((with_reducible apply evs_of); (focus ((conv => lhs; simp (disch := omega) [e2, e3, ei, laa]); done)); try dsimp only) | ((with_reducible apply cndW_T); (focus (simp (disch := omega) [e2, e3, ei, laa] <;> omega))) | ((with_reducible apply cndW_F); (focus (simp (disch := omega) [e2, e3, ei, laa] <;> omega))) | ((with_reducible apply stabP_i); (focus (simp (disch := omega) [e2, e3, ei, laa]; done))) | (with_reducible apply bothP_i) | (with_reducible apply wL_i) | ((with_reducible apply stabA_i); (focus ((conv => lhs; simp (disch := omega) [e2, e3, ei, laa]); done))) | ((with_reducible apply stabA_fn); (focus ((conv => lhs; simp (disch := omega) [e2, e3, ei, laa]); done))) | ((with_reducible apply stab_do); (focus (simp (disch := omega) [e2, e3, ei, laa]; done))) | (simp (decide := true) only [sn9, sqW_nrm, sqW_exit, sqW_ret, inBlk_nrm, inBlk_ret, inBlk_same, inBlk_exit, if_true, if_false, retW_nrm, retW_ret]) | (with_reducible refine n9_18_w _ _ _ ?_) | (with_reducible refine n9_36_w _ _ _ ?_) | (with_reducible refine n9_54_w _ _ _ ?_) | (with_reducible refine n9_71_w _ _ _ ?_))
  refine ⟨by simp, ?_⟩
  repeat' (first | ((with_reducible apply evs_of); (focus ((conv => lhs; simp (disch := omega) [e2, e3, ei, laa]); done)); try dsimp only) | ((with_reducible apply cndW_T); (focus (simp (disch := omega) [e2, e3, ei, laa] <;> omega))) | ((with_reducible apply cndW_F); (focus (simp (disch := omega) [e2, e3, ei, laa] <;> omega))) | ((with_reducible apply stabP_i); (focus (simp (disch := omega) [e2, e3, ei, laa]; done))) | (with_reducible apply bothP_i) | (with_reducible apply wL_i) | ((with_reducible apply stabA_i); (focus ((conv => lhs; simp (disch := omega) [e2, e3, ei, laa]); done))) | ((with_reducible apply stabA_fn); (focus ((conv => lhs; simp (disch := omega) [e2, e3, ei, laa]); done))) | ((with_reducible apply stab_do); (focus (simp (disch := omega) [e2, e3, ei, laa]; done))) | (simp (decide := true) only [sn9, sqW_nrm, sqW_exit, sqW_ret, inBlk_nrm, inBlk_ret, inBlk_same, inBlk_exit, if_true, if_false, retW_nrm, retW_ret]) | (with_reducible refine n9_18_w _ _ _ ?_) | (with_reducible refine n9_36_w _ _ _ ?_) | (with_reducible refine n9_54_w _ _ _ ?_) | (with_reducible refine n9_71_w _ _ _ ?_))
  have w_asks : a.asks = b.asks := List.ext_getElem? fun j => by
    by_cases hj' : j < a.asks.length
    · exact hj j hj'
    · rw [List.getElem?_eq_none (by omega), List.getElem?_eq_none (by omega)]
  clear hj
  -- bans
  refine loop_up a.bans.length (fun i st => ∃ env' t, st = ⟨env', h ++ (⟨eSt a at_ ap as_ ai aa ab, 0, .own⟩ :: ⟨eSt b bt bp bs bi ba bb, 0, .own⟩ :: t)⟩ ∧ env'.get 2 = .ptr h.length 0 [] tState ∧ env'.get 3 = .ptr (h.length + 1) 0 [] tState ∧ env'.get 12 = nat i ∧ ∀ j, j < i → a.bans[j]? = b.bans[j]?) ?_ ?_ ⟨_, _, rfl, by simp [*], by simp [*], by simp, fun j hj => absurd hj (by omega)⟩
  · rintro i st hi ⟨env', t, rfl, e2, e3, ei, hj⟩
    obtain ⟨p, p1, p2⟩ := ra.fb.idx (i := i) (by simpa using hi)
    obtain ⟨q, q1, q2⟩ := rb.fb.idx (i := i) (by simpa [← hb] using hi)
    simp only [List.getElem?_map, List.getElem?_eq_getElem hi, Option.map_some] at p2
    simp only [List.getElem?_map, List.getElem?_eq_getElem (show i < b.bans.length by omega), Option.map_some] at q2
    by_cases hab : a.bans[i] = b.bans[i]
    · repeat' (first | ((with_reducible apply evs_of); (focus ((conv => lhs; simp (disch := omega) [e2, e3, ei, p1, p2, q1, q2, hab, lab]); done)); try dsimp only) | ((with_reducible apply cndW_T); (focus (simp (disch := omega) [e2, e3, ei, p1, p2, q1, q2, hab, lab] <;> omega))) | ((with_reducible apply cndW_F); (focus (simp (disch := omega) [e2, e3, ei, p1, p2, q1, q2, hab, lab] <;> omega))) | ((with_reducible apply stabP_i); (focus (simp (disch := omega) [e2, e3, ei, p1, p2, q1, q2, hab, lab]; done))) | (with_reducible apply bothP_i) | (with_reducible apply wL_i) | ((with_reducible apply stabA_i); (focus ((conv => lhs; simp (disch := omega) [e2, e3, ei, p1, p2, q1, q2, hab, lab]); done))) | ((with_reducible apply stabA_fn); (focus ((conv => lhs; simp (disch := omega) [e2, e3, ei, p1, p2, q1, q2, hab, lab]); done))) | ((with_reducible apply stab_do); (focus (simp (disch := omega) [e2, e3, ei, p1, p2, q1, q2, hab, lab]; done))) | (simp (decide := true) only [sn9, sqW_nrm, sqW_exit, sqW_ret, inBlk_nrm, inBlk_ret, inBlk_same, inBlk_exit, if_true, if_false, retW_nrm, retW_ret]) | (with_reducible refine n9_18_w _ _ _ ?_) | (with_reducible refine n9_36_w _ _ _ ?_) | (with_reducible refine n9_54_w _ _ _ ?_) | (with_reducible refine n9_71_w _ _ _ ?_))
      all_goals
        refine .inl ⟨by simp, _, _, rfl, by simp [e2], by simp [e3], by simp, fun j hj' => ?_⟩
        by_cases hji : j = i
        · subst hji
          rw [List.getElem?_eq_getElem hi, List.getElem?_eq_getElem (by omega), hab]
        · exact hj j (by omega)
    · repeat' (first | ((with_reducible apply evs_of); (focus ((conv => lhs; simp (disch := omega) [e2, e3, ei, p1, p2, q1, q2, hab, lab]); done)); try dsimp only) | ((with_reducible apply cndW_T); (focus (simp (disch := omega) [e2, e3, ei, p1, p2, q1, q2, hab, lab] <;> omega))) | ((with_reducible apply cndW_F); (focus (simp (disch := omega) [e2, e3, ei, p1, p2, q1, q2, hab, lab] <;> omega))) | ((with_reducible apply stabP_i); (focus (simp (disch := omega) [e2, e3, ei, p1, p2, q1, q2, hab, lab]; done))) | (with_reducible apply bothP_i) | (with_reducible apply wL_i) | ((with_reducible apply stabA_i); (focus ((conv => lhs; simp (disch := omega) [e2, e3, ei, p1, p2, q1, q2, hab, lab]); done))) | ((with_reducible apply stabA_fn); (focus ((conv => lhs; simp (disch := omega) [e2, e3, ei, p1, p2, q1, q2, hab, lab]); done))) | ((with_reducible apply stab_do); (focus (simp (disch := omega) [e2, e3, ei, p1, p2, q1, q2, hab, lab]; done))) | (simp (decide := true) only [sn9, sqW_nrm, sqW_exit, sqW_ret, inBlk_nrm, inBlk_ret, inBlk_same, inBlk_exit, if_true, if_false, retW_nrm, retW_ret]) | (with_reducible refine n9_18_w _ _ _ ?_) | (with_reducible refine n9_36_w _ _ _ ?_) | (with_reducible refine n9_54_w _ _ _ ?_) | (with_reducible refine n9_71_w _ _ _ ?_))
      all_goals
        refine .inr ⟨by simp, ?_⟩
        repeat' (first | ((with_reducible apply evs_of); (focus ((conv => lhs; simp (disch := omega) [e2, e3, ei]); done)); try dsimp only) | ((with_reducible apply cndW_T); (focus (simp (disch := omega) [e2, e3, ei] <;> omega))) | ((with_reducible apply cndW_F); (focus (simp (disch := omega) [e2, e3, ei] <;> omega))) | ((with_reducible apply stabP_i); (focus (simp (disch := omega) [e2, e3, ei]; done))) | (with_reducible apply bothP_i) | (with_reducible apply wL_i) | ((with_reducible apply stabA_i); (focus ((conv => lhs; simp (disch := omega) [e2, e3, ei]); done))) | ((with_reducible apply stabA_fn); (focus ((conv => lhs; simp (disch := omega) [e2, e3, ei]); done))) | ((with_reducible apply stab_do); (focus (simp (disch := omega) [e2, e3, ei]; done))) | (simp (decide := true) only [sn9, sqW_nrm, sqW_exit, sqW_ret, inBlk_nrm, inBlk_ret, inBlk_same, inBlk_exit, if_true, if_false, retW_nrm, retW_ret]) | (with_reducible refine n9_18_w _ _ _ ?_) | (with_reducible refine n9_36_w _ _ _ ?_) | (with_reducible refine n9_54_w _ _ _ ?_) | (with_reducible refine n9_71_w _ _ _ ?_))
        refine fin_b (decide_eq_false ?_).symm
        rintro rfl
        exact hab rfl
  rintro st ⟨env', t, rfl, e2, e3, ei, hj⟩
  repeat' (first | ((with_reducible apply evs_of); (focus ((conv => lhs; simp (disch := omega) [e2, e3, ei, lab]); done)); try dsimp only) | ((with_reducible apply cndW_T); (focus (simp (disch := omega) [e2, e3, ei, lab] <;> omega))) | ((with_reducible apply cndW_F); (focus (simp (disch := omega) [e2, e3, ei, lab] <;> omega))) | ((with_reducible apply stabP_i); (focus (simp (disch := omega) [e2, e3, ei, lab]; done))) | (with_reducible apply bothP_i) | (with_reducible apply wL_i) | ((with_reducible apply stabA_i); (focus ((conv => lhs; simp (disch := omega) [e2, e3, ei, lab]); done))) | ((with_reducible apply stabA_fn); (focus ((conv => lhs; simp (disch := omega) [e2, e3, ei, lab]); done))) | ((with_reducible apply stab_do); (focus (simp (disch := omega) [e2, e3, ei, lab]; done))) | (simp (decide := true) only [sn9, sqW_nrm, sqW_exit, sqW_ret, inBlk_nrm, inBlk_ret, inBlk_same, inBlk_exit, if_true, if_false, retW_nrm, retW_ret]) | (with_reducible refine n9_18_w _ _ _ ?_) | (with_reducible refine n9_36_w _ _ _ ?_) | (with_reducible refine n9_54_w _ _ _ ?_) | (with_reducible refine n9_71_w _ _ _ ?_))
  refine ⟨by simp, ?_⟩
  repeat' (first | ((with_reducible apply evs_of); (focus ((conv => lhs; simp (disch := omega) [e2, e3, ei, lab]); done)); try dsimp only) | ((with_reducible apply cndW_T); (focus (simp (disch := omega) [e2, e3, ei, lab] <;> omega))) | ((with_reducible apply cndW_F); (focus (simp (disch := omega) [e2, e3, ei, lab] <;> omega))) | ((with_reducible apply stabP_i); (focus (simp (disch := omega) [e2, e3, ei, lab]; done))) | (with_reducible apply bothP_i) | (with_reducible apply wL_i) | ((with_reducible apply stabA_i); (focus ((conv => lhs; simp (disch := omega) [e2, e3, ei, lab]); done))) | ((with_reducible apply stabA_fn); (focus ((conv => lhs; simp (disch := omega) [e2, e3, ei, lab]); done))) | ((with_reducible apply stab_do); (focus (simp (disch := omega) [e2, e3, ei, lab]; done))) | (simp (decide := true) only [sn9, sqW_nrm, sqW_exit, sqW_ret, inBlk_nrm, inBlk_ret, inBlk_same, inBlk_exit, if_true, if_false, retW_nrm, retW_ret]) | (with_reducible refine n9_18_w _ _ _ ?_) | (with_reducible refine n9_36_w _ _ _ ?_) | (with_reducible refine n9_54_w _ _ _ ?_) | (with_reducible refine n9_71_w _ _ _ ?_))
  have w_bans : a.bans = b.bans := List.ext_getElem? fun j => by
    by_cases hj' : j < a.bans.length
    · exact hj j hj'
    · rw [List.getElem?_eq_none (by omega), List.getElem?_eq_none (by omega)]
  clear hj
  refine fin_b (decide_eq_true ?_).symm
  cases a
  cases b
  simp_all

end Go.Vab

/- How the code of a function is read. Printed by wip/tools/gen2.py (own work). -/
namespace Go.Vab
open Go Go.Proofs
/-! vestry/vestryref18.SameAction -/
def cx11 : Ctx := ⟨fun _ _ _ => none, TT, 63, [5, 6, 7, 8, 9, 10, 11, 12, 13, 14, 15, 16, 17, 18, 19, 20, 21, 22, 23, 24, 25, 26, 27, 28, 29, 30, 31, 32, 33, 34, 35, 36, 37, 38, 39, 40, 41, 42, 43, 44, 45, 46, 47, 48, 49, 50, 51, 52, 53, 54, 55, 56, 57, 58, 59, 60, 61, 62]⟩
noncomputable def n11_0 : Code := bodyOf Try.f11
noncomputable def n11_1 : Code := cR n11_0
noncomputable def n11_2 : Code := cR n11_1
theorem n11_2_eq (Q : Ex × St → Prop) (s : St) : wC Try.prog cx11 n11_2 Q s = Q (.ret, s) := yE
theorem n11_1_eq (Q : Ex × St → Prop) (env : Env) (h : Heap) : wC Try.prog cx11 n11_1 Q ⟨env, h⟩ = (Evs (mFieldAddr tAction (env.get 2) 0) fun v0 => Evs (mLoad (.int .u32) v0 h) fun v1 => Evs (mFieldAddr tAction (env.get 3) 0) fun v2 => Evs (mLoad (.int .u32) v2 h) fun v3 => Evs (mBin .eql v1 v3) fun v4 => Evs (gv v4 true (mFieldAddr tAction (env.get 2) 1)) fun v6 => Evs (gv v4 true (mLoad (.int .u8) v6 h)) fun v7 => Evs (gv v4 true (mFieldAddr tAction (env.get 3) 1)) fun v8 => Evs (gv v4 true (mLoad (.int .u8) v8 h)) fun v9 => Evs (gv v4 true (mBin .eql v7 v9)) fun v10 => Evs (mPick v4 v10 (.bool false)) fun v11 => Evs (gv v11 true (mFieldAddr tAction (env.get 2) 2)) fun v13 => Evs (gv v11 true (mLoad tCipher v13 h)) fun v14 => Evs (gv v11 true (mFieldAddr tAction (env.get 3) 2)) fun v15 => Evs (gv v11 true (mLoad tCipher v15 h)) fun v16 => Evs (gv v11 true (mEq tCipher .eql v14 v16)) fun v17 => Evs (mPick v11 v17 (.bool false)) fun v18 => Evs (gv v18 true (mFieldAddr tAction (env.get 2) 3)) fun v20 => Evs (gv v18 true (mLoad (.arr 32 (.int .u8)) v20 h)) fun v21 => Evs (gv v18 true (mFieldAddr tAction (env.get 3) 3)) fun v22 => Evs (gv v18 true (mLoad (.arr 32 (.int .u8)) v22 h)) fun v23 => Evs (gv v18 true (mEq (.arr 32 (.int .u8)) .eql v21 v23)) fun v24 => Evs (mPick v18 v24 (.bool false)) fun v25 => Evs (gv v25 true (mFieldAddr tAction (env.get 2) 4)) fun v27 => Evs (gv v25 true (mLoad (.int .u8) v27 h)) fun v28 => Evs (gv v25 true (mFieldAddr tAction (env.get 3) 4)) fun v29 => Evs (gv v25 true (mLoad (.int .u8) v29 h)) fun v30 => Evs (gv v25 true (mBin .eql v28 v30)) fun v31 => Evs (mPick v25 v31 (.bool false)) fun v32 => Evs (gv v32 true (mFieldAddr tAction (env.get 2) 5)) fun v34 => Evs (gv v32 true (mLoad .cell v34 h)) fun v35 => Evs (gv v32 true (mStr v35 h)) fun v36 => Evs (gv v32 true (mFieldAddr tAction (env.get 3) 5)) fun v37 => Evs (gv v32 true (mLoad .cell v37 h)) fun v38 => Evs (gv v32 true (mStr v38 h)) fun v39 => Evs (gv v32 true (mBinT .eql v36 v39)) fun v40 => Evs (mPick v32 v40 (.bool false)) fun v41 => Evs (gv v41 true (mFieldAddr tAction (env.get 2) 6)) fun v43 => Evs (gv v41 true (mLoad tAccess v43 h)) fun v44 => Evs (gv v41 true (mFieldAddr tAction (env.get 3) 6)) fun v45 => Evs (gv v41 true (mLoad tAccess v45 h)) fun v46 => Evs (gv v41 true (mEq tAccess .eql v44 v46)) fun v47 => Evs (mPick v41 v47 (.bool false)) fun v48 => Evs (gv v48 true (mFieldAddr tAction (env.get 2) 7)) fun v50 => Evs (gv v48 true (mLoad .cell v50 h)) fun v51 => Evs (gv v48 true (mStr v51 h)) fun v52 => Evs (gv v48 true (mFieldAddr tAction (env.get 3) 7)) fun v53 => Evs (gv v48 true (mLoad .cell v53 h)) fun v54 => Evs (gv v48 true (mStr v54 h)) fun v55 => Evs (gv v48 true (mBinT .eql v52 v55)) fun v56 => Evs (mPick v48 v56 (.bool false)) fun v57 => wC Try.prog cx11 n11_2 Q ⟨(Env.put env 4 v57), h⟩) := (ySR 1 (cOps (cL n11_1)) (cR n11_1)).trans (by
  refine w0 ?_
  refine wP 5 fun v0 => ?_
  refine wP 6 fun v1 => ?_
  refine wP 7 fun v2 => ?_
  refine wP 8 fun v3 => ?_
  refine wP 9 fun v4 => ?_
  refine wT 10 v4 ?_
  refine wG 11 fun v6 => ?_
  refine wG 12 fun v7 => ?_
  refine wG 13 fun v8 => ?_
  refine wG 14 fun v9 => ?_
  refine wG 15 fun v10 => ?_
  refine wP 16 fun v11 => ?_
  refine wT 17 v11 ?_
  refine wG 18 fun v13 => ?_
  refine wG 19 fun v14 => ?_
  refine wG 20 fun v15 => ?_
  refine wG 21 fun v16 => ?_
  refine wG 22 fun v17 => ?_
  refine wP 23 fun v18 => ?_
  refine wT 24 v18 ?_
  refine wG 25 fun v20 => ?_
  refine wG 26 fun v21 => ?_
  refine wG 27 fun v22 => ?_
  refine wG 28 fun v23 => ?_
  refine wG 29 fun v24 => ?_
  refine wP 30 fun v25 => ?_
  refine wT 31 v25 ?_
  refine wG 32 fun v27 => ?_
  refine wG 33 fun v28 => ?_
  refine wG 34 fun v29 => ?_
  refine wG 35 fun v30 => ?_
  refine wG 36 fun v31 => ?_
  refine wP 37 fun v32 => ?_
  refine wT 38 v32 ?_
  refine wG 39 fun v34 => ?_
  refine wG 40 fun v35 => ?_
  refine wG 41 fun v36 => ?_
  refine wG 42 fun v37 => ?_
  refine wG 43 fun v38 => ?_
  refine wG 44 fun v39 => ?_
  refine wG 45 fun v40 => ?_
  refine wP 46 fun v41 => ?_
  refine wT 47 v41 ?_
  refine wG 48 fun v43 => ?_
  refine wG 49 fun v44 => ?_
  refine wG 50 fun v45 => ?_
  refine wG 51 fun v46 => ?_
  refine wG 52 fun v47 => ?_
  refine wP 53 fun v48 => ?_
  refine wT 54 v48 ?_
  refine wG 55 fun v50 => ?_
  refine wG 56 fun v51 => ?_
  refine wG 57 fun v52 => ?_
  refine wG 58 fun v53 => ?_
  refine wG 59 fun v54 => ?_
  refine wG 60 fun v55 => ?_
  refine wG 61 fun v56 => ?_
  refine wP 62 fun v57 => ?_
  refine wT 4 v57 ?_
  exact wE)
theorem n11_0_eq (Q : Ex × St → Prop) (env : Env) (h : Heap) : wC Try.prog cx11 n11_0 Q ⟨env, h⟩ = (Evs (mNew tAction (env.get 0) h) fun r0 => Evs (mNew tAction (env.get 1) r0.2) fun r1 => wC Try.prog cx11 n11_1 Q ⟨(Env.put (Env.put (Env.put env 2 r0.1) 3 r1.1) 4 (.bool false)), r1.2⟩) := (ySR 0 (cOps (cL n11_0)) (cR n11_0)).trans (by
  refine w0 ?_
  refine wH 2 fun r0 => ?_
  refine wH 3 fun r1 => ?_
  refine wT 4 (.bool false) ?_
  exact wE)
theorem fn11 : Try.prog.funcs[11]? = some Try.f11 := by kernel_rfl
theorem q11 {a0 a1 : AV} {h : Heap} {K : AV × Heap → Prop} (H : ∀ env : Env, env.get 0 = a0 → env.get 1 = a1 → wC Try.prog cx11 n11_0 (retW (fun s => (bnd (some (s.env.get 4)) fun v => bnd (some []) fun vs => some (v :: vs))) K) ⟨env, h⟩) : SpecQ Try.prog 11 [a0, a1] h K :=
  bodyW_sound (C := cx11) TT_ok mixed_ok fn11 (by kernel_rfl) (show _ = some n11_0 by kernel_rfl) (by kernel_rfl) (by kernel_rfl) (of_decide_eq_true (by kernel_rfl)) ((show wC Try.prog cx11 n11_0 (retW (fun s => resAll cx11 s Try.f11.results.toList) K) ⟨env0 cx11 [a0, a1], h⟩ = wC Try.prog cx11 n11_0 (retW (fun s => (bnd (some (s.env.get 4)) fun v => bnd (some []) fun vs => some (v :: vs))) K) ⟨[(0, a0), (1, a1), (2, .junk), (3, .junk), (4, .junk)], h⟩ by kernel_rfl).mpr (H [(0, a0), (1, a1), (2, .junk), (3, .junk), (4, .junk)] rfl rfl))
def sn11 := And.intro n11_2_eq (And.intro n11_1_eq (n11_0_eq))
-- draws: 
end Go.Vab

/-
  The document's SameAction, walked.
-/
namespace Go.Vab
open Go Go.Proofs

theorem c11 {h : Heap} {a b : Actn} {at_ ap bt bp : AV} (ra : ActR h a at_ ap) (rb : ActR h b bt bp) :
    SpecQ Try.prog 11 [eAct a at_ ap, eAct b bt bp] h fun r => r = (.bool (decide (a = b)), h) := by
  have ta := ra.cells
  have tb := rb.cells
  have s1 := fun l => (ra.t.app l).str
  have s2 := fun l => (ra.p.app l).str
  have s3 := fun l => (rb.t.app l).str
  have s4 := fun l => (rb.p.app l).str
  refine SpecQ.drop1 rfl (q11 fun env g0 g1 => ?_)
  repeat' (first | ((with_reducible apply evs_of); (focus ((conv => lhs; simp (disch := omega) [g0, g1, ta, tb, s1, s2, s3, s4]); done)); try dsimp only) | (simp (decide := true) only [sn11, sqW_nrm, sqW_exit, sqW_ret, inBlk_nrm, inBlk_ret, inBlk_same, inBlk_exit, if_true, if_false, retW_nrm, retW_ret]) | (with_reducible refine gv_split ?_ ?_ <;> (intro hb; try simp only [Bool.not_true, Bool.not_false] at hb) <;> try simp only [hb]))
  all_goals refine fin_b ?_
  all_goals (clear ra rb ta tb s1 s2 s3 s4; cases a; cases b; simp_all)

end Go.Vab

/- How the code of a function is read. Printed by wip/tools/gen2.py (own work). -/
namespace Go.Vab
open Go Go.Proofs
/-! bytes.Equal -/
def cx23 : Ctx := ⟨fun _ _ _ => none, TT, 10, [5, 6, 7, 8, 9]⟩
noncomputable def n23_0 : Code := bodyOf Try.f23
noncomputable def n23_1 : Code := cR n23_0
noncomputable def n23_2 : Code := cR n23_1
theorem n23_2_eq (Q : Ex × St → Prop) (s : St) : wC Try.prog cx23 n23_2 Q s = Q (.ret, s) := yE
theorem n23_1_eq (Q : Ex × St → Prop) (env : Env) (h : Heap) : wC Try.prog cx23 n23_1 Q ⟨env, h⟩ = (Evs (mStr (env.get 0) h) fun v1 => Evs (mStr (env.get 1) h) fun v3 => Evs (mBinT .eql v1 v3) fun v4 => wC Try.prog cx23 n23_2 Q ⟨(Env.put env 4 v4), h⟩) := (ySR 1 (cOps (cL n23_1)) (cR n23_1)).trans (by
  refine w0 ?_
  refine wT 5 (env.get 0) ?_
  refine wP 6 fun v1 => ?_
  refine wT 7 (env.get 1) ?_
  refine wP 8 fun v3 => ?_
  refine wP 9 fun v4 => ?_
  refine wT 4 v4 ?_
  exact wE)
theorem n23_0_eq (Q : Ex × St → Prop) (env : Env) (h : Heap) : wC Try.prog cx23 n23_0 Q ⟨env, h⟩ = ( wC Try.prog cx23 n23_1 Q ⟨(Env.put env 4 (.bool false)), h⟩) := (ySR 0 (cOps (cL n23_0)) (cR n23_0)).trans (by
  refine w0 ?_
  refine wT 4 (.bool false) ?_
  exact wE)
theorem fn23 : Try.prog.funcs[23]? = some Try.f23 := by kernel_rfl
theorem q23 {a0 a1 : AV} {h : Heap} {K : AV × Heap → Prop} (H : ∀ env : Env, env.get 0 = a0 → env.get 1 = a1 → wC Try.prog cx23 n23_0 (retW (fun s => (bnd (some (s.env.get 4)) fun v => bnd (some []) fun vs => some (v :: vs))) K) ⟨env, h⟩) : SpecQ Try.prog 23 [a0, a1] h K :=
  bodyW_sound (C := cx23) TT_ok mixed_ok fn23 (by kernel_rfl) (show _ = some n23_0 by kernel_rfl) (by kernel_rfl) (by kernel_rfl) (of_decide_eq_true (by kernel_rfl)) ((show wC Try.prog cx23 n23_0 (retW (fun s => resAll cx23 s Try.f23.results.toList) K) ⟨env0 cx23 [a0, a1], h⟩ = wC Try.prog cx23 n23_0 (retW (fun s => (bnd (some (s.env.get 4)) fun v => bnd (some []) fun vs => some (v :: vs))) K) ⟨[(0, a0), (1, a1), (2, .junk), (3, .junk), (4, .junk)], h⟩ by kernel_rfl).mpr (H [(0, a0), (1, a1), (2, .junk), (3, .junk), (4, .junk)] rfl rfl))
def sn23 := And.intro n23_2_eq (And.intro n23_1_eq (n23_0_eq))
-- draws: 
end Go.Vab

/-
  bytes.Equal, walked.
-/
namespace Go.Vab
open Go Go.Proofs

theorem c23 {h : Heap} {x y : AV} {a b : Bs} (hx : BytL h x a) (hy : BytL h y b) : SpecQ Try.prog 23 [x, y] h fun r => r = (.bool (decide (a = b)), h) := by
  have sx := hx.str
  have sy := hy.str
  refine SpecQ.drop1 rfl (q23 fun env g0 g1 => ?_)
  repeat' (first | ((with_reducible apply evs_of); (focus ((conv => lhs; simp (disch := omega) [g0, g1, sx, sy]); done)); try dsimp only) | (simp (decide := true) only [sn23, sqW_nrm, sqW_exit, sqW_ret, inBlk_nrm, inBlk_ret, inBlk_same, inBlk_exit, if_true, if_false, retW_nrm, retW_ret]))
  exact ⟨[], by simp [oneOrTuple]⟩

end Go.Vab

/- How the code of a function is read. Printed by wip/tools/gen2.py (own work). -/
namespace Go.Vab
open Go Go.Proofs
/-! vestry/forms.SameAction -/
def cx10 : Ctx := ⟨fun _ _ _ => none, TT, 59, [5, 6, 7, 8, 9, 10, 11, 12, 13, 14, 15, 16, 17, 18, 19, 20, 21, 22, 23, 24, 25, 26, 27, 28, 29, 30, 31, 32, 33, 34, 35, 36, 37, 38, 39, 40, 41, 42, 43, 44, 45, 46, 47, 48, 49, 50, 51, 52, 53, 54, 55, 56, 57, 58]⟩
noncomputable def n10_0 : Code := bodyOf Try.f10
noncomputable def n10_1 : Code := cR n10_0
noncomputable def n10_2 : Code := cR n10_1
theorem n10_2_eq (Q : Ex × St → Prop) (s : St) : wC Try.prog cx10 n10_2 Q s = Q (.ret, s) := yE
theorem n10_1_eq (Q : Ex × St → Prop) (env : Env) (h : Heap) : wC Try.prog cx10 n10_1 Q ⟨env, h⟩ = (Evs (mFieldAddr tAction (env.get 2) 0) fun v0 => Evs (mLoad (.int .u32) v0 h) fun v1 => Evs (mFieldAddr tAction (env.get 3) 0) fun v2 => Evs (mLoad (.int .u32) v2 h) fun v3 => Evs (mBin .eql v1 v3) fun v4 => Evs (gv v4 true (mFieldAddr tAction (env.get 2) 1)) fun v6 => Evs (gv v4 true (mLoad (.int .u8) v6 h)) fun v7 => Evs (gv v4 true (mFieldAddr tAction (env.get 3) 1)) fun v8 => Evs (gv v4 true (mLoad (.int .u8) v8 h)) fun v9 => Evs (gv v4 true (mBin .eql v7 v9)) fun v10 => Evs (mPick v4 v10 (.bool false)) fun v11 => Evs (gv v11 true (mFieldAddr tAction (env.get 2) 2)) fun v13 => Evs (gv v11 true (mLoad tCipher v13 h)) fun v14 => Evs (gv v11 true (mFieldAddr tAction (env.get 3) 2)) fun v15 => Evs (gv v11 true (mLoad tCipher v15 h)) fun v16 => Evs (gv v11 true (mEq tCipher .eql v14 v16)) fun v17 => Evs (mPick v11 v17 (.bool false)) fun v18 => Evs (gv v18 true (mFieldAddr tAction (env.get 2) 3)) fun v20 => Evs (gv v18 true (mLoad (.arr 32 (.int .u8)) v20 h)) fun v21 => Evs (gv v18 true (mFieldAddr tAction (env.get 3) 3)) fun v22 => Evs (gv v18 true (mLoad (.arr 32 (.int .u8)) v22 h)) fun v23 => Evs (gv v18 true (mEq (.arr 32 (.int .u8)) .eql v21 v23)) fun v24 => Evs (mPick v18 v24 (.bool false)) fun v25 => Evs (gv v25 true (mFieldAddr tAction (env.get 2) 4)) fun v27 => Evs (gv v25 true (mLoad (.int .u8) v27 h)) fun v28 => Evs (gv v25 true (mFieldAddr tAction (env.get 3) 4)) fun v29 => Evs (gv v25 true (mLoad (.int .u8) v29 h)) fun v30 => Evs (gv v25 true (mBin .eql v28 v30)) fun v31 => Evs (mPick v25 v31 (.bool false)) fun v32 => Evs (gv v32 true (mFieldAddr tAction (env.get 2) 5)) fun v34 => Evs (gv v32 true (mLoad .cell v34 h)) fun v35 => Evs (gv v32 true (mFieldAddr tAction (env.get 3) 5)) fun v36 => Evs (gv v32 true (mLoad .cell v36 h)) fun v37 => gW v32 true (SpecA Try.prog 23 [v35, v37] h) h fun r38 => Evs (mPick v32 r38.1 (.bool false)) fun v39 => Evs (gv v39 true (mFieldAddr tAction (env.get 2) 6)) fun v41 => Evs (gv v39 true (mLoad tAccess v41 r38.2)) fun v42 => Evs (gv v39 true (mFieldAddr tAction (env.get 3) 6)) fun v43 => Evs (gv v39 true (mLoad tAccess v43 r38.2)) fun v44 => Evs (gv v39 true (mEq tAccess .eql v42 v44)) fun v45 => Evs (mPick v39 v45 (.bool false)) fun v46 => Evs (gv v46 true (mFieldAddr tAction (env.get 2) 7)) fun v48 => Evs (gv v46 true (mLoad .cell v48 r38.2)) fun v49 => Evs (gv v46 true (mFieldAddr tAction (env.get 3) 7)) fun v50 => Evs (gv v46 true (mLoad .cell v50 r38.2)) fun v51 => gW v46 true (SpecA Try.prog 23 [v49, v51] r38.2) r38.2 fun r52 => Evs (mPick v46 r52.1 (.bool false)) fun v53 => wC Try.prog cx10 n10_2 Q ⟨(Env.put env 4 v53), r52.2⟩) := (ySR 1 (cOps (cL n10_1)) (cR n10_1)).trans (by
  refine w0 ?_
  refine wP 5 fun v0 => ?_
  refine wP 6 fun v1 => ?_
  refine wP 7 fun v2 => ?_
  refine wP 8 fun v3 => ?_
  refine wP 9 fun v4 => ?_
  refine wT 10 v4 ?_
  refine wG 11 fun v6 => ?_
  refine wG 12 fun v7 => ?_
  refine wG 13 fun v8 => ?_
  refine wG 14 fun v9 => ?_
  refine wG 15 fun v10 => ?_
  refine wP 16 fun v11 => ?_
  refine wT 17 v11 ?_
  refine wG 18 fun v13 => ?_
  refine wG 19 fun v14 => ?_
  refine wG 20 fun v15 => ?_
  refine wG 21 fun v16 => ?_
  refine wG 22 fun v17 => ?_
  refine wP 23 fun v18 => ?_
  refine wT 24 v18 ?_
  refine wG 25 fun v20 => ?_
  refine wG 26 fun v21 => ?_
  refine wG 27 fun v22 => ?_
  refine wG 28 fun v23 => ?_
  refine wG 29 fun v24 => ?_
  refine wP 30 fun v25 => ?_
  refine wT 31 v25 ?_
  refine wG 32 fun v27 => ?_
  refine wG 33 fun v28 => ?_
  refine wG 34 fun v29 => ?_
  refine wG 35 fun v30 => ?_
  refine wG 36 fun v31 => ?_
  refine wP 37 fun v32 => ?_
  refine wT 38 v32 ?_
  refine wG 39 fun v34 => ?_
  refine wG 40 fun v35 => ?_
  refine wG 41 fun v36 => ?_
  refine wG 42 fun v37 => ?_
  refine wH 43 fun r38 => ?_
  refine wP 44 fun v39 => ?_
  refine wT 45 v39 ?_
  refine wG 46 fun v41 => ?_
  refine wG 47 fun v42 => ?_
  refine wG 48 fun v43 => ?_
  refine wG 49 fun v44 => ?_
  refine wG 50 fun v45 => ?_
  refine wP 51 fun v46 => ?_
  refine wT 52 v46 ?_
  refine wG 53 fun v48 => ?_
  refine wG 54 fun v49 => ?_
  refine wG 55 fun v50 => ?_
  refine wG 56 fun v51 => ?_
  refine wH 57 fun r52 => ?_
  refine wP 58 fun v53 => ?_
  refine wT 4 v53 ?_
  exact wE)
theorem n10_0_eq (Q : Ex × St → Prop) (env : Env) (h : Heap) : wC Try.prog cx10 n10_0 Q ⟨env, h⟩ = (Evs (mNew tAction (env.get 0) h) fun r0 => Evs (mNew tAction (env.get 1) r0.2) fun r1 => wC Try.prog cx10 n10_1 Q ⟨(Env.put (Env.put (Env.put env 2 r0.1) 3 r1.1) 4 (.bool false)), r1.2⟩) := (ySR 0 (cOps (cL n10_0)) (cR n10_0)).trans (by
  refine w0 ?_
  refine wH 2 fun r0 => ?_
  refine wH 3 fun r1 => ?_
  refine wT 4 (.bool false) ?_
  exact wE)
theorem fn10 : Try.prog.funcs[10]? = some Try.f10 := by kernel_rfl
theorem q10 {a0 a1 : AV} {h : Heap} {K : AV × Heap → Prop} (H : ∀ env : Env, env.get 0 = a0 → env.get 1 = a1 → wC Try.prog cx10 n10_0 (retW (fun s => (bnd (some (s.env.get 4)) fun v => bnd (some []) fun vs => some (v :: vs))) K) ⟨env, h⟩) : SpecQ Try.prog 10 [a0, a1] h K :=
  bodyW_sound (C := cx10) TT_ok mixed_ok fn10 (by kernel_rfl) (show _ = some n10_0 by kernel_rfl) (by kernel_rfl) (by kernel_rfl) (of_decide_eq_true (by kernel_rfl)) ((show wC Try.prog cx10 n10_0 (retW (fun s => resAll cx10 s Try.f10.results.toList) K) ⟨env0 cx10 [a0, a1], h⟩ = wC Try.prog cx10 n10_0 (retW (fun s => (bnd (some (s.env.get 4)) fun v => bnd (some []) fun vs => some (v :: vs))) K) ⟨[(0, a0), (1, a1), (2, .junk), (3, .junk), (4, .junk)], h⟩ by kernel_rfl).mpr (H [(0, a0), (1, a1), (2, .junk), (3, .junk), (4, .junk)] rfl rfl))
def sn10 := And.intro n10_2_eq (And.intro n10_1_eq (n10_0_eq))
-- draws: 
end Go.Vab

/- How the code of a function is read. Printed by wip/tools/gen2.py (own work). -/
namespace Go.Vab
open Go Go.Proofs
/-! vestry/vestrylaw18.large -/
def cx6 : Ctx := ⟨fun _ _ _ => none, TT, 33, [4, 5, 6, 7, 8, 9, 10, 11, 12, 13, 14, 15, 16, 17, 18, 19, 20, 21, 22, 23, 24, 25, 26, 27, 28, 29, 30, 31, 32]⟩
noncomputable def n6_0 : Code := bodyOf Try.f6
noncomputable def n6_1 : Code := cR n6_0
noncomputable def n6_2 : Code := cR n6_1
noncomputable def n6_3 : Code := cR n6_2
theorem n6_3_eq (Q : Ex × St → Prop) (s : St) : wC Try.prog cx6 n6_3 Q s = Q (.ret, s) := yE
theorem n6_2_eq (Q : Ex × St → Prop) (env : Env) (h : Heap) : wC Try.prog cx6 n6_2 Q ⟨env, h⟩ = (Evs (mBin .gtr (env.get 3) (nat 400)) fun v1 => Evs (gv v1 false (mFieldAddr tState (env.get 1) 2)) fun v3 => Evs (gv v1 false (mLoad .cell v3 h)) fun v4 => Evs (gv v1 false (mLenS v4)) fun v5 => Evs (gv v1 false (mBin .gtr v5 (nat 5000))) fun v6 => Evs (mPick v1 (.bool true) v6) fun v7 => Evs (gv v7 false (mFieldAddr tState (env.get 1) 4)) fun v9 => Evs (gv v7 false (mLoad .cell v9 h)) fun v10 => Evs (gv v7 false (mLenS v10)) fun v11 => Evs (gv v7 false (mBin .gtr v11 (nat 5000))) fun v12 => Evs (mPick v7 (.bool true) v12) fun v13 => wC Try.prog cx6 n6_3 Q ⟨(Env.put env 2 v13), h⟩) := (ySR 2 (cOps (cL n6_2)) (cR n6_2)).trans (by
  refine w0 ?_
  refine wT 19 (env.get 3) ?_
  refine wP 20 fun v1 => ?_
  refine wT 21 v1 ?_
  refine wG 22 fun v3 => ?_
  refine wG 23 fun v4 => ?_
  refine wG 24 fun v5 => ?_
  refine wG 25 fun v6 => ?_
  refine wP 26 fun v7 => ?_
  refine wT 27 v7 ?_
  refine wG 28 fun v9 => ?_
  refine wG 29 fun v10 => ?_
  refine wG 30 fun v11 => ?_
  refine wG 31 fun v12 => ?_
  refine wP 32 fun v13 => ?_
  refine wT 2 v13 ?_
  exact wE)
theorem n6_1_eq (Q : Ex × St → Prop) (env : Env) (h : Heap) : wC Try.prog cx6 n6_1 Q ⟨env, h⟩ = (Evs (mFieldAddr tState (env.get 1) 5) fun v0 => Evs (mLoad .cell v0 h) fun v1 => Evs (mLenS v1) fun v2 => Evs (mFieldAddr tState (env.get 1) 6) fun v3 => Evs (mLoad .cell v3 h) fun v4 => Evs (mLenS v4) fun v5 => Evs (mBin .add v2 v5) fun v6 => Evs (mFieldAddr tState (env.get 1) 7) fun v7 => Evs (mLoad .cell v7 h) fun v8 => Evs (mLenS v8) fun v9 => Evs (mBin .add v6 v9) fun v10 => Evs (mFieldAddr tState (env.get 1) 8) fun v11 => Evs (mLoad .cell v11 h) fun v12 => Evs (mLenS v12) fun v13 => Evs (mBin .add v10 v13) fun v14 => wC Try.prog cx6 n6_2 Q ⟨(Env.put env 3 v14), h⟩) := (ySR 1 (cOps (cL n6_1)) (cR n6_1)).trans (by
  refine w0 ?_
  refine wP 4 fun v0 => ?_
  refine wP 5 fun v1 => ?_
  refine wP 6 fun v2 => ?_
  refine wP 7 fun v3 => ?_
  refine wP 8 fun v4 => ?_
  refine wP 9 fun v5 => ?_
  refine wP 10 fun v6 => ?_
  refine wP 11 fun v7 => ?_
  refine wP 12 fun v8 => ?_
  refine wP 13 fun v9 => ?_
  refine wP 14 fun v10 => ?_
  refine wP 15 fun v11 => ?_
  refine wP 16 fun v12 => ?_
  refine wP 17 fun v13 => ?_
  refine wP 18 fun v14 => ?_
  refine wT 3 v14 ?_
  exact wE)
theorem n6_0_eq (Q : Ex × St → Prop) (env : Env) (h : Heap) : wC Try.prog cx6 n6_0 Q ⟨env, h⟩ = (Evs (mNew tState (env.get 0) h) fun r0 => wC Try.prog cx6 n6_1 Q ⟨(Env.put (Env.put env 1 r0.1) 2 (.bool false)), r0.2⟩) := (ySR 0 (cOps (cL n6_0)) (cR n6_0)).trans (by
  refine w0 ?_
  refine wH 1 fun r0 => ?_
  refine wT 2 (.bool false) ?_
  exact wE)
theorem fn6 : Try.prog.funcs[6]? = some Try.f6 := by kernel_rfl
theorem q6 {a0 : AV} {h : Heap} {K : AV × Heap → Prop} (H : ∀ env : Env, env.get 0 = a0 → wC Try.prog cx6 n6_0 (retW (fun s => (bnd (some (s.env.get 2)) fun v => bnd (some []) fun vs => some (v :: vs))) K) ⟨env, h⟩) : SpecQ Try.prog 6 [a0] h K :=
  bodyW_sound (C := cx6) TT_ok mixed_ok fn6 (by kernel_rfl) (show _ = some n6_0 by kernel_rfl) (by kernel_rfl) (by kernel_rfl) (of_decide_eq_true (by kernel_rfl)) ((show wC Try.prog cx6 n6_0 (retW (fun s => resAll cx6 s Try.f6.results.toList) K) ⟨env0 cx6 [a0], h⟩ = wC Try.prog cx6 n6_0 (retW (fun s => (bnd (some (s.env.get 2)) fun v => bnd (some []) fun vs => some (v :: vs))) K) ⟨[(0, a0), (1, .junk), (2, .junk), (3, .junk)], h⟩ by kernel_rfl).mpr (H [(0, a0), (1, .junk), (2, .junk), (3, .junk)] rfl))
def sn6 := And.intro n6_3_eq (And.intro n6_2_eq (And.intro n6_1_eq (n6_0_eq)))
-- draws: 
end Go.Vab
