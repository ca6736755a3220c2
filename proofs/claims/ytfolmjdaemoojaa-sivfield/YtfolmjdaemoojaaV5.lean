/-
  The document's block under a key.
-/
import Derived.Test.YtfolmjdaemoojaaV4
import Derived.Test.YtfolmjdaemoojaaV3
set_option linter.all false
set_option linter.unusedSectionVars false
namespace Go.Vab
open Go Go.Proofs

def rowsL : List (List Nat) := [[2, 3, 1, 1], [1, 2, 3, 1], [1, 1, 2, 3], [3, 1, 1, 2]]
def rowsF (p k : Nat) : BitVec 8 := BitVec.ofNat 8 ((rowsL.getD p []).getD k 0)

theorem rows_fill0 : fillRow (.arr 4 (.int .u8)) (arr 4 fun _ => 0#8) [(0, (u8 2#8)), (1, (u8 3#8)), (2, (u8 1#8)), (3, (u8 1#8))] = some (arr 4 (rowsF 0)) := by kernel_rfl
theorem rows_fill1 : fillRow (.arr 4 (.int .u8)) (arr 4 fun _ => 0#8) [(0, (u8 1#8)), (1, (u8 2#8)), (2, (u8 3#8)), (3, (u8 1#8))] = some (arr 4 (rowsF 1)) := by kernel_rfl
theorem rows_fill2 : fillRow (.arr 4 (.int .u8)) (arr 4 fun _ => 0#8) [(0, (u8 1#8)), (1, (u8 1#8)), (2, (u8 2#8)), (3, (u8 3#8))] = some (arr 4 (rowsF 2)) := by kernel_rfl
theorem rows_fill3 : fillRow (.arr 4 (.int .u8)) (arr 4 fun _ => 0#8) [(0, (u8 3#8)), (1, (u8 1#8)), (2, (u8 1#8)), (3, (u8 2#8))] = some (arr 4 (rowsF 3)) := by kernel_rfl
theorem rows_fill : fillRow (.arr 4 (.arr 4 (.int .u8))) (mat 4 4 fun _ _ => 0#8) [(0, arr 4 (rowsF 0)), (1, arr 4 (rowsF 1)), (2, arr 4 (rowsF 2)), (3, arr 4 (rowsF 3))] = some (mat 4 4 rowsF) := by kernel_rfl

/-- The column's product is what the program reckons. -/
theorem mul_three (x : BitVec 8) : mulB 3#8 x = mulB x 2#8 ^^^ x := by
  have := mul_addL x 2#8 1#8
  rw [show (2#8 ^^^ 1#8 : BitVec 8) = 3#8 from rfl] at this
  simp only at this
  rw [this, mul_comm 2#8 x, mul_comm 1#8 x, mul_one]
theorem one_mul (x : BitVec 8) : mulB 1#8 x = x := by rw [mul_comm, mul_one]
theorem two_mul (x : BitVec 8) : mulB 2#8 x = mulB x 2#8 := mul_comm _ _
theorem mul2_add (x y : BitVec 8) : mulB (x ^^^ y) 2#8 = mulB x 2#8 ^^^ mulB y 2#8 := mul_addL 2#8 x y

theorem bits6 (f g : Bool → Bool → Bool → Bool → Bool → Bool → Bool) (h : (∀ a b d e x y, f a b d e x y = g a b d e x y)) (a b d e x y : BitVec 8) (l r : BitVec 8) (hl : ∀ i, l.getLsbD i = f (a.getLsbD i) (b.getLsbD i) (d.getLsbD i) (e.getLsbD i) (x.getLsbD i) (y.getLsbD i))
    (hr : ∀ i, r.getLsbD i = g (a.getLsbD i) (b.getLsbD i) (d.getLsbD i) (e.getLsbD i) (x.getLsbD i) (y.getLsbD i)) : l = r :=
  BitVec.eq_of_getLsbD_eq fun i _ => by rw [hl, hr, h]

theorem col_xor (a b d e x y : BitVec 8) : x ^^^ (y ^^^ b) ^^^ d ^^^ e = a ^^^ (a ^^^ b ^^^ d ^^^ e) ^^^ (x ^^^ y) :=
  bits6 (fun _ b d e x y => ((x ^^ (y ^^ b)) ^^ d) ^^ e) (fun a b d e x y => (a ^^ (((a ^^ b) ^^ d) ^^ e)) ^^ (x ^^ y)) (by decide) a b d e x y _ _ (fun i => by simp only [BitVec.getLsbD_xor]) (fun i => by simp only [BitVec.getLsbD_xor])

def colF (c : Nat → BitVec 8) (q p : Nat) : Nat → BitVec 8
  | 0 => 0#8
  | k + 1 => colF c q p k ^^^ mulB (rowsF p k) (c (4 * q + k))

theorem col_eq (c : Nat → BitVec 8) (q p : Nat) (hp : p < 4) : colF c q p 4 = mixC c (4 * q + p) := by
  have e1 : (4 * q + p) / 4 = q := by omega
  have e2 : (4 * q + p) % 4 = p := by omega
  unfold mixC
  rw [e1, e2]
  simp only [colF, Nat.add_zero]
  match p, hp with
  | 0, _ =>
    show 0#8 ^^^ mulB 2#8 (c (4 * q)) ^^^ mulB 3#8 (c (4 * q + 1)) ^^^ mulB 1#8 (c (4 * q + 2)) ^^^ mulB 1#8 (c (4 * q + 3)) = c (4 * q) ^^^ (c (4 * q) ^^^ c (4 * q + 1) ^^^ c (4 * q + 2) ^^^ c (4 * q + 3)) ^^^ mulB (c (4 * q) ^^^ c (4 * q + 1)) 2#8
    rw [two_mul, mul_three, one_mul, one_mul, mul2_add, BitVec.zero_xor]
    exact col_xor _ _ _ _ _ _
  | 1, _ =>
    show 0#8 ^^^ mulB 1#8 (c (4 * q)) ^^^ mulB 2#8 (c (4 * q + 1)) ^^^ mulB 3#8 (c (4 * q + 2)) ^^^ mulB 1#8 (c (4 * q + 3)) = c (4 * q + 1) ^^^ (c (4 * q) ^^^ c (4 * q + 1) ^^^ c (4 * q + 2) ^^^ c (4 * q + 3)) ^^^ mulB (c (4 * q + 1) ^^^ c (4 * q + 2)) 2#8
    rw [two_mul, mul_three, one_mul, one_mul, mul2_add, BitVec.zero_xor]
    exact bits6 (fun a _ d e x y => ((a ^^ x) ^^ (y ^^ d)) ^^ e) (fun a b d e x y => (b ^^ (((a ^^ b) ^^ d) ^^ e)) ^^ (x ^^ y)) (by decide) (c (4 * q)) (c (4 * q + 1)) (c (4 * q + 2)) (c (4 * q + 3)) (mulB (c (4 * q + 1)) 2#8) (mulB (c (4 * q + 2)) 2#8) _ _ (fun i => by simp only [BitVec.getLsbD_xor]) (fun i => by simp only [BitVec.getLsbD_xor])
  | 2, _ =>
    show 0#8 ^^^ mulB 1#8 (c (4 * q)) ^^^ mulB 1#8 (c (4 * q + 1)) ^^^ mulB 2#8 (c (4 * q + 2)) ^^^ mulB 3#8 (c (4 * q + 3)) = c (4 * q + 2) ^^^ (c (4 * q) ^^^ c (4 * q + 1) ^^^ c (4 * q + 2) ^^^ c (4 * q + 3)) ^^^ mulB (c (4 * q + 2) ^^^ c (4 * q + 3)) 2#8
    rw [two_mul, mul_three, one_mul, one_mul, mul2_add, BitVec.zero_xor]
    exact bits6 (fun a b _ e x y => ((a ^^ b) ^^ x) ^^ (y ^^ e)) (fun a b d e x y => (d ^^ (((a ^^ b) ^^ d) ^^ e)) ^^ (x ^^ y)) (by decide) (c (4 * q)) (c (4 * q + 1)) (c (4 * q + 2)) (c (4 * q + 3)) (mulB (c (4 * q + 2)) 2#8) (mulB (c (4 * q + 3)) 2#8) _ _ (fun i => by simp only [BitVec.getLsbD_xor]) (fun i => by simp only [BitVec.getLsbD_xor])
  | 3, _ =>
    show 0#8 ^^^ mulB 3#8 (c (4 * q)) ^^^ mulB 1#8 (c (4 * q + 1)) ^^^ mulB 1#8 (c (4 * q + 2)) ^^^ mulB 2#8 (c (4 * q + 3)) = c (4 * q + 3) ^^^ (c (4 * q) ^^^ c (4 * q + 1) ^^^ c (4 * q + 2) ^^^ c (4 * q + 3)) ^^^ mulB (c (4 * q + 3) ^^^ c (4 * q)) 2#8
    rw [two_mul, mul_three, one_mul, one_mul, mul2_add, BitVec.zero_xor]
    exact bits6 (fun a b d _ x y => (((y ^^ a) ^^ b) ^^ d) ^^ x) (fun a b d e x y => (e ^^ (((a ^^ b) ^^ d) ^^ e)) ^^ (x ^^ y)) (by decide) (c (4 * q)) (c (4 * q + 1)) (c (4 * q + 2)) (c (4 * q + 3)) (mulB (c (4 * q + 3)) 2#8) (mulB (c (4 * q)) 2#8) _ _ (fun i => by simp only [BitVec.getLsbD_xor]) (fun i => by simp only [BitVec.getLsbD_xor])

theorem subSh_at (b : Nat → BitVec 8) (q p : Nat) (hp : p < 4) (hq : q < 4) : subSh b (4 * q + p) = subB (b (4 * ((q + p) % 4) + p)) := by
  unfold subSh
  congr 2
  omega

def H42 (h : Heap) (key b res : Nat → BitVec 8) (w : Nat → Nat → BitVec 8) (tr : Heap) : Heap :=
  h ++ (⟨arr 32 key, 0, .own⟩ :: ⟨arr 16 b, 0, .own⟩ :: ⟨arr 256 sbF, 0, .own⟩ :: ⟨arr 16 res, 0, .own⟩ :: ⟨mat 60 4 w, 0, .own⟩ :: ⟨mat 4 4 rowsF, 0, .own⟩ :: tr)
abbrev P42 (h tr : Heap) : AV := .ptr (h.length + (tr.length + 1 + 1 + 1 + 1 + 1 + 1)) 0 [] (.arr 16 (.int .u8))
def B42 (L : Nat) (env : Env) : Prop := env.get 4 = .ptr (L + 1) 0 [] (.arr 16 (.int .u8)) ∧ env.get 5 = .ptr (L + 2) 0 [] (.arr 256 (.int .u8)) ∧ env.get 6 = .ptr (L + 3) 0 [] (.arr 16 (.int .u8)) ∧ env.get 7 = .ptr (L + 4) 0 [] (.arr 60 (.arr 4 (.int .u8))) ∧ env.get 8 = .ptr (L + 5) 0 [] (.arr 4 (.arr 4 (.int .u8)))
theorem B42.same {L : Nat} {env env' : Env} (h : B42 L env) (hs : Same [4, 5, 6, 7, 8] env env') : B42 L env' :=
  ⟨by rw [hs.get 4 rfl]; exact h.1, by rw [hs.get 5 rfl]; exact h.2.1, by rw [hs.get 6 rfl]; exact h.2.2.1, by rw [hs.get 7 rfl]; exact h.2.2.2.1, by rw [hs.get 8 rfl]; exact h.2.2.2.2⟩

section
variable (h tr : Heap) (key res : Nat → BitVec 8) (w : Nat → Nat → BitVec 8)

/-- The first words are added. -/
theorem addA42 (b : Nat → BitVec 8) (env : Env) (hb : B42 h.length env) (e9 : env.get 9 = nat 0) :
    Evs (evLoop (evC (cx42 callA12) n42_7) ⟨env, H42 h key b res w tr⟩) (fun r => ∃ env', r = (.exit 0, ⟨env', H42 h key (addK w 0 b) res w tr⟩) ∧ Same [4, 5, 6, 7, 8] env env') := by
  refine Evs.up 16 (fun i s => ∃ env' g, s = ⟨env', H42 h key g res w tr⟩ ∧ env'.get 9 = nat i ∧ Same [4, 5, 6, 7, 8] env env' ∧ ∀ k, g k = if k < i then addK w 0 b k else b k) ?_ ?_ ⟨_, _, rfl, e9, Same.refl _ _, fun k => by simp⟩
  · rintro i s hi ⟨env', g, rfl, f9, hs, hg⟩
    obtain ⟨b4, b5, b6, b7, b8⟩ := hb.same hs
    have e7 : i % 4 < 4 := Nat.mod_lt _ (by decide)
    unfold H42
    repeat (first
      | (with_reducible refine Evs.assoc ?_)
      | ((with_reducible refine Evs.some_bnd ?_); try dsimp only [sqK_nrm, sqK_exit, sqK_ret])
      | ((with_reducible apply Evs.bcndT); (focus (simp (disch := omega) [b4, b7, f9] <;> omega)))
      | ((with_reducible apply Evs.bcndF); (focus (simp (disch := omega) [b4, b7, f9] <;> omega)))
      | ((with_reducible apply Evs.step); (focus ((conv => lhs; simp (disch := omega) [b4, b7, f9]); done)); try dsimp only)
      | (simp only [n42_10_eq, n42_11_eq, n42_9_eq, n42_8_eq, n42_14_eq, n42_13_eq, n42_15_eq, n42_12_eq, n42_7_eq, n42_6_eq, n42_5_eq, n42_4_eq, n42_23_eq, n42_24_eq, n42_22_eq, n42_21_eq, n42_35_eq, n42_36_eq, n42_34_eq, n42_33_eq, n42_45_eq, n42_46_eq, n42_44_eq, n42_43_eq, n42_49_eq, n42_48_eq, n42_50_eq, n42_47_eq, n42_42_eq, n42_41_eq, n42_40_eq, n42_39_eq, n42_38_eq, n42_51_eq, n42_37_eq, n42_32_eq, n42_31_eq, n42_30_eq, n42_29_eq, n42_62_eq, n42_63_eq, n42_61_eq, n42_60_eq, n42_72_eq, n42_73_eq, n42_71_eq, n42_70_eq, n42_84_eq, n42_85_eq, n42_83_eq, n42_82_eq, n42_88_eq, n42_87_eq, n42_89_eq, n42_86_eq, n42_81_eq, n42_80_eq, n42_79_eq, n42_78_eq, n42_90_eq, n42_77_eq, n42_76_eq, n42_75_eq, n42_91_eq, n42_74_eq, n42_69_eq, n42_68_eq, n42_67_eq, n42_66_eq, n42_65_eq, n42_92_eq, n42_64_eq, n42_59_eq, n42_58_eq, n42_57_eq, n42_56_eq, n42_93_eq, n42_55_eq, n42_54_eq, n42_100_eq, n42_101_eq, n42_99_eq, n42_98_eq, n42_104_eq, n42_103_eq, n42_105_eq, n42_102_eq, n42_97_eq, n42_96_eq, n42_95_eq, n42_94_eq, n42_53_eq, n42_52_eq, n42_28_eq, n42_27_eq, n42_26_eq, n42_106_eq, n42_25_eq, n42_20_eq, n42_19_eq, n42_18_eq, n42_17_eq, n42_108_eq, n42_107_eq, n42_16_eq, n42_3_eq, n42_2_eq, n42_1_eq, n42_0_eq, sqK_nrm, sqK_exit, sqK_ret, inBlk_nrm, inBlk_ret, inBlk_same]))
    refine Evs.ret ⟨rfl, _, _, rfl, by simp, by repeat (first | exact hs | refine Same.put rfl ?_), fun k => ?_⟩
    by_cases hk : k = i
    · subst hk; rw [upd_same, hg k, if_neg (by omega), if_pos (by omega)]; simp [addK]
    · rw [upd_ne _ _ hk, hg k]
      by_cases hlt : k < i
      · rw [if_pos hlt, if_pos (by omega)]
      · rw [if_neg hlt, if_neg (by omega)]
  · rintro s ⟨env', g, rfl, f9, hs, hg⟩
    repeat (first
      | (with_reducible refine Evs.assoc ?_)
      | ((with_reducible refine Evs.some_bnd ?_); try dsimp only [sqK_nrm, sqK_exit, sqK_ret])
      | ((with_reducible apply Evs.bcndT); (focus (simp (disch := omega) [f9] <;> omega)))
      | ((with_reducible apply Evs.bcndF); (focus (simp (disch := omega) [f9] <;> omega)))
      | ((with_reducible apply Evs.step); (focus ((conv => lhs; simp (disch := omega) [f9]); done)); try dsimp only)
      | (simp only [n42_10_eq, n42_11_eq, n42_9_eq, n42_8_eq, n42_14_eq, n42_13_eq, n42_15_eq, n42_12_eq, n42_7_eq, n42_6_eq, n42_5_eq, n42_4_eq, n42_23_eq, n42_24_eq, n42_22_eq, n42_21_eq, n42_35_eq, n42_36_eq, n42_34_eq, n42_33_eq, n42_45_eq, n42_46_eq, n42_44_eq, n42_43_eq, n42_49_eq, n42_48_eq, n42_50_eq, n42_47_eq, n42_42_eq, n42_41_eq, n42_40_eq, n42_39_eq, n42_38_eq, n42_51_eq, n42_37_eq, n42_32_eq, n42_31_eq, n42_30_eq, n42_29_eq, n42_62_eq, n42_63_eq, n42_61_eq, n42_60_eq, n42_72_eq, n42_73_eq, n42_71_eq, n42_70_eq, n42_84_eq, n42_85_eq, n42_83_eq, n42_82_eq, n42_88_eq, n42_87_eq, n42_89_eq, n42_86_eq, n42_81_eq, n42_80_eq, n42_79_eq, n42_78_eq, n42_90_eq, n42_77_eq, n42_76_eq, n42_75_eq, n42_91_eq, n42_74_eq, n42_69_eq, n42_68_eq, n42_67_eq, n42_66_eq, n42_65_eq, n42_92_eq, n42_64_eq, n42_59_eq, n42_58_eq, n42_57_eq, n42_56_eq, n42_93_eq, n42_55_eq, n42_54_eq, n42_100_eq, n42_101_eq, n42_99_eq, n42_98_eq, n42_104_eq, n42_103_eq, n42_105_eq, n42_102_eq, n42_97_eq, n42_96_eq, n42_95_eq, n42_94_eq, n42_53_eq, n42_52_eq, n42_28_eq, n42_27_eq, n42_26_eq, n42_106_eq, n42_25_eq, n42_20_eq, n42_19_eq, n42_18_eq, n42_17_eq, n42_108_eq, n42_107_eq, n42_16_eq, n42_3_eq, n42_2_eq, n42_1_eq, n42_0_eq, sqK_nrm, sqK_exit, sqK_ret, inBlk_nrm, inBlk_ret, inBlk_same]))
    have : arr 16 g = arr 16 (addK w 0 b) := arr_congr fun k hk => by rw [hg k, if_pos hk]
    unfold H42
    rw [this]
    exact Evs.ret ⟨by simp, _, rfl, by repeat (first | exact hs | refine Same.put rfl ?_)⟩

/-- A round's words are added. -/
theorem addB42 (j : Nat) (hj : j ≤ 14) (b : Nat → BitVec 8) (env : Env) (hb : B42 h.length env) (e10 : env.get 10 = nat j) (e18 : env.get 18 = nat 0) :
    Evs (evLoop (evC (cx42 callA12) n42_97) ⟨env, H42 h key b res w tr⟩) (fun r => ∃ env', r = (.exit 14, ⟨env', H42 h key (addK w j b) res w tr⟩) ∧ Same [4, 5, 6, 7, 8, 10] env env') := by
  refine Evs.up 16 (fun i s => ∃ env' g, s = ⟨env', H42 h key g res w tr⟩ ∧ env'.get 18 = nat i ∧ Same [4, 5, 6, 7, 8, 10] env env' ∧ ∀ k, g k = if k < i then addK w j b k else b k) ?_ ?_ ⟨_, _, rfl, e18, Same.refl _ _, fun k => by simp⟩
  · rintro i s hi ⟨env', g, rfl, f18, hs, hg⟩
    obtain ⟨b4, b5, b6, b7, b8⟩ := hb.same (hs.sub rfl)
    have e7 : i % 4 < 4 := Nat.mod_lt _ (by decide)
    have f10 := hs.get 10 rfl
    rw [e10] at f10
    unfold H42
    repeat (first
      | (with_reducible refine Evs.assoc ?_)
      | ((with_reducible refine Evs.some_bnd ?_); try dsimp only [sqK_nrm, sqK_exit, sqK_ret])
      | ((with_reducible apply Evs.bcndT); (focus (simp (disch := omega) [b4, b7, f18, f10] <;> omega)))
      | ((with_reducible apply Evs.bcndF); (focus (simp (disch := omega) [b4, b7, f18, f10] <;> omega)))
      | ((with_reducible apply Evs.step); (focus ((conv => lhs; simp (disch := omega) [b4, b7, f18, f10]); done)); try dsimp only)
      | (simp only [n42_10_eq, n42_11_eq, n42_9_eq, n42_8_eq, n42_14_eq, n42_13_eq, n42_15_eq, n42_12_eq, n42_7_eq, n42_6_eq, n42_5_eq, n42_4_eq, n42_23_eq, n42_24_eq, n42_22_eq, n42_21_eq, n42_35_eq, n42_36_eq, n42_34_eq, n42_33_eq, n42_45_eq, n42_46_eq, n42_44_eq, n42_43_eq, n42_49_eq, n42_48_eq, n42_50_eq, n42_47_eq, n42_42_eq, n42_41_eq, n42_40_eq, n42_39_eq, n42_38_eq, n42_51_eq, n42_37_eq, n42_32_eq, n42_31_eq, n42_30_eq, n42_29_eq, n42_62_eq, n42_63_eq, n42_61_eq, n42_60_eq, n42_72_eq, n42_73_eq, n42_71_eq, n42_70_eq, n42_84_eq, n42_85_eq, n42_83_eq, n42_82_eq, n42_88_eq, n42_87_eq, n42_89_eq, n42_86_eq, n42_81_eq, n42_80_eq, n42_79_eq, n42_78_eq, n42_90_eq, n42_77_eq, n42_76_eq, n42_75_eq, n42_91_eq, n42_74_eq, n42_69_eq, n42_68_eq, n42_67_eq, n42_66_eq, n42_65_eq, n42_92_eq, n42_64_eq, n42_59_eq, n42_58_eq, n42_57_eq, n42_56_eq, n42_93_eq, n42_55_eq, n42_54_eq, n42_100_eq, n42_101_eq, n42_99_eq, n42_98_eq, n42_104_eq, n42_103_eq, n42_105_eq, n42_102_eq, n42_97_eq, n42_96_eq, n42_95_eq, n42_94_eq, n42_53_eq, n42_52_eq, n42_28_eq, n42_27_eq, n42_26_eq, n42_106_eq, n42_25_eq, n42_20_eq, n42_19_eq, n42_18_eq, n42_17_eq, n42_108_eq, n42_107_eq, n42_16_eq, n42_3_eq, n42_2_eq, n42_1_eq, n42_0_eq, sqK_nrm, sqK_exit, sqK_ret, inBlk_nrm, inBlk_ret, inBlk_same]))
    refine Evs.ret ⟨rfl, _, _, rfl, by simp, by repeat (first | exact hs | refine Same.put rfl ?_), fun k => ?_⟩
    by_cases hk : k = i
    · subst hk; rw [upd_same, hg k, if_neg (by omega), if_pos (by omega)]; simp [addK]
    · rw [upd_ne _ _ hk, hg k]
      by_cases hlt : k < i
      · rw [if_pos hlt, if_pos (by omega)]
      · rw [if_neg hlt, if_neg (by omega)]
  · rintro s ⟨env', g, rfl, f18, hs, hg⟩
    repeat (first
      | (with_reducible refine Evs.assoc ?_)
      | ((with_reducible refine Evs.some_bnd ?_); try dsimp only [sqK_nrm, sqK_exit, sqK_ret])
      | ((with_reducible apply Evs.bcndT); (focus (simp (disch := omega) [f18] <;> omega)))
      | ((with_reducible apply Evs.bcndF); (focus (simp (disch := omega) [f18] <;> omega)))
      | ((with_reducible apply Evs.step); (focus ((conv => lhs; simp (disch := omega) [f18]); done)); try dsimp only)
      | (simp only [n42_10_eq, n42_11_eq, n42_9_eq, n42_8_eq, n42_14_eq, n42_13_eq, n42_15_eq, n42_12_eq, n42_7_eq, n42_6_eq, n42_5_eq, n42_4_eq, n42_23_eq, n42_24_eq, n42_22_eq, n42_21_eq, n42_35_eq, n42_36_eq, n42_34_eq, n42_33_eq, n42_45_eq, n42_46_eq, n42_44_eq, n42_43_eq, n42_49_eq, n42_48_eq, n42_50_eq, n42_47_eq, n42_42_eq, n42_41_eq, n42_40_eq, n42_39_eq, n42_38_eq, n42_51_eq, n42_37_eq, n42_32_eq, n42_31_eq, n42_30_eq, n42_29_eq, n42_62_eq, n42_63_eq, n42_61_eq, n42_60_eq, n42_72_eq, n42_73_eq, n42_71_eq, n42_70_eq, n42_84_eq, n42_85_eq, n42_83_eq, n42_82_eq, n42_88_eq, n42_87_eq, n42_89_eq, n42_86_eq, n42_81_eq, n42_80_eq, n42_79_eq, n42_78_eq, n42_90_eq, n42_77_eq, n42_76_eq, n42_75_eq, n42_91_eq, n42_74_eq, n42_69_eq, n42_68_eq, n42_67_eq, n42_66_eq, n42_65_eq, n42_92_eq, n42_64_eq, n42_59_eq, n42_58_eq, n42_57_eq, n42_56_eq, n42_93_eq, n42_55_eq, n42_54_eq, n42_100_eq, n42_101_eq, n42_99_eq, n42_98_eq, n42_104_eq, n42_103_eq, n42_105_eq, n42_102_eq, n42_97_eq, n42_96_eq, n42_95_eq, n42_94_eq, n42_53_eq, n42_52_eq, n42_28_eq, n42_27_eq, n42_26_eq, n42_106_eq, n42_25_eq, n42_20_eq, n42_19_eq, n42_18_eq, n42_17_eq, n42_108_eq, n42_107_eq, n42_16_eq, n42_3_eq, n42_2_eq, n42_1_eq, n42_0_eq, sqK_nrm, sqK_exit, sqK_ret, inBlk_nrm, inBlk_ret, inBlk_same]))
    have : arr 16 g = arr 16 (addK w j b) := arr_congr fun k hk => by rw [hg k, if_pos hk]
    unfold H42
    rw [this]
    exact Evs.ret ⟨by simp, _, rfl, by repeat (first | exact hs | refine Same.put rfl ?_)⟩

/-- The substitutes, shifted. -/
theorem sub42 (b : Nat → BitVec 8) (env : Env) (hb : B42 h.length env) (e11 : env.get 11 = P42 h tr) (e12 : env.get 12 = nat 0) :
    Evs (evLoop (evC (cx42 callA12) n42_32) ⟨env, H42 h key b res w (tr ++ [⟨arr 16 fun _ => 0#8, 0, .own⟩])⟩) (fun r => ∃ env', r = (.exit 4, ⟨env', H42 h key b res w (tr ++ [⟨arr 16 (subSh b), 0, .own⟩])⟩) ∧ Same [4, 5, 6, 7, 8, 10, 11] env env') := by
  refine Evs.up 4 (fun q s => ∃ env' g, s = ⟨env', H42 h key b res w (tr ++ [⟨arr 16 g, 0, .own⟩])⟩ ∧ env'.get 12 = nat q ∧ Same [4, 5, 6, 7, 8, 10, 11] env env' ∧ ∀ k, k < 4 * q → g k = subSh b k) ?_ ?_ ⟨_, _, rfl, e12, Same.refl _ _, fun k hk => absurd hk (by omega)⟩
  · rintro q s hq ⟨env', g, rfl, f12, hs, hg⟩
    repeat (first
      | (with_reducible refine Evs.assoc ?_)
      | ((with_reducible refine Evs.some_bnd ?_); try dsimp only [sqK_nrm, sqK_exit, sqK_ret])
      | ((with_reducible apply Evs.bcndT); (focus (simp (disch := omega) [f12] <;> omega)))
      | ((with_reducible apply Evs.bcndF); (focus (simp (disch := omega) [f12] <;> omega)))
      | ((with_reducible apply Evs.step); (focus ((conv => lhs; simp (disch := omega) [f12]); done)); try dsimp only)
      | (simp only [n42_10_eq, n42_11_eq, n42_9_eq, n42_8_eq, n42_14_eq, n42_13_eq, n42_15_eq, n42_12_eq, n42_7_eq, n42_6_eq, n42_5_eq, n42_4_eq, n42_23_eq, n42_24_eq, n42_22_eq, n42_21_eq, n42_35_eq, n42_36_eq, n42_34_eq, n42_33_eq, n42_45_eq, n42_46_eq, n42_44_eq, n42_43_eq, n42_49_eq, n42_48_eq, n42_50_eq, n42_47_eq, n42_42_eq, n42_41_eq, n42_40_eq, n42_39_eq, n42_38_eq, n42_51_eq, n42_37_eq, n42_32_eq, n42_31_eq, n42_30_eq, n42_29_eq, n42_62_eq, n42_63_eq, n42_61_eq, n42_60_eq, n42_72_eq, n42_73_eq, n42_71_eq, n42_70_eq, n42_84_eq, n42_85_eq, n42_83_eq, n42_82_eq, n42_88_eq, n42_87_eq, n42_89_eq, n42_86_eq, n42_81_eq, n42_80_eq, n42_79_eq, n42_78_eq, n42_90_eq, n42_77_eq, n42_76_eq, n42_75_eq, n42_91_eq, n42_74_eq, n42_69_eq, n42_68_eq, n42_67_eq, n42_66_eq, n42_65_eq, n42_92_eq, n42_64_eq, n42_59_eq, n42_58_eq, n42_57_eq, n42_56_eq, n42_93_eq, n42_55_eq, n42_54_eq, n42_100_eq, n42_101_eq, n42_99_eq, n42_98_eq, n42_104_eq, n42_103_eq, n42_105_eq, n42_102_eq, n42_97_eq, n42_96_eq, n42_95_eq, n42_94_eq, n42_53_eq, n42_52_eq, n42_28_eq, n42_27_eq, n42_26_eq, n42_106_eq, n42_25_eq, n42_20_eq, n42_19_eq, n42_18_eq, n42_17_eq, n42_108_eq, n42_107_eq, n42_16_eq, n42_3_eq, n42_2_eq, n42_1_eq, n42_0_eq, sqK_nrm, sqK_exit, sqK_ret, inBlk_nrm, inBlk_ret, inBlk_same]))
    refine Evs.bnd (Q := fun r => ∃ env2 g2, r = (.exit 6, ⟨env2, H42 h key b res w (tr ++ [⟨arr 16 g2, 0, .own⟩])⟩) ∧ Same [4, 5, 6, 7, 8, 10, 11, 12] env' env2 ∧ ∀ k, k < 4 * (q + 1) → g2 k = subSh b k) ?_ ?_
    · refine Evs.up 4 (fun p s => ∃ env2 g2, s = ⟨env2, H42 h key b res w (tr ++ [⟨arr 16 g2, 0, .own⟩])⟩ ∧ env2.get 13 = nat p ∧ Same [4, 5, 6, 7, 8, 10, 11, 12] env' env2 ∧ ∀ k, k < 4 * q + p → g2 k = subSh b k) ?_ ?_ ⟨_, g, rfl, by simp, by repeat (first | exact Same.refl _ _ | refine Same.put rfl ?_), fun k hk => hg k (by omega)⟩
      · rintro p s hp ⟨env2, g2, rfl, f13, hs2, hg2⟩
        obtain ⟨b4, b5, b6, b7, b8⟩ := (hb.same (hs.sub rfl)).same (hs2.sub rfl)
        have g12 := (hs2.get 12 rfl).trans f12
        have g11 := ((hs2.get 11 rfl).trans (hs.get 11 rfl)).trans e11
        have e7 : (q + p) % 4 < 4 := Nat.mod_lt _ (by decide)
        unfold H42
        repeat (first
          | (with_reducible refine Evs.assoc ?_)
          | ((with_reducible refine Evs.some_bnd ?_); try dsimp only [sqK_nrm, sqK_exit, sqK_ret])
          | ((with_reducible apply Evs.bcndT); (focus (simp (disch := omega) [b4, b5, f13, g12, g11] <;> omega)))
          | ((with_reducible apply Evs.bcndF); (focus (simp (disch := omega) [b4, b5, f13, g12, g11] <;> omega)))
          | ((with_reducible apply Evs.step); (focus ((conv => lhs; simp (disch := omega) [b4, b5, f13, g12, g11]); done)); try dsimp only)
          | (simp only [n42_10_eq, n42_11_eq, n42_9_eq, n42_8_eq, n42_14_eq, n42_13_eq, n42_15_eq, n42_12_eq, n42_7_eq, n42_6_eq, n42_5_eq, n42_4_eq, n42_23_eq, n42_24_eq, n42_22_eq, n42_21_eq, n42_35_eq, n42_36_eq, n42_34_eq, n42_33_eq, n42_45_eq, n42_46_eq, n42_44_eq, n42_43_eq, n42_49_eq, n42_48_eq, n42_50_eq, n42_47_eq, n42_42_eq, n42_41_eq, n42_40_eq, n42_39_eq, n42_38_eq, n42_51_eq, n42_37_eq, n42_32_eq, n42_31_eq, n42_30_eq, n42_29_eq, n42_62_eq, n42_63_eq, n42_61_eq, n42_60_eq, n42_72_eq, n42_73_eq, n42_71_eq, n42_70_eq, n42_84_eq, n42_85_eq, n42_83_eq, n42_82_eq, n42_88_eq, n42_87_eq, n42_89_eq, n42_86_eq, n42_81_eq, n42_80_eq, n42_79_eq, n42_78_eq, n42_90_eq, n42_77_eq, n42_76_eq, n42_75_eq, n42_91_eq, n42_74_eq, n42_69_eq, n42_68_eq, n42_67_eq, n42_66_eq, n42_65_eq, n42_92_eq, n42_64_eq, n42_59_eq, n42_58_eq, n42_57_eq, n42_56_eq, n42_93_eq, n42_55_eq, n42_54_eq, n42_100_eq, n42_101_eq, n42_99_eq, n42_98_eq, n42_104_eq, n42_103_eq, n42_105_eq, n42_102_eq, n42_97_eq, n42_96_eq, n42_95_eq, n42_94_eq, n42_53_eq, n42_52_eq, n42_28_eq, n42_27_eq, n42_26_eq, n42_106_eq, n42_25_eq, n42_20_eq, n42_19_eq, n42_18_eq, n42_17_eq, n42_108_eq, n42_107_eq, n42_16_eq, n42_3_eq, n42_2_eq, n42_1_eq, n42_0_eq, sqK_nrm, sqK_exit, sqK_ret, inBlk_nrm, inBlk_ret, inBlk_same]))
        refine Evs.ret ⟨rfl, _, _, rfl, by simp, by repeat (first | exact hs2 | refine Same.put rfl ?_), fun k hk => ?_⟩
        by_cases hki : k = 4 * q + p
        · subst hki; rw [upd_same, subSh_at b q p hp hq]
        · rw [upd_ne _ _ hki]; exact hg2 k (by omega)
      · rintro s ⟨env2, g2, rfl, f13, hs2, hg2⟩
        repeat (first
          | (with_reducible refine Evs.assoc ?_)
          | ((with_reducible refine Evs.some_bnd ?_); try dsimp only [sqK_nrm, sqK_exit, sqK_ret])
          | ((with_reducible apply Evs.bcndT); (focus (simp (disch := omega) [f13] <;> omega)))
          | ((with_reducible apply Evs.bcndF); (focus (simp (disch := omega) [f13] <;> omega)))
          | ((with_reducible apply Evs.step); (focus ((conv => lhs; simp (disch := omega) [f13]); done)); try dsimp only)
          | (simp only [n42_10_eq, n42_11_eq, n42_9_eq, n42_8_eq, n42_14_eq, n42_13_eq, n42_15_eq, n42_12_eq, n42_7_eq, n42_6_eq, n42_5_eq, n42_4_eq, n42_23_eq, n42_24_eq, n42_22_eq, n42_21_eq, n42_35_eq, n42_36_eq, n42_34_eq, n42_33_eq, n42_45_eq, n42_46_eq, n42_44_eq, n42_43_eq, n42_49_eq, n42_48_eq, n42_50_eq, n42_47_eq, n42_42_eq, n42_41_eq, n42_40_eq, n42_39_eq, n42_38_eq, n42_51_eq, n42_37_eq, n42_32_eq, n42_31_eq, n42_30_eq, n42_29_eq, n42_62_eq, n42_63_eq, n42_61_eq, n42_60_eq, n42_72_eq, n42_73_eq, n42_71_eq, n42_70_eq, n42_84_eq, n42_85_eq, n42_83_eq, n42_82_eq, n42_88_eq, n42_87_eq, n42_89_eq, n42_86_eq, n42_81_eq, n42_80_eq, n42_79_eq, n42_78_eq, n42_90_eq, n42_77_eq, n42_76_eq, n42_75_eq, n42_91_eq, n42_74_eq, n42_69_eq, n42_68_eq, n42_67_eq, n42_66_eq, n42_65_eq, n42_92_eq, n42_64_eq, n42_59_eq, n42_58_eq, n42_57_eq, n42_56_eq, n42_93_eq, n42_55_eq, n42_54_eq, n42_100_eq, n42_101_eq, n42_99_eq, n42_98_eq, n42_104_eq, n42_103_eq, n42_105_eq, n42_102_eq, n42_97_eq, n42_96_eq, n42_95_eq, n42_94_eq, n42_53_eq, n42_52_eq, n42_28_eq, n42_27_eq, n42_26_eq, n42_106_eq, n42_25_eq, n42_20_eq, n42_19_eq, n42_18_eq, n42_17_eq, n42_108_eq, n42_107_eq, n42_16_eq, n42_3_eq, n42_2_eq, n42_1_eq, n42_0_eq, sqK_nrm, sqK_exit, sqK_ret, inBlk_nrm, inBlk_ret, inBlk_same]))
        exact Evs.ret ⟨by simp, _, _, rfl, by repeat (first | exact hs2 | refine Same.put rfl ?_), fun k hk => hg2 k (by omega)⟩
    · rintro r ⟨env2, g2, rfl, hs2, hg2⟩
      have g12 := (hs2.get 12 rfl).trans f12
      repeat (first
        | (with_reducible refine Evs.assoc ?_)
        | ((with_reducible refine Evs.some_bnd ?_); try dsimp only [sqK_nrm, sqK_exit, sqK_ret])
        | ((with_reducible apply Evs.bcndT); (focus (simp (disch := omega) [g12] <;> omega)))
        | ((with_reducible apply Evs.bcndF); (focus (simp (disch := omega) [g12] <;> omega)))
        | ((with_reducible apply Evs.step); (focus ((conv => lhs; simp (disch := omega) [g12]); done)); try dsimp only)
        | (simp only [n42_10_eq, n42_11_eq, n42_9_eq, n42_8_eq, n42_14_eq, n42_13_eq, n42_15_eq, n42_12_eq, n42_7_eq, n42_6_eq, n42_5_eq, n42_4_eq, n42_23_eq, n42_24_eq, n42_22_eq, n42_21_eq, n42_35_eq, n42_36_eq, n42_34_eq, n42_33_eq, n42_45_eq, n42_46_eq, n42_44_eq, n42_43_eq, n42_49_eq, n42_48_eq, n42_50_eq, n42_47_eq, n42_42_eq, n42_41_eq, n42_40_eq, n42_39_eq, n42_38_eq, n42_51_eq, n42_37_eq, n42_32_eq, n42_31_eq, n42_30_eq, n42_29_eq, n42_62_eq, n42_63_eq, n42_61_eq, n42_60_eq, n42_72_eq, n42_73_eq, n42_71_eq, n42_70_eq, n42_84_eq, n42_85_eq, n42_83_eq, n42_82_eq, n42_88_eq, n42_87_eq, n42_89_eq, n42_86_eq, n42_81_eq, n42_80_eq, n42_79_eq, n42_78_eq, n42_90_eq, n42_77_eq, n42_76_eq, n42_75_eq, n42_91_eq, n42_74_eq, n42_69_eq, n42_68_eq, n42_67_eq, n42_66_eq, n42_65_eq, n42_92_eq, n42_64_eq, n42_59_eq, n42_58_eq, n42_57_eq, n42_56_eq, n42_93_eq, n42_55_eq, n42_54_eq, n42_100_eq, n42_101_eq, n42_99_eq, n42_98_eq, n42_104_eq, n42_103_eq, n42_105_eq, n42_102_eq, n42_97_eq, n42_96_eq, n42_95_eq, n42_94_eq, n42_53_eq, n42_52_eq, n42_28_eq, n42_27_eq, n42_26_eq, n42_106_eq, n42_25_eq, n42_20_eq, n42_19_eq, n42_18_eq, n42_17_eq, n42_108_eq, n42_107_eq, n42_16_eq, n42_3_eq, n42_2_eq, n42_1_eq, n42_0_eq, sqK_nrm, sqK_exit, sqK_ret, inBlk_nrm, inBlk_ret, inBlk_same]))
      refine Evs.ret ⟨rfl, _, _, rfl, by simp, ?_, hg2⟩
      exact Same.put rfl (hs.trans (hs2.sub rfl))
  · rintro s ⟨env', g, rfl, f12, hs, hg⟩
    repeat (first
      | (with_reducible refine Evs.assoc ?_)
      | ((with_reducible refine Evs.some_bnd ?_); try dsimp only [sqK_nrm, sqK_exit, sqK_ret])
      | ((with_reducible apply Evs.bcndT); (focus (simp (disch := omega) [f12] <;> omega)))
      | ((with_reducible apply Evs.bcndF); (focus (simp (disch := omega) [f12] <;> omega)))
      | ((with_reducible apply Evs.step); (focus ((conv => lhs; simp (disch := omega) [f12]); done)); try dsimp only)
      | (simp only [n42_10_eq, n42_11_eq, n42_9_eq, n42_8_eq, n42_14_eq, n42_13_eq, n42_15_eq, n42_12_eq, n42_7_eq, n42_6_eq, n42_5_eq, n42_4_eq, n42_23_eq, n42_24_eq, n42_22_eq, n42_21_eq, n42_35_eq, n42_36_eq, n42_34_eq, n42_33_eq, n42_45_eq, n42_46_eq, n42_44_eq, n42_43_eq, n42_49_eq, n42_48_eq, n42_50_eq, n42_47_eq, n42_42_eq, n42_41_eq, n42_40_eq, n42_39_eq, n42_38_eq, n42_51_eq, n42_37_eq, n42_32_eq, n42_31_eq, n42_30_eq, n42_29_eq, n42_62_eq, n42_63_eq, n42_61_eq, n42_60_eq, n42_72_eq, n42_73_eq, n42_71_eq, n42_70_eq, n42_84_eq, n42_85_eq, n42_83_eq, n42_82_eq, n42_88_eq, n42_87_eq, n42_89_eq, n42_86_eq, n42_81_eq, n42_80_eq, n42_79_eq, n42_78_eq, n42_90_eq, n42_77_eq, n42_76_eq, n42_75_eq, n42_91_eq, n42_74_eq, n42_69_eq, n42_68_eq, n42_67_eq, n42_66_eq, n42_65_eq, n42_92_eq, n42_64_eq, n42_59_eq, n42_58_eq, n42_57_eq, n42_56_eq, n42_93_eq, n42_55_eq, n42_54_eq, n42_100_eq, n42_101_eq, n42_99_eq, n42_98_eq, n42_104_eq, n42_103_eq, n42_105_eq, n42_102_eq, n42_97_eq, n42_96_eq, n42_95_eq, n42_94_eq, n42_53_eq, n42_52_eq, n42_28_eq, n42_27_eq, n42_26_eq, n42_106_eq, n42_25_eq, n42_20_eq, n42_19_eq, n42_18_eq, n42_17_eq, n42_108_eq, n42_107_eq, n42_16_eq, n42_3_eq, n42_2_eq, n42_1_eq, n42_0_eq, sqK_nrm, sqK_exit, sqK_ret, inBlk_nrm, inBlk_ret, inBlk_same]))
    have : arr 16 g = arr 16 (subSh b) := arr_congr fun k hk => hg k (by omega)
    rw [this]
    exact Evs.ret ⟨by simp, _, rfl, Same.put rfl hs⟩

/-- The columns' products. -/
theorem mix42 (b c : Nat → BitVec 8) (env : Env) (hb : B42 h.length env) (e11 : env.get 11 = P42 h tr) (e14 : env.get 14 = nat 0) :
    Evs (evLoop (evC (cx42 callA12) n42_59) ⟨env, H42 h key b res w (tr ++ [⟨arr 16 c, 0, .own⟩])⟩) (fun r => ∃ env', r = (.exit 8, ⟨env', H42 h key (mixC c) res w (tr ++ [⟨arr 16 c, 0, .own⟩])⟩) ∧ Same [4, 5, 6, 7, 8, 10, 11] env env') := by
  refine Evs.up 4 (fun q s => ∃ env' g, s = ⟨env', H42 h key g res w (tr ++ [⟨arr 16 c, 0, .own⟩])⟩ ∧ env'.get 14 = nat q ∧ Same [4, 5, 6, 7, 8, 10, 11] env env' ∧ ∀ k, k < 4 * q → g k = mixC c k) ?_ ?_ ⟨_, _, rfl, e14, Same.refl _ _, fun k hk => absurd hk (by omega)⟩
  · rintro q s hq ⟨env', g, rfl, f14, hs, hg⟩
    repeat (first
      | (with_reducible refine Evs.assoc ?_)
      | ((with_reducible refine Evs.some_bnd ?_); try dsimp only [sqK_nrm, sqK_exit, sqK_ret])
      | ((with_reducible apply Evs.bcndT); (focus (simp (disch := omega) [f14] <;> omega)))
      | ((with_reducible apply Evs.bcndF); (focus (simp (disch := omega) [f14] <;> omega)))
      | ((with_reducible apply Evs.step); (focus ((conv => lhs; simp (disch := omega) [f14]); done)); try dsimp only)
      | (simp only [n42_10_eq, n42_11_eq, n42_9_eq, n42_8_eq, n42_14_eq, n42_13_eq, n42_15_eq, n42_12_eq, n42_7_eq, n42_6_eq, n42_5_eq, n42_4_eq, n42_23_eq, n42_24_eq, n42_22_eq, n42_21_eq, n42_35_eq, n42_36_eq, n42_34_eq, n42_33_eq, n42_45_eq, n42_46_eq, n42_44_eq, n42_43_eq, n42_49_eq, n42_48_eq, n42_50_eq, n42_47_eq, n42_42_eq, n42_41_eq, n42_40_eq, n42_39_eq, n42_38_eq, n42_51_eq, n42_37_eq, n42_32_eq, n42_31_eq, n42_30_eq, n42_29_eq, n42_62_eq, n42_63_eq, n42_61_eq, n42_60_eq, n42_72_eq, n42_73_eq, n42_71_eq, n42_70_eq, n42_84_eq, n42_85_eq, n42_83_eq, n42_82_eq, n42_88_eq, n42_87_eq, n42_89_eq, n42_86_eq, n42_81_eq, n42_80_eq, n42_79_eq, n42_78_eq, n42_90_eq, n42_77_eq, n42_76_eq, n42_75_eq, n42_91_eq, n42_74_eq, n42_69_eq, n42_68_eq, n42_67_eq, n42_66_eq, n42_65_eq, n42_92_eq, n42_64_eq, n42_59_eq, n42_58_eq, n42_57_eq, n42_56_eq, n42_93_eq, n42_55_eq, n42_54_eq, n42_100_eq, n42_101_eq, n42_99_eq, n42_98_eq, n42_104_eq, n42_103_eq, n42_105_eq, n42_102_eq, n42_97_eq, n42_96_eq, n42_95_eq, n42_94_eq, n42_53_eq, n42_52_eq, n42_28_eq, n42_27_eq, n42_26_eq, n42_106_eq, n42_25_eq, n42_20_eq, n42_19_eq, n42_18_eq, n42_17_eq, n42_108_eq, n42_107_eq, n42_16_eq, n42_3_eq, n42_2_eq, n42_1_eq, n42_0_eq, sqK_nrm, sqK_exit, sqK_ret, inBlk_nrm, inBlk_ret, inBlk_same]))
    refine Evs.bnd (Q := fun r => ∃ env2 g2, r = (.exit 10, ⟨env2, H42 h key g2 res w (tr ++ [⟨arr 16 c, 0, .own⟩])⟩) ∧ Same [4, 5, 6, 7, 8, 10, 11, 14] env' env2 ∧ ∀ k, k < 4 * (q + 1) → g2 k = mixC c k) ?_ ?_
    · refine Evs.up 4 (fun p s => ∃ env2 g2, s = ⟨env2, H42 h key g2 res w (tr ++ [⟨arr 16 c, 0, .own⟩])⟩ ∧ env2.get 15 = nat p ∧ Same [4, 5, 6, 7, 8, 10, 11, 14] env' env2 ∧ ∀ k, k < 4 * q + p → g2 k = mixC c k) ?_ ?_ ⟨_, g, rfl, by simp, by repeat (first | exact Same.refl _ _ | refine Same.put rfl ?_), fun k hk => hg k (by omega)⟩
      · rintro p s hp ⟨env2, g2, rfl, f15, hs2, hg2⟩
        have g14 := (hs2.get 14 rfl).trans f14
        repeat (first
          | (with_reducible refine Evs.assoc ?_)
          | ((with_reducible refine Evs.some_bnd ?_); try dsimp only [sqK_nrm, sqK_exit, sqK_ret])
          | ((with_reducible apply Evs.bcndT); (focus (simp (disch := omega) [f15, g14] <;> omega)))
          | ((with_reducible apply Evs.bcndF); (focus (simp (disch := omega) [f15, g14] <;> omega)))
          | ((with_reducible apply Evs.step); (focus ((conv => lhs; simp (disch := omega) [f15, g14]); done)); try dsimp only)
          | (simp only [n42_10_eq, n42_11_eq, n42_9_eq, n42_8_eq, n42_14_eq, n42_13_eq, n42_15_eq, n42_12_eq, n42_7_eq, n42_6_eq, n42_5_eq, n42_4_eq, n42_23_eq, n42_24_eq, n42_22_eq, n42_21_eq, n42_35_eq, n42_36_eq, n42_34_eq, n42_33_eq, n42_45_eq, n42_46_eq, n42_44_eq, n42_43_eq, n42_49_eq, n42_48_eq, n42_50_eq, n42_47_eq, n42_42_eq, n42_41_eq, n42_40_eq, n42_39_eq, n42_38_eq, n42_51_eq, n42_37_eq, n42_32_eq, n42_31_eq, n42_30_eq, n42_29_eq, n42_62_eq, n42_63_eq, n42_61_eq, n42_60_eq, n42_72_eq, n42_73_eq, n42_71_eq, n42_70_eq, n42_84_eq, n42_85_eq, n42_83_eq, n42_82_eq, n42_88_eq, n42_87_eq, n42_89_eq, n42_86_eq, n42_81_eq, n42_80_eq, n42_79_eq, n42_78_eq, n42_90_eq, n42_77_eq, n42_76_eq, n42_75_eq, n42_91_eq, n42_74_eq, n42_69_eq, n42_68_eq, n42_67_eq, n42_66_eq, n42_65_eq, n42_92_eq, n42_64_eq, n42_59_eq, n42_58_eq, n42_57_eq, n42_56_eq, n42_93_eq, n42_55_eq, n42_54_eq, n42_100_eq, n42_101_eq, n42_99_eq, n42_98_eq, n42_104_eq, n42_103_eq, n42_105_eq, n42_102_eq, n42_97_eq, n42_96_eq, n42_95_eq, n42_94_eq, n42_53_eq, n42_52_eq, n42_28_eq, n42_27_eq, n42_26_eq, n42_106_eq, n42_25_eq, n42_20_eq, n42_19_eq, n42_18_eq, n42_17_eq, n42_108_eq, n42_107_eq, n42_16_eq, n42_3_eq, n42_2_eq, n42_1_eq, n42_0_eq, sqK_nrm, sqK_exit, sqK_ret, inBlk_nrm, inBlk_ret, inBlk_same]))
        refine Evs.bnd (Q := fun r => ∃ env3, r = (.exit 12, ⟨env3, H42 h key g2 res w (tr ++ [⟨arr 16 c, 0, .own⟩])⟩) ∧ env3.get 16 = u8 (mixC c (4 * q + p)) ∧ Same [4, 5, 6, 7, 8, 10, 11, 14, 15] env2 env3) ?_ ?_
        · refine Evs.up 4 (fun k s => ∃ env3, s = ⟨env3, H42 h key g2 res w (tr ++ [⟨arr 16 c, 0, .own⟩])⟩ ∧ env3.get 17 = nat k ∧ env3.get 16 = u8 (colF c q p k) ∧ Same [4, 5, 6, 7, 8, 10, 11, 14, 15] env2 env3) ?_ ?_ ⟨_, rfl, by simp, by simp [colF], by repeat (first | exact Same.refl _ _ | refine Same.put rfl ?_)⟩
          · rintro k s hk ⟨env3, rfl, f17, f16, hs3⟩
            obtain ⟨b4, b5, b6, b7, b8⟩ := ((hb.same (hs.sub rfl)).same (hs2.sub rfl)).same (hs3.sub rfl)
            have k11 := (((hs3.get 11 rfl).trans (hs2.get 11 rfl)).trans (hs.get 11 rfl)).trans e11
            have k14 := (hs3.get 14 rfl).trans g14
            have k15 := (hs3.get 15 rfl).trans f15
            unfold H42
            repeat (first
              | (with_reducible refine Evs.assoc ?_)
              | ((with_reducible refine Evs.some_bnd ?_); try dsimp only [sqK_nrm, sqK_exit, sqK_ret])
              | ((with_reducible apply Evs.bcndT); (focus (simp (disch := omega) [b8, f16, f17, k11, k14, k15] <;> omega)))
              | ((with_reducible apply Evs.bcndF); (focus (simp (disch := omega) [b8, f16, f17, k11, k14, k15] <;> omega)))
              | ((with_reducible apply Evs.step); (focus ((conv => lhs; simp (disch := omega) [b8, f16, f17, k11, k14, k15]); done)); try dsimp only)
              | (simp only [n42_10_eq, n42_11_eq, n42_9_eq, n42_8_eq, n42_14_eq, n42_13_eq, n42_15_eq, n42_12_eq, n42_7_eq, n42_6_eq, n42_5_eq, n42_4_eq, n42_23_eq, n42_24_eq, n42_22_eq, n42_21_eq, n42_35_eq, n42_36_eq, n42_34_eq, n42_33_eq, n42_45_eq, n42_46_eq, n42_44_eq, n42_43_eq, n42_49_eq, n42_48_eq, n42_50_eq, n42_47_eq, n42_42_eq, n42_41_eq, n42_40_eq, n42_39_eq, n42_38_eq, n42_51_eq, n42_37_eq, n42_32_eq, n42_31_eq, n42_30_eq, n42_29_eq, n42_62_eq, n42_63_eq, n42_61_eq, n42_60_eq, n42_72_eq, n42_73_eq, n42_71_eq, n42_70_eq, n42_84_eq, n42_85_eq, n42_83_eq, n42_82_eq, n42_88_eq, n42_87_eq, n42_89_eq, n42_86_eq, n42_81_eq, n42_80_eq, n42_79_eq, n42_78_eq, n42_90_eq, n42_77_eq, n42_76_eq, n42_75_eq, n42_91_eq, n42_74_eq, n42_69_eq, n42_68_eq, n42_67_eq, n42_66_eq, n42_65_eq, n42_92_eq, n42_64_eq, n42_59_eq, n42_58_eq, n42_57_eq, n42_56_eq, n42_93_eq, n42_55_eq, n42_54_eq, n42_100_eq, n42_101_eq, n42_99_eq, n42_98_eq, n42_104_eq, n42_103_eq, n42_105_eq, n42_102_eq, n42_97_eq, n42_96_eq, n42_95_eq, n42_94_eq, n42_53_eq, n42_52_eq, n42_28_eq, n42_27_eq, n42_26_eq, n42_106_eq, n42_25_eq, n42_20_eq, n42_19_eq, n42_18_eq, n42_17_eq, n42_108_eq, n42_107_eq, n42_16_eq, n42_3_eq, n42_2_eq, n42_1_eq, n42_0_eq, sqK_nrm, sqK_exit, sqK_ret, inBlk_nrm, inBlk_ret, inBlk_same]))
            exact Evs.ret ⟨rfl, _, rfl, by simp, by simp [colF], by repeat (first | exact hs3 | refine Same.put rfl ?_)⟩
          · rintro s ⟨env3, rfl, f17, f16, hs3⟩
            repeat (first
              | (with_reducible refine Evs.assoc ?_)
              | ((with_reducible refine Evs.some_bnd ?_); try dsimp only [sqK_nrm, sqK_exit, sqK_ret])
              | ((with_reducible apply Evs.bcndT); (focus (simp (disch := omega) [f17] <;> omega)))
              | ((with_reducible apply Evs.bcndF); (focus (simp (disch := omega) [f17] <;> omega)))
              | ((with_reducible apply Evs.step); (focus ((conv => lhs; simp (disch := omega) [f17]); done)); try dsimp only)
              | (simp only [n42_10_eq, n42_11_eq, n42_9_eq, n42_8_eq, n42_14_eq, n42_13_eq, n42_15_eq, n42_12_eq, n42_7_eq, n42_6_eq, n42_5_eq, n42_4_eq, n42_23_eq, n42_24_eq, n42_22_eq, n42_21_eq, n42_35_eq, n42_36_eq, n42_34_eq, n42_33_eq, n42_45_eq, n42_46_eq, n42_44_eq, n42_43_eq, n42_49_eq, n42_48_eq, n42_50_eq, n42_47_eq, n42_42_eq, n42_41_eq, n42_40_eq, n42_39_eq, n42_38_eq, n42_51_eq, n42_37_eq, n42_32_eq, n42_31_eq, n42_30_eq, n42_29_eq, n42_62_eq, n42_63_eq, n42_61_eq, n42_60_eq, n42_72_eq, n42_73_eq, n42_71_eq, n42_70_eq, n42_84_eq, n42_85_eq, n42_83_eq, n42_82_eq, n42_88_eq, n42_87_eq, n42_89_eq, n42_86_eq, n42_81_eq, n42_80_eq, n42_79_eq, n42_78_eq, n42_90_eq, n42_77_eq, n42_76_eq, n42_75_eq, n42_91_eq, n42_74_eq, n42_69_eq, n42_68_eq, n42_67_eq, n42_66_eq, n42_65_eq, n42_92_eq, n42_64_eq, n42_59_eq, n42_58_eq, n42_57_eq, n42_56_eq, n42_93_eq, n42_55_eq, n42_54_eq, n42_100_eq, n42_101_eq, n42_99_eq, n42_98_eq, n42_104_eq, n42_103_eq, n42_105_eq, n42_102_eq, n42_97_eq, n42_96_eq, n42_95_eq, n42_94_eq, n42_53_eq, n42_52_eq, n42_28_eq, n42_27_eq, n42_26_eq, n42_106_eq, n42_25_eq, n42_20_eq, n42_19_eq, n42_18_eq, n42_17_eq, n42_108_eq, n42_107_eq, n42_16_eq, n42_3_eq, n42_2_eq, n42_1_eq, n42_0_eq, sqK_nrm, sqK_exit, sqK_ret, inBlk_nrm, inBlk_ret, inBlk_same]))
            rw [col_eq c q p hp] at f16
            exact Evs.ret ⟨by simp, _, rfl, by simp [f16], by repeat (first | exact hs3 | refine Same.put rfl ?_)⟩
        · rintro r ⟨env3, rfl, f16, hs3⟩
          obtain ⟨b4, b5, b6, b7, b8⟩ := ((hb.same (hs.sub rfl)).same (hs2.sub rfl)).same (hs3.sub rfl)
          have k14 := (hs3.get 14 rfl).trans g14
          have k15 := (hs3.get 15 rfl).trans f15
          unfold H42
          repeat (first
            | (with_reducible refine Evs.assoc ?_)
            | ((with_reducible refine Evs.some_bnd ?_); try dsimp only [sqK_nrm, sqK_exit, sqK_ret])
            | ((with_reducible apply Evs.bcndT); (focus (simp (disch := omega) [b4, f16, k14, k15] <;> omega)))
            | ((with_reducible apply Evs.bcndF); (focus (simp (disch := omega) [b4, f16, k14, k15] <;> omega)))
            | ((with_reducible apply Evs.step); (focus ((conv => lhs; simp (disch := omega) [b4, f16, k14, k15]); done)); try dsimp only)
            | (simp only [n42_10_eq, n42_11_eq, n42_9_eq, n42_8_eq, n42_14_eq, n42_13_eq, n42_15_eq, n42_12_eq, n42_7_eq, n42_6_eq, n42_5_eq, n42_4_eq, n42_23_eq, n42_24_eq, n42_22_eq, n42_21_eq, n42_35_eq, n42_36_eq, n42_34_eq, n42_33_eq, n42_45_eq, n42_46_eq, n42_44_eq, n42_43_eq, n42_49_eq, n42_48_eq, n42_50_eq, n42_47_eq, n42_42_eq, n42_41_eq, n42_40_eq, n42_39_eq, n42_38_eq, n42_51_eq, n42_37_eq, n42_32_eq, n42_31_eq, n42_30_eq, n42_29_eq, n42_62_eq, n42_63_eq, n42_61_eq, n42_60_eq, n42_72_eq, n42_73_eq, n42_71_eq, n42_70_eq, n42_84_eq, n42_85_eq, n42_83_eq, n42_82_eq, n42_88_eq, n42_87_eq, n42_89_eq, n42_86_eq, n42_81_eq, n42_80_eq, n42_79_eq, n42_78_eq, n42_90_eq, n42_77_eq, n42_76_eq, n42_75_eq, n42_91_eq, n42_74_eq, n42_69_eq, n42_68_eq, n42_67_eq, n42_66_eq, n42_65_eq, n42_92_eq, n42_64_eq, n42_59_eq, n42_58_eq, n42_57_eq, n42_56_eq, n42_93_eq, n42_55_eq, n42_54_eq, n42_100_eq, n42_101_eq, n42_99_eq, n42_98_eq, n42_104_eq, n42_103_eq, n42_105_eq, n42_102_eq, n42_97_eq, n42_96_eq, n42_95_eq, n42_94_eq, n42_53_eq, n42_52_eq, n42_28_eq, n42_27_eq, n42_26_eq, n42_106_eq, n42_25_eq, n42_20_eq, n42_19_eq, n42_18_eq, n42_17_eq, n42_108_eq, n42_107_eq, n42_16_eq, n42_3_eq, n42_2_eq, n42_1_eq, n42_0_eq, sqK_nrm, sqK_exit, sqK_ret, inBlk_nrm, inBlk_ret, inBlk_same]))
          refine Evs.ret ⟨rfl, _, _, rfl, by simp, ?_, fun k hk => ?_⟩
          · exact Same.put rfl (hs2.trans (hs3.sub rfl))
          · by_cases hki : k = 4 * q + p
            · subst hki; rw [upd_same]
            · rw [upd_ne _ _ hki]; exact hg2 k (by omega)
      · rintro s ⟨env2, g2, rfl, f15, hs2, hg2⟩
        repeat (first
          | (with_reducible refine Evs.assoc ?_)
          | ((with_reducible refine Evs.some_bnd ?_); try dsimp only [sqK_nrm, sqK_exit, sqK_ret])
          | ((with_reducible apply Evs.bcndT); (focus (simp (disch := omega) [f15] <;> omega)))
          | ((with_reducible apply Evs.bcndF); (focus (simp (disch := omega) [f15] <;> omega)))
          | ((with_reducible apply Evs.step); (focus ((conv => lhs; simp (disch := omega) [f15]); done)); try dsimp only)
          | (simp only [n42_10_eq, n42_11_eq, n42_9_eq, n42_8_eq, n42_14_eq, n42_13_eq, n42_15_eq, n42_12_eq, n42_7_eq, n42_6_eq, n42_5_eq, n42_4_eq, n42_23_eq, n42_24_eq, n42_22_eq, n42_21_eq, n42_35_eq, n42_36_eq, n42_34_eq, n42_33_eq, n42_45_eq, n42_46_eq, n42_44_eq, n42_43_eq, n42_49_eq, n42_48_eq, n42_50_eq, n42_47_eq, n42_42_eq, n42_41_eq, n42_40_eq, n42_39_eq, n42_38_eq, n42_51_eq, n42_37_eq, n42_32_eq, n42_31_eq, n42_30_eq, n42_29_eq, n42_62_eq, n42_63_eq, n42_61_eq, n42_60_eq, n42_72_eq, n42_73_eq, n42_71_eq, n42_70_eq, n42_84_eq, n42_85_eq, n42_83_eq, n42_82_eq, n42_88_eq, n42_87_eq, n42_89_eq, n42_86_eq, n42_81_eq, n42_80_eq, n42_79_eq, n42_78_eq, n42_90_eq, n42_77_eq, n42_76_eq, n42_75_eq, n42_91_eq, n42_74_eq, n42_69_eq, n42_68_eq, n42_67_eq, n42_66_eq, n42_65_eq, n42_92_eq, n42_64_eq, n42_59_eq, n42_58_eq, n42_57_eq, n42_56_eq, n42_93_eq, n42_55_eq, n42_54_eq, n42_100_eq, n42_101_eq, n42_99_eq, n42_98_eq, n42_104_eq, n42_103_eq, n42_105_eq, n42_102_eq, n42_97_eq, n42_96_eq, n42_95_eq, n42_94_eq, n42_53_eq, n42_52_eq, n42_28_eq, n42_27_eq, n42_26_eq, n42_106_eq, n42_25_eq, n42_20_eq, n42_19_eq, n42_18_eq, n42_17_eq, n42_108_eq, n42_107_eq, n42_16_eq, n42_3_eq, n42_2_eq, n42_1_eq, n42_0_eq, sqK_nrm, sqK_exit, sqK_ret, inBlk_nrm, inBlk_ret, inBlk_same]))
        exact Evs.ret ⟨by simp, _, _, rfl, by repeat (first | exact hs2 | refine Same.put rfl ?_), fun k hk => hg2 k (by omega)⟩
    · rintro r ⟨env2, g2, rfl, hs2, hg2⟩
      have g14 := (hs2.get 14 rfl).trans f14
      repeat (first
        | (with_reducible refine Evs.assoc ?_)
        | ((with_reducible refine Evs.some_bnd ?_); try dsimp only [sqK_nrm, sqK_exit, sqK_ret])
        | ((with_reducible apply Evs.bcndT); (focus (simp (disch := omega) [g14] <;> omega)))
        | ((with_reducible apply Evs.bcndF); (focus (simp (disch := omega) [g14] <;> omega)))
        | ((with_reducible apply Evs.step); (focus ((conv => lhs; simp (disch := omega) [g14]); done)); try dsimp only)
        | (simp only [n42_10_eq, n42_11_eq, n42_9_eq, n42_8_eq, n42_14_eq, n42_13_eq, n42_15_eq, n42_12_eq, n42_7_eq, n42_6_eq, n42_5_eq, n42_4_eq, n42_23_eq, n42_24_eq, n42_22_eq, n42_21_eq, n42_35_eq, n42_36_eq, n42_34_eq, n42_33_eq, n42_45_eq, n42_46_eq, n42_44_eq, n42_43_eq, n42_49_eq, n42_48_eq, n42_50_eq, n42_47_eq, n42_42_eq, n42_41_eq, n42_40_eq, n42_39_eq, n42_38_eq, n42_51_eq, n42_37_eq, n42_32_eq, n42_31_eq, n42_30_eq, n42_29_eq, n42_62_eq, n42_63_eq, n42_61_eq, n42_60_eq, n42_72_eq, n42_73_eq, n42_71_eq, n42_70_eq, n42_84_eq, n42_85_eq, n42_83_eq, n42_82_eq, n42_88_eq, n42_87_eq, n42_89_eq, n42_86_eq, n42_81_eq, n42_80_eq, n42_79_eq, n42_78_eq, n42_90_eq, n42_77_eq, n42_76_eq, n42_75_eq, n42_91_eq, n42_74_eq, n42_69_eq, n42_68_eq, n42_67_eq, n42_66_eq, n42_65_eq, n42_92_eq, n42_64_eq, n42_59_eq, n42_58_eq, n42_57_eq, n42_56_eq, n42_93_eq, n42_55_eq, n42_54_eq, n42_100_eq, n42_101_eq, n42_99_eq, n42_98_eq, n42_104_eq, n42_103_eq, n42_105_eq, n42_102_eq, n42_97_eq, n42_96_eq, n42_95_eq, n42_94_eq, n42_53_eq, n42_52_eq, n42_28_eq, n42_27_eq, n42_26_eq, n42_106_eq, n42_25_eq, n42_20_eq, n42_19_eq, n42_18_eq, n42_17_eq, n42_108_eq, n42_107_eq, n42_16_eq, n42_3_eq, n42_2_eq, n42_1_eq, n42_0_eq, sqK_nrm, sqK_exit, sqK_ret, inBlk_nrm, inBlk_ret, inBlk_same]))
      refine Evs.ret ⟨rfl, _, _, rfl, by simp, ?_, hg2⟩
      exact Same.put rfl (hs.trans (hs2.sub rfl))
  · rintro s ⟨env', g, rfl, f14, hs, hg⟩
    repeat (first
      | (with_reducible refine Evs.assoc ?_)
      | ((with_reducible refine Evs.some_bnd ?_); try dsimp only [sqK_nrm, sqK_exit, sqK_ret])
      | ((with_reducible apply Evs.bcndT); (focus (simp (disch := omega) [f14] <;> omega)))
      | ((with_reducible apply Evs.bcndF); (focus (simp (disch := omega) [f14] <;> omega)))
      | ((with_reducible apply Evs.step); (focus ((conv => lhs; simp (disch := omega) [f14]); done)); try dsimp only)
      | (simp only [n42_10_eq, n42_11_eq, n42_9_eq, n42_8_eq, n42_14_eq, n42_13_eq, n42_15_eq, n42_12_eq, n42_7_eq, n42_6_eq, n42_5_eq, n42_4_eq, n42_23_eq, n42_24_eq, n42_22_eq, n42_21_eq, n42_35_eq, n42_36_eq, n42_34_eq, n42_33_eq, n42_45_eq, n42_46_eq, n42_44_eq, n42_43_eq, n42_49_eq, n42_48_eq, n42_50_eq, n42_47_eq, n42_42_eq, n42_41_eq, n42_40_eq, n42_39_eq, n42_38_eq, n42_51_eq, n42_37_eq, n42_32_eq, n42_31_eq, n42_30_eq, n42_29_eq, n42_62_eq, n42_63_eq, n42_61_eq, n42_60_eq, n42_72_eq, n42_73_eq, n42_71_eq, n42_70_eq, n42_84_eq, n42_85_eq, n42_83_eq, n42_82_eq, n42_88_eq, n42_87_eq, n42_89_eq, n42_86_eq, n42_81_eq, n42_80_eq, n42_79_eq, n42_78_eq, n42_90_eq, n42_77_eq, n42_76_eq, n42_75_eq, n42_91_eq, n42_74_eq, n42_69_eq, n42_68_eq, n42_67_eq, n42_66_eq, n42_65_eq, n42_92_eq, n42_64_eq, n42_59_eq, n42_58_eq, n42_57_eq, n42_56_eq, n42_93_eq, n42_55_eq, n42_54_eq, n42_100_eq, n42_101_eq, n42_99_eq, n42_98_eq, n42_104_eq, n42_103_eq, n42_105_eq, n42_102_eq, n42_97_eq, n42_96_eq, n42_95_eq, n42_94_eq, n42_53_eq, n42_52_eq, n42_28_eq, n42_27_eq, n42_26_eq, n42_106_eq, n42_25_eq, n42_20_eq, n42_19_eq, n42_18_eq, n42_17_eq, n42_108_eq, n42_107_eq, n42_16_eq, n42_3_eq, n42_2_eq, n42_1_eq, n42_0_eq, sqK_nrm, sqK_exit, sqK_ret, inBlk_nrm, inBlk_ret, inBlk_same]))
    have : arr 16 g = arr 16 (mixC c) := arr_congr fun k hk => hg k (by omega)
    unfold H42
    rw [this]
    exact Evs.ret ⟨by simp, _, rfl, Same.put rfl hs⟩
end

theorem pre_lt {w : Nat → Nat → BitVec 8} {b : Nat → BitVec 8} {j : Nat} (h : j ≠ 13) : pre w b (j + 1) = mixC (subSh (addK w j (pre w b j))) := by simp [pre, h]
theorem pre_13 {w : Nat → Nat → BitVec 8} {b : Nat → BitVec 8} : pre w b 14 = subSh (addK w 13 (pre w b 13)) := by simp [pre]

/-- The rounds. -/
theorem rounds42 (h : Heap) (key res b : Nat → BitVec 8) (w : Nat → Nat → BitVec 8) (env : Env) (hb : B42 h.length env) (e10 : env.get 10 = nat 1) :
    Evs (evLoop (evC (cx42 callA12) n42_20) ⟨env, H42 h key (addK w 0 b) res w []⟩) (fun r => ∃ env' tr, r = (.exit 2, ⟨env', H42 h key (encF w b) res w tr⟩) ∧ Same [4, 5, 6, 7, 8] env env') := by
  refine Evs.up 14 (fun j s => ∃ env' tr, s = ⟨env', H42 h key (addK w j (pre w b j)) res w tr⟩ ∧ env'.get 10 = nat (j + 1) ∧ Same [4, 5, 6, 7, 8] env env') ?_ ?_ ⟨_, _, rfl, e10, Same.refl _ _⟩
  · rintro j s hj ⟨env', tr, rfl, f10, hs⟩
    have hb' := hb.same hs
    obtain ⟨b4, b5, b6, b7, b8⟩ := hb.same hs
    unfold H42
    repeat (first
      | (with_reducible refine Evs.assoc ?_)
      | ((with_reducible refine Evs.some_bnd ?_); try dsimp only [sqK_nrm, sqK_exit, sqK_ret])
      | ((with_reducible apply Evs.bcndT); (focus (simp (disch := omega) [f10] <;> omega)))
      | ((with_reducible apply Evs.bcndF); (focus (simp (disch := omega) [f10] <;> omega)))
      | ((with_reducible apply Evs.step); (focus ((conv => lhs; simp (disch := omega) [f10]); done)); try dsimp only)
      | (simp only [n42_10_eq, n42_11_eq, n42_9_eq, n42_8_eq, n42_14_eq, n42_13_eq, n42_15_eq, n42_12_eq, n42_7_eq, n42_6_eq, n42_5_eq, n42_4_eq, n42_23_eq, n42_24_eq, n42_22_eq, n42_21_eq, n42_35_eq, n42_36_eq, n42_34_eq, n42_33_eq, n42_45_eq, n42_46_eq, n42_44_eq, n42_43_eq, n42_49_eq, n42_48_eq, n42_50_eq, n42_47_eq, n42_42_eq, n42_41_eq, n42_40_eq, n42_39_eq, n42_38_eq, n42_51_eq, n42_37_eq, n42_32_eq, n42_31_eq, n42_30_eq, n42_29_eq, n42_62_eq, n42_63_eq, n42_61_eq, n42_60_eq, n42_72_eq, n42_73_eq, n42_71_eq, n42_70_eq, n42_84_eq, n42_85_eq, n42_83_eq, n42_82_eq, n42_88_eq, n42_87_eq, n42_89_eq, n42_86_eq, n42_81_eq, n42_80_eq, n42_79_eq, n42_78_eq, n42_90_eq, n42_77_eq, n42_76_eq, n42_75_eq, n42_91_eq, n42_74_eq, n42_69_eq, n42_68_eq, n42_67_eq, n42_66_eq, n42_65_eq, n42_92_eq, n42_64_eq, n42_59_eq, n42_58_eq, n42_57_eq, n42_56_eq, n42_93_eq, n42_55_eq, n42_54_eq, n42_100_eq, n42_101_eq, n42_99_eq, n42_98_eq, n42_104_eq, n42_103_eq, n42_105_eq, n42_102_eq, n42_97_eq, n42_96_eq, n42_95_eq, n42_94_eq, n42_53_eq, n42_52_eq, n42_28_eq, n42_27_eq, n42_26_eq, n42_106_eq, n42_25_eq, n42_20_eq, n42_19_eq, n42_18_eq, n42_17_eq, n42_108_eq, n42_107_eq, n42_16_eq, n42_3_eq, n42_2_eq, n42_1_eq, n42_0_eq, sqK_nrm, sqK_exit, sqK_ret, inBlk_nrm, inBlk_ret, inBlk_same]))
    refine Evs.bnd (sub42 h tr key res w (addK w j (pre w b j)) _ ?_ ?_ ?_) ?_
    · exact hb'.same (by repeat (first | exact Same.refl _ _ | refine Same.put rfl ?_))
    · simp
    · simp
    rintro r ⟨env2, rfl, hs2⟩
    have q4 := hs2.get 4 rfl
    have q10 := hs2.get 10 rfl
    have q11 := hs2.get 11 rfl
    simp [b4, f10] at q4 q10 q11
    unfold H42
    have hs3 : Same [4, 5, 6, 7, 8] env env2 := by
      refine Same.trans ?_ (hs2.sub rfl)
      repeat (first | exact hs | refine Same.put rfl ?_)
    by_cases h13 : j = 13
    · subst h13
      repeat (first
        | (with_reducible refine Evs.assoc ?_)
        | ((with_reducible refine Evs.some_bnd ?_); try dsimp only [sqK_nrm, sqK_exit, sqK_ret])
        | ((with_reducible apply Evs.bcndT); (focus (simp (disch := omega) [q4, q10, q11] <;> omega)))
        | ((with_reducible apply Evs.bcndF); (focus (simp (disch := omega) [q4, q10, q11] <;> omega)))
        | ((with_reducible apply Evs.step); (focus ((conv => lhs; simp (disch := omega) [q4, q10, q11]); done)); try dsimp only)
        | (simp only [n42_10_eq, n42_11_eq, n42_9_eq, n42_8_eq, n42_14_eq, n42_13_eq, n42_15_eq, n42_12_eq, n42_7_eq, n42_6_eq, n42_5_eq, n42_4_eq, n42_23_eq, n42_24_eq, n42_22_eq, n42_21_eq, n42_35_eq, n42_36_eq, n42_34_eq, n42_33_eq, n42_45_eq, n42_46_eq, n42_44_eq, n42_43_eq, n42_49_eq, n42_48_eq, n42_50_eq, n42_47_eq, n42_42_eq, n42_41_eq, n42_40_eq, n42_39_eq, n42_38_eq, n42_51_eq, n42_37_eq, n42_32_eq, n42_31_eq, n42_30_eq, n42_29_eq, n42_62_eq, n42_63_eq, n42_61_eq, n42_60_eq, n42_72_eq, n42_73_eq, n42_71_eq, n42_70_eq, n42_84_eq, n42_85_eq, n42_83_eq, n42_82_eq, n42_88_eq, n42_87_eq, n42_89_eq, n42_86_eq, n42_81_eq, n42_80_eq, n42_79_eq, n42_78_eq, n42_90_eq, n42_77_eq, n42_76_eq, n42_75_eq, n42_91_eq, n42_74_eq, n42_69_eq, n42_68_eq, n42_67_eq, n42_66_eq, n42_65_eq, n42_92_eq, n42_64_eq, n42_59_eq, n42_58_eq, n42_57_eq, n42_56_eq, n42_93_eq, n42_55_eq, n42_54_eq, n42_100_eq, n42_101_eq, n42_99_eq, n42_98_eq, n42_104_eq, n42_103_eq, n42_105_eq, n42_102_eq, n42_97_eq, n42_96_eq, n42_95_eq, n42_94_eq, n42_53_eq, n42_52_eq, n42_28_eq, n42_27_eq, n42_26_eq, n42_106_eq, n42_25_eq, n42_20_eq, n42_19_eq, n42_18_eq, n42_17_eq, n42_108_eq, n42_107_eq, n42_16_eq, n42_3_eq, n42_2_eq, n42_1_eq, n42_0_eq, sqK_nrm, sqK_exit, sqK_ret, inBlk_nrm, inBlk_ret, inBlk_same]))
      refine Evs.bnd (addB42 h _ key res w 14 (by omega) (subSh (addK w 13 (pre w b 13))) _ ?_ ?_ ?_) ?_
      · exact hb.same (by repeat (first | exact hs3 | refine Same.put rfl ?_))
      · simp [q10]
      · simp
      rintro r ⟨env4, rfl, hs4⟩
      have p10 := hs4.get 10 rfl
      simp [q10] at p10
      rw [← pre_13]
      repeat (first
        | (with_reducible refine Evs.assoc ?_)
        | ((with_reducible refine Evs.some_bnd ?_); try dsimp only [sqK_nrm, sqK_exit, sqK_ret])
        | ((with_reducible apply Evs.bcndT); (focus (simp (disch := omega) [p10] <;> omega)))
        | ((with_reducible apply Evs.bcndF); (focus (simp (disch := omega) [p10] <;> omega)))
        | ((with_reducible apply Evs.step); (focus ((conv => lhs; simp (disch := omega) [p10]); done)); try dsimp only)
        | (simp only [n42_10_eq, n42_11_eq, n42_9_eq, n42_8_eq, n42_14_eq, n42_13_eq, n42_15_eq, n42_12_eq, n42_7_eq, n42_6_eq, n42_5_eq, n42_4_eq, n42_23_eq, n42_24_eq, n42_22_eq, n42_21_eq, n42_35_eq, n42_36_eq, n42_34_eq, n42_33_eq, n42_45_eq, n42_46_eq, n42_44_eq, n42_43_eq, n42_49_eq, n42_48_eq, n42_50_eq, n42_47_eq, n42_42_eq, n42_41_eq, n42_40_eq, n42_39_eq, n42_38_eq, n42_51_eq, n42_37_eq, n42_32_eq, n42_31_eq, n42_30_eq, n42_29_eq, n42_62_eq, n42_63_eq, n42_61_eq, n42_60_eq, n42_72_eq, n42_73_eq, n42_71_eq, n42_70_eq, n42_84_eq, n42_85_eq, n42_83_eq, n42_82_eq, n42_88_eq, n42_87_eq, n42_89_eq, n42_86_eq, n42_81_eq, n42_80_eq, n42_79_eq, n42_78_eq, n42_90_eq, n42_77_eq, n42_76_eq, n42_75_eq, n42_91_eq, n42_74_eq, n42_69_eq, n42_68_eq, n42_67_eq, n42_66_eq, n42_65_eq, n42_92_eq, n42_64_eq, n42_59_eq, n42_58_eq, n42_57_eq, n42_56_eq, n42_93_eq, n42_55_eq, n42_54_eq, n42_100_eq, n42_101_eq, n42_99_eq, n42_98_eq, n42_104_eq, n42_103_eq, n42_105_eq, n42_102_eq, n42_97_eq, n42_96_eq, n42_95_eq, n42_94_eq, n42_53_eq, n42_52_eq, n42_28_eq, n42_27_eq, n42_26_eq, n42_106_eq, n42_25_eq, n42_20_eq, n42_19_eq, n42_18_eq, n42_17_eq, n42_108_eq, n42_107_eq, n42_16_eq, n42_3_eq, n42_2_eq, n42_1_eq, n42_0_eq, sqK_nrm, sqK_exit, sqK_ret, inBlk_nrm, inBlk_ret, inBlk_same]))
      refine Evs.ret ⟨rfl, _, _, rfl, by simp, ?_⟩
      refine Same.put rfl (Same.trans ?_ (hs4.sub rfl))
      repeat (first | exact hs3 | refine Same.put rfl ?_)
    · repeat (first
        | (with_reducible refine Evs.assoc ?_)
        | ((with_reducible refine Evs.some_bnd ?_); try dsimp only [sqK_nrm, sqK_exit, sqK_ret])
        | ((with_reducible apply Evs.bcndT); (focus (simp (disch := omega) [q4, q10, q11] <;> omega)))
        | ((with_reducible apply Evs.bcndF); (focus (simp (disch := omega) [q4, q10, q11] <;> omega)))
        | ((with_reducible apply Evs.step); (focus ((conv => lhs; simp (disch := omega) [q4, q10, q11]); done)); try dsimp only)
        | (simp only [n42_10_eq, n42_11_eq, n42_9_eq, n42_8_eq, n42_14_eq, n42_13_eq, n42_15_eq, n42_12_eq, n42_7_eq, n42_6_eq, n42_5_eq, n42_4_eq, n42_23_eq, n42_24_eq, n42_22_eq, n42_21_eq, n42_35_eq, n42_36_eq, n42_34_eq, n42_33_eq, n42_45_eq, n42_46_eq, n42_44_eq, n42_43_eq, n42_49_eq, n42_48_eq, n42_50_eq, n42_47_eq, n42_42_eq, n42_41_eq, n42_40_eq, n42_39_eq, n42_38_eq, n42_51_eq, n42_37_eq, n42_32_eq, n42_31_eq, n42_30_eq, n42_29_eq, n42_62_eq, n42_63_eq, n42_61_eq, n42_60_eq, n42_72_eq, n42_73_eq, n42_71_eq, n42_70_eq, n42_84_eq, n42_85_eq, n42_83_eq, n42_82_eq, n42_88_eq, n42_87_eq, n42_89_eq, n42_86_eq, n42_81_eq, n42_80_eq, n42_79_eq, n42_78_eq, n42_90_eq, n42_77_eq, n42_76_eq, n42_75_eq, n42_91_eq, n42_74_eq, n42_69_eq, n42_68_eq, n42_67_eq, n42_66_eq, n42_65_eq, n42_92_eq, n42_64_eq, n42_59_eq, n42_58_eq, n42_57_eq, n42_56_eq, n42_93_eq, n42_55_eq, n42_54_eq, n42_100_eq, n42_101_eq, n42_99_eq, n42_98_eq, n42_104_eq, n42_103_eq, n42_105_eq, n42_102_eq, n42_97_eq, n42_96_eq, n42_95_eq, n42_94_eq, n42_53_eq, n42_52_eq, n42_28_eq, n42_27_eq, n42_26_eq, n42_106_eq, n42_25_eq, n42_20_eq, n42_19_eq, n42_18_eq, n42_17_eq, n42_108_eq, n42_107_eq, n42_16_eq, n42_3_eq, n42_2_eq, n42_1_eq, n42_0_eq, sqK_nrm, sqK_exit, sqK_ret, inBlk_nrm, inBlk_ret, inBlk_same]))
      refine Evs.bnd (mix42 h tr key res w _ (subSh (addK w j (pre w b j))) _ ?_ ?_ ?_) ?_
      · exact hb.same (by repeat (first | exact hs3 | refine Same.put rfl ?_))
      · simp [q11]
      · simp
      rintro r ⟨env4, rfl, hs4⟩
      have p10 := hs4.get 10 rfl
      simp [q10] at p10
      rw [← pre_lt h13]
      have hs5 : Same [4, 5, 6, 7, 8] env env4 := by
        refine Same.trans ?_ (hs4.sub rfl)
        repeat (first | exact hs3 | refine Same.put rfl ?_)
      repeat (first
        | (with_reducible refine Evs.assoc ?_)
        | ((with_reducible refine Evs.some_bnd ?_); try dsimp only [sqK_nrm, sqK_exit, sqK_ret])
        | ((with_reducible apply Evs.bcndT); (focus (simp (disch := omega) [p10] <;> omega)))
        | ((with_reducible apply Evs.bcndF); (focus (simp (disch := omega) [p10] <;> omega)))
        | ((with_reducible apply Evs.step); (focus ((conv => lhs; simp (disch := omega) [p10]); done)); try dsimp only)
        | (simp only [n42_10_eq, n42_11_eq, n42_9_eq, n42_8_eq, n42_14_eq, n42_13_eq, n42_15_eq, n42_12_eq, n42_7_eq, n42_6_eq, n42_5_eq, n42_4_eq, n42_23_eq, n42_24_eq, n42_22_eq, n42_21_eq, n42_35_eq, n42_36_eq, n42_34_eq, n42_33_eq, n42_45_eq, n42_46_eq, n42_44_eq, n42_43_eq, n42_49_eq, n42_48_eq, n42_50_eq, n42_47_eq, n42_42_eq, n42_41_eq, n42_40_eq, n42_39_eq, n42_38_eq, n42_51_eq, n42_37_eq, n42_32_eq, n42_31_eq, n42_30_eq, n42_29_eq, n42_62_eq, n42_63_eq, n42_61_eq, n42_60_eq, n42_72_eq, n42_73_eq, n42_71_eq, n42_70_eq, n42_84_eq, n42_85_eq, n42_83_eq, n42_82_eq, n42_88_eq, n42_87_eq, n42_89_eq, n42_86_eq, n42_81_eq, n42_80_eq, n42_79_eq, n42_78_eq, n42_90_eq, n42_77_eq, n42_76_eq, n42_75_eq, n42_91_eq, n42_74_eq, n42_69_eq, n42_68_eq, n42_67_eq, n42_66_eq, n42_65_eq, n42_92_eq, n42_64_eq, n42_59_eq, n42_58_eq, n42_57_eq, n42_56_eq, n42_93_eq, n42_55_eq, n42_54_eq, n42_100_eq, n42_101_eq, n42_99_eq, n42_98_eq, n42_104_eq, n42_103_eq, n42_105_eq, n42_102_eq, n42_97_eq, n42_96_eq, n42_95_eq, n42_94_eq, n42_53_eq, n42_52_eq, n42_28_eq, n42_27_eq, n42_26_eq, n42_106_eq, n42_25_eq, n42_20_eq, n42_19_eq, n42_18_eq, n42_17_eq, n42_108_eq, n42_107_eq, n42_16_eq, n42_3_eq, n42_2_eq, n42_1_eq, n42_0_eq, sqK_nrm, sqK_exit, sqK_ret, inBlk_nrm, inBlk_ret, inBlk_same]))
      refine Evs.bnd (addB42 h _ key res w (j + 1) (by omega) (pre w b (j + 1)) _ ?_ ?_ ?_) ?_
      · exact hb.same (by repeat (first | exact hs5 | refine Same.put rfl ?_))
      · simp [p10]
      · simp
      rintro r ⟨env6, rfl, hs6⟩
      have t10 := hs6.get 10 rfl
      simp [p10] at t10
      repeat (first
        | (with_reducible refine Evs.assoc ?_)
        | ((with_reducible refine Evs.some_bnd ?_); try dsimp only [sqK_nrm, sqK_exit, sqK_ret])
        | ((with_reducible apply Evs.bcndT); (focus (simp (disch := omega) [t10] <;> omega)))
        | ((with_reducible apply Evs.bcndF); (focus (simp (disch := omega) [t10] <;> omega)))
        | ((with_reducible apply Evs.step); (focus ((conv => lhs; simp (disch := omega) [t10]); done)); try dsimp only)
        | (simp only [n42_10_eq, n42_11_eq, n42_9_eq, n42_8_eq, n42_14_eq, n42_13_eq, n42_15_eq, n42_12_eq, n42_7_eq, n42_6_eq, n42_5_eq, n42_4_eq, n42_23_eq, n42_24_eq, n42_22_eq, n42_21_eq, n42_35_eq, n42_36_eq, n42_34_eq, n42_33_eq, n42_45_eq, n42_46_eq, n42_44_eq, n42_43_eq, n42_49_eq, n42_48_eq, n42_50_eq, n42_47_eq, n42_42_eq, n42_41_eq, n42_40_eq, n42_39_eq, n42_38_eq, n42_51_eq, n42_37_eq, n42_32_eq, n42_31_eq, n42_30_eq, n42_29_eq, n42_62_eq, n42_63_eq, n42_61_eq, n42_60_eq, n42_72_eq, n42_73_eq, n42_71_eq, n42_70_eq, n42_84_eq, n42_85_eq, n42_83_eq, n42_82_eq, n42_88_eq, n42_87_eq, n42_89_eq, n42_86_eq, n42_81_eq, n42_80_eq, n42_79_eq, n42_78_eq, n42_90_eq, n42_77_eq, n42_76_eq, n42_75_eq, n42_91_eq, n42_74_eq, n42_69_eq, n42_68_eq, n42_67_eq, n42_66_eq, n42_65_eq, n42_92_eq, n42_64_eq, n42_59_eq, n42_58_eq, n42_57_eq, n42_56_eq, n42_93_eq, n42_55_eq, n42_54_eq, n42_100_eq, n42_101_eq, n42_99_eq, n42_98_eq, n42_104_eq, n42_103_eq, n42_105_eq, n42_102_eq, n42_97_eq, n42_96_eq, n42_95_eq, n42_94_eq, n42_53_eq, n42_52_eq, n42_28_eq, n42_27_eq, n42_26_eq, n42_106_eq, n42_25_eq, n42_20_eq, n42_19_eq, n42_18_eq, n42_17_eq, n42_108_eq, n42_107_eq, n42_16_eq, n42_3_eq, n42_2_eq, n42_1_eq, n42_0_eq, sqK_nrm, sqK_exit, sqK_ret, inBlk_nrm, inBlk_ret, inBlk_same]))
      refine Evs.ret ⟨rfl, _, _, rfl, by simp, ?_⟩
      refine Same.put rfl (Same.trans ?_ (hs6.sub rfl))
      repeat (first | exact hs5 | refine Same.put rfl ?_)
  · rintro s ⟨env', tr, rfl, f10, hs⟩
    repeat (first
      | (with_reducible refine Evs.assoc ?_)
      | ((with_reducible refine Evs.some_bnd ?_); try dsimp only [sqK_nrm, sqK_exit, sqK_ret])
      | ((with_reducible apply Evs.bcndT); (focus (simp (disch := omega) [f10] <;> omega)))
      | ((with_reducible apply Evs.bcndF); (focus (simp (disch := omega) [f10] <;> omega)))
      | ((with_reducible apply Evs.step); (focus ((conv => lhs; simp (disch := omega) [f10]); done)); try dsimp only)
      | (simp only [n42_10_eq, n42_11_eq, n42_9_eq, n42_8_eq, n42_14_eq, n42_13_eq, n42_15_eq, n42_12_eq, n42_7_eq, n42_6_eq, n42_5_eq, n42_4_eq, n42_23_eq, n42_24_eq, n42_22_eq, n42_21_eq, n42_35_eq, n42_36_eq, n42_34_eq, n42_33_eq, n42_45_eq, n42_46_eq, n42_44_eq, n42_43_eq, n42_49_eq, n42_48_eq, n42_50_eq, n42_47_eq, n42_42_eq, n42_41_eq, n42_40_eq, n42_39_eq, n42_38_eq, n42_51_eq, n42_37_eq, n42_32_eq, n42_31_eq, n42_30_eq, n42_29_eq, n42_62_eq, n42_63_eq, n42_61_eq, n42_60_eq, n42_72_eq, n42_73_eq, n42_71_eq, n42_70_eq, n42_84_eq, n42_85_eq, n42_83_eq, n42_82_eq, n42_88_eq, n42_87_eq, n42_89_eq, n42_86_eq, n42_81_eq, n42_80_eq, n42_79_eq, n42_78_eq, n42_90_eq, n42_77_eq, n42_76_eq, n42_75_eq, n42_91_eq, n42_74_eq, n42_69_eq, n42_68_eq, n42_67_eq, n42_66_eq, n42_65_eq, n42_92_eq, n42_64_eq, n42_59_eq, n42_58_eq, n42_57_eq, n42_56_eq, n42_93_eq, n42_55_eq, n42_54_eq, n42_100_eq, n42_101_eq, n42_99_eq, n42_98_eq, n42_104_eq, n42_103_eq, n42_105_eq, n42_102_eq, n42_97_eq, n42_96_eq, n42_95_eq, n42_94_eq, n42_53_eq, n42_52_eq, n42_28_eq, n42_27_eq, n42_26_eq, n42_106_eq, n42_25_eq, n42_20_eq, n42_19_eq, n42_18_eq, n42_17_eq, n42_108_eq, n42_107_eq, n42_16_eq, n42_3_eq, n42_2_eq, n42_1_eq, n42_0_eq, sqK_nrm, sqK_exit, sqK_ret, inBlk_nrm, inBlk_ret, inBlk_same]))
    exact Evs.ret ⟨by simp, _, _, rfl, by repeat (first | exact hs | refine Same.put rfl ?_)⟩

theorem walk42 (h : Heap) (key b : Nat → BitVec 8) : ∃ t, evBody (cx42 callA12) Try.f42 n42_0 [arr 32 key, arr 16 b, arr 256 sbF] h = some (arr 16 (encF (wd key) b), h ++ t) := by
  rw [b42]
  have main : Evs (evC (cx42 callA12) n42_0 ⟨[(0, arr 32 key), (1, arr 16 b), (2, arr 256 sbF), (3, .junk), (4, .junk), (5, .junk), (6, .junk), (7, .junk), (8, .junk), (9, .junk), (10, .junk), (11, .junk), (12, .junk), (13, .junk), (14, .junk), (15, .junk), (16, .junk), (17, .junk), (18, .junk), (28, .junk), (45, .junk), (49, .junk), (53, .junk), (74, .junk), (76, .junk), (80, .junk), (84, .junk), (108, .junk)], h⟩)
      (fun r => ∃ env t, r = (.ret, ⟨env, h ++ t⟩) ∧ mLoad (.arr 16 (.int .u8)) (env.get 6) (h ++ t) = some (arr 16 (encF (wd key) b))) := by
    obtain ⟨env, he⟩ : ∃ env : Env, env = [(0, arr 32 key), (1, arr 16 b), (2, arr 256 sbF), (3, .junk), (4, .junk), (5, .junk), (6, .junk), (7, .junk), (8, .junk), (9, .junk), (10, .junk), (11, .junk), (12, .junk), (13, .junk), (14, .junk), (15, .junk), (16, .junk), (17, .junk), (18, .junk), (28, .junk), (45, .junk), (49, .junk), (53, .junk), (74, .junk), (76, .junk), (80, .junk), (84, .junk), (108, .junk)] := ⟨_, rfl⟩
    rw [← he]
    have g0 : env.get 0 = arr 32 key := by rw [he]; rfl
    have g1 : env.get 1 = arr 16 b := by rw [he]; rfl
    have g2 : env.get 2 = arr 256 sbF := by rw [he]; rfl
    clear he
    repeat (first
      | (with_reducible refine Evs.assoc ?_)
      | ((with_reducible refine Evs.some_bnd ?_); try dsimp only [sqK_nrm, sqK_exit, sqK_ret])
      | ((with_reducible apply Evs.bcndT); (focus (simp (disch := omega) [g0, g1, g2, rows_fill0, rows_fill1, rows_fill2, rows_fill3, rows_fill] <;> omega)))
      | ((with_reducible apply Evs.bcndF); (focus (simp (disch := omega) [g0, g1, g2, rows_fill0, rows_fill1, rows_fill2, rows_fill3, rows_fill] <;> omega)))
      | ((with_reducible apply Evs.step); (focus ((conv => lhs; simp (disch := omega) [g0, g1, g2, rows_fill0, rows_fill1, rows_fill2, rows_fill3, rows_fill]); done)); try dsimp only)
      | (simp only [n42_10_eq, n42_11_eq, n42_9_eq, n42_8_eq, n42_14_eq, n42_13_eq, n42_15_eq, n42_12_eq, n42_7_eq, n42_6_eq, n42_5_eq, n42_4_eq, n42_23_eq, n42_24_eq, n42_22_eq, n42_21_eq, n42_35_eq, n42_36_eq, n42_34_eq, n42_33_eq, n42_45_eq, n42_46_eq, n42_44_eq, n42_43_eq, n42_49_eq, n42_48_eq, n42_50_eq, n42_47_eq, n42_42_eq, n42_41_eq, n42_40_eq, n42_39_eq, n42_38_eq, n42_51_eq, n42_37_eq, n42_32_eq, n42_31_eq, n42_30_eq, n42_29_eq, n42_62_eq, n42_63_eq, n42_61_eq, n42_60_eq, n42_72_eq, n42_73_eq, n42_71_eq, n42_70_eq, n42_84_eq, n42_85_eq, n42_83_eq, n42_82_eq, n42_88_eq, n42_87_eq, n42_89_eq, n42_86_eq, n42_81_eq, n42_80_eq, n42_79_eq, n42_78_eq, n42_90_eq, n42_77_eq, n42_76_eq, n42_75_eq, n42_91_eq, n42_74_eq, n42_69_eq, n42_68_eq, n42_67_eq, n42_66_eq, n42_65_eq, n42_92_eq, n42_64_eq, n42_59_eq, n42_58_eq, n42_57_eq, n42_56_eq, n42_93_eq, n42_55_eq, n42_54_eq, n42_100_eq, n42_101_eq, n42_99_eq, n42_98_eq, n42_104_eq, n42_103_eq, n42_105_eq, n42_102_eq, n42_97_eq, n42_96_eq, n42_95_eq, n42_94_eq, n42_53_eq, n42_52_eq, n42_28_eq, n42_27_eq, n42_26_eq, n42_106_eq, n42_25_eq, n42_20_eq, n42_19_eq, n42_18_eq, n42_17_eq, n42_108_eq, n42_107_eq, n42_16_eq, n42_3_eq, n42_2_eq, n42_1_eq, n42_0_eq, sqK_nrm, sqK_exit, sqK_ret, inBlk_nrm, inBlk_ret, inBlk_same]))
    refine Evs.bnd (addA42 h [] key (fun _ => 0#8) (wd key) b _ ?_ ?_) ?_
    · exact ⟨by simp, by simp, by simp, by simp, by simp⟩
    · simp
    rintro r ⟨env2, rfl, hs2⟩
    have hb : B42 h.length env2 := B42.same ⟨by simp, by simp, by simp, by simp, by simp⟩ hs2
    repeat (first
      | (with_reducible refine Evs.assoc ?_)
      | ((with_reducible refine Evs.some_bnd ?_); try dsimp only [sqK_nrm, sqK_exit, sqK_ret])
      | ((with_reducible apply Evs.bcndT); (focus (simp (disch := omega) [g0] <;> omega)))
      | ((with_reducible apply Evs.bcndF); (focus (simp (disch := omega) [g0] <;> omega)))
      | ((with_reducible apply Evs.step); (focus ((conv => lhs; simp (disch := omega) [g0]); done)); try dsimp only)
      | (simp only [n42_10_eq, n42_11_eq, n42_9_eq, n42_8_eq, n42_14_eq, n42_13_eq, n42_15_eq, n42_12_eq, n42_7_eq, n42_6_eq, n42_5_eq, n42_4_eq, n42_23_eq, n42_24_eq, n42_22_eq, n42_21_eq, n42_35_eq, n42_36_eq, n42_34_eq, n42_33_eq, n42_45_eq, n42_46_eq, n42_44_eq, n42_43_eq, n42_49_eq, n42_48_eq, n42_50_eq, n42_47_eq, n42_42_eq, n42_41_eq, n42_40_eq, n42_39_eq, n42_38_eq, n42_51_eq, n42_37_eq, n42_32_eq, n42_31_eq, n42_30_eq, n42_29_eq, n42_62_eq, n42_63_eq, n42_61_eq, n42_60_eq, n42_72_eq, n42_73_eq, n42_71_eq, n42_70_eq, n42_84_eq, n42_85_eq, n42_83_eq, n42_82_eq, n42_88_eq, n42_87_eq, n42_89_eq, n42_86_eq, n42_81_eq, n42_80_eq, n42_79_eq, n42_78_eq, n42_90_eq, n42_77_eq, n42_76_eq, n42_75_eq, n42_91_eq, n42_74_eq, n42_69_eq, n42_68_eq, n42_67_eq, n42_66_eq, n42_65_eq, n42_92_eq, n42_64_eq, n42_59_eq, n42_58_eq, n42_57_eq, n42_56_eq, n42_93_eq, n42_55_eq, n42_54_eq, n42_100_eq, n42_101_eq, n42_99_eq, n42_98_eq, n42_104_eq, n42_103_eq, n42_105_eq, n42_102_eq, n42_97_eq, n42_96_eq, n42_95_eq, n42_94_eq, n42_53_eq, n42_52_eq, n42_28_eq, n42_27_eq, n42_26_eq, n42_106_eq, n42_25_eq, n42_20_eq, n42_19_eq, n42_18_eq, n42_17_eq, n42_108_eq, n42_107_eq, n42_16_eq, n42_3_eq, n42_2_eq, n42_1_eq, n42_0_eq, sqK_nrm, sqK_exit, sqK_ret, inBlk_nrm, inBlk_ret, inBlk_same]))
    refine Evs.bnd (rounds42 h key (fun _ => 0#8) b (wd key) _ ?_ ?_) ?_
    · exact hb.same (by repeat (first | exact Same.refl _ _ | refine Same.put rfl ?_))
    · simp
    rintro r ⟨env3, tr, rfl, hs3⟩
    have hb3 : B42 h.length env3 := B42.same (hb.same (by repeat (first | exact Same.refl _ _ | refine Same.put rfl ?_))) hs3
    obtain ⟨b4, b5, b6, b7, b8⟩ := hb3
    unfold H42
    repeat (first
      | (with_reducible refine Evs.assoc ?_)
      | ((with_reducible refine Evs.some_bnd ?_); try dsimp only [sqK_nrm, sqK_exit, sqK_ret])
      | ((with_reducible apply Evs.bcndT); (focus (simp (disch := omega) [b4, b6] <;> omega)))
      | ((with_reducible apply Evs.bcndF); (focus (simp (disch := omega) [b4, b6] <;> omega)))
      | ((with_reducible apply Evs.step); (focus ((conv => lhs; simp (disch := omega) [b4, b6]); done)); try dsimp only)
      | (simp only [n42_10_eq, n42_11_eq, n42_9_eq, n42_8_eq, n42_14_eq, n42_13_eq, n42_15_eq, n42_12_eq, n42_7_eq, n42_6_eq, n42_5_eq, n42_4_eq, n42_23_eq, n42_24_eq, n42_22_eq, n42_21_eq, n42_35_eq, n42_36_eq, n42_34_eq, n42_33_eq, n42_45_eq, n42_46_eq, n42_44_eq, n42_43_eq, n42_49_eq, n42_48_eq, n42_50_eq, n42_47_eq, n42_42_eq, n42_41_eq, n42_40_eq, n42_39_eq, n42_38_eq, n42_51_eq, n42_37_eq, n42_32_eq, n42_31_eq, n42_30_eq, n42_29_eq, n42_62_eq, n42_63_eq, n42_61_eq, n42_60_eq, n42_72_eq, n42_73_eq, n42_71_eq, n42_70_eq, n42_84_eq, n42_85_eq, n42_83_eq, n42_82_eq, n42_88_eq, n42_87_eq, n42_89_eq, n42_86_eq, n42_81_eq, n42_80_eq, n42_79_eq, n42_78_eq, n42_90_eq, n42_77_eq, n42_76_eq, n42_75_eq, n42_91_eq, n42_74_eq, n42_69_eq, n42_68_eq, n42_67_eq, n42_66_eq, n42_65_eq, n42_92_eq, n42_64_eq, n42_59_eq, n42_58_eq, n42_57_eq, n42_56_eq, n42_93_eq, n42_55_eq, n42_54_eq, n42_100_eq, n42_101_eq, n42_99_eq, n42_98_eq, n42_104_eq, n42_103_eq, n42_105_eq, n42_102_eq, n42_97_eq, n42_96_eq, n42_95_eq, n42_94_eq, n42_53_eq, n42_52_eq, n42_28_eq, n42_27_eq, n42_26_eq, n42_106_eq, n42_25_eq, n42_20_eq, n42_19_eq, n42_18_eq, n42_17_eq, n42_108_eq, n42_107_eq, n42_16_eq, n42_3_eq, n42_2_eq, n42_1_eq, n42_0_eq, sqK_nrm, sqK_exit, sqK_ret, inBlk_nrm, inBlk_ret, inBlk_same]))
    refine Evs.ret ⟨_, _, rfl, ?_⟩
    simp [b6]
  obtain ⟨r, hr, env, t, rfl, e0⟩ := main
  refine ⟨t, ?_⟩
  rw [hr]
  simp [e0, oneOrTuple]

noncomputable def c42 := conC (fun x : (Nat → BitVec 8) × (Nat → BitVec 8) => [arr 32 x.1, arr 16 x.2, arr 256 sbF]) (fun _ _ => True) (fun x h => (arr 16 (encF (wd x.1) x.2), h))
noncomputable def callA13 : Calling := addC callA12 42 c42
theorem c42_eq (key b : Nat → BitVec 8) (h : Heap) : c42 [arr 32 key, arr 16 b, arr 256 sbF] h = some (arr 16 (encF (wd key) b), h) :=
  conC_eq (enc := fun x : (Nat → BitVec 8) × (Nat → BitVec 8) => [arr 32 x.1, arr 16 x.2, arr 256 sbF]) (a := (key, b)) (f := fun x h => (arr 16 (encF (wd x.1) x.2), h))
    (fun x y h e => by
      have e1 := arr_inj.1 (List.cons.inj e).1
      have e2 := arr_inj.1 (List.cons.inj (List.cons.inj e).2).1
      simp only [Prod.mk.injEq, and_true]
      exact arr_congr (encF_congr (fun i _ p hp => wd_congr e1 i p hp) e2)) trivial
theorem callA13_ok : CallOK Try.prog callA13 := addC_con callA12_ok k42 fun x h _ => by
  obtain ⟨t, ht⟩ := walk42 h x.1 x.2
  exact (s42 callA12_ok ht).drop0 t rfl
@[simp] theorem callA13_42 (key b : Nat → BitVec 8) (h : Heap) : callA13 42 [arr 32 key, arr 16 b, arr 256 sbF] h = some (arr 16 (encF (wd key) b), h) := by simp [callA13, addC, c42_eq]
@[simp] theorem callA13_43 (h : Heap) : callA13 43 [] h = some (arr 256 sbF, h) := by simp [callA13, addC]
@[simp] theorem callA13_44 (key : Nat → BitVec 8) (h : Heap) : callA13 44 [arr 32 key, arr 256 sbF] h = some (mat 60 4 (wd key), h) := by simp [callA13, addC]
@[simp] theorem callA13_42s (key b : Nat → BitVec 8) (h : Heap) : still callA13 42 [arr 32 key, arr 16 b, arr 256 sbF] h = some (arr 16 (encF (wd key) b), h) := still_of fun t => by simp
@[simp] theorem callA13_43s (h : Heap) : still callA13 43 [] h = some (arr 256 sbF, h) := still_of fun t => by simp
@[simp] theorem callA13_44s (key : Nat → BitVec 8) (h : Heap) : still callA13 44 [arr 32 key, arr 256 sbF] h = some (mat 60 4 (wd key), h) := still_of fun t => by simp

end Go.Vab

/- How the evaluator reads the functions of a seat. Printed by wip/tools/gen.py (own work). -/
namespace Go.Vab
open Go Go.Proofs
/-! vestry/vestryref08.Encrypt -/
noncomputable def cx20 (call : Calling) : Ctx := ⟨call, TT, 9, [5, 6, 7, 8]⟩
noncomputable def n20_0 : Code := bodyOf Try.f20
noncomputable def n20_1 : Code := cR n20_0
noncomputable def n20_2 : Code := cR n20_1
@[simp] theorem n20_2_eq (call : Calling) (s : St) : evC (cx20 call) n20_2 s = some (.ret, s) := xE
theorem n20_1_ok : drawOk (cOps (cL n20_1)).toList = true := by kernel_rfl
@[simp] theorem n20_1_eq (call : Calling) (env : Env) (h : Heap) : evC (cx20 call) n20_1 ⟨env, h⟩ = (bnd (pureV h (mLoad (.arr 32 (.int .u8)) (env.get 2) h)) fun r0 => bnd (pureV r0.2 (mLoad (.arr 16 (.int .u8)) (env.get 3) r0.2)) fun r1 => bnd (still call 43 [] r1.2) fun r2 => bnd (still call 42 [r0.1, r1.1, r2.1] r2.2) fun r3 => bnd (stU (.arr 16 (.int .u8)) (env.get 4) r3.1 r3.2) fun r4 => evC (cx20 call) n20_2 ⟨env, r4.2⟩) := (xSD 1 (cOps (cL n20_1)) (cR n20_1) n20_1_ok).trans (by
  refine opsK_0 ?_
  refine oP 5 fun r0 => ?_
  refine oP 6 fun r1 => ?_
  refine oP 7 fun r2 => ?_
  refine oP 8 fun r3 => ?_
  refine oN fun r4 => ?_
  exact oE)
@[simp] theorem n20_0_eq (call : Calling) (env : Env) (h : Heap) : evC (cx20 call) n20_0 ⟨env, h⟩ = (bnd (mNew (.arr 32 (.int .u8)) (env.get 0) h) fun r0 => bnd (mNew (.arr 16 (.int .u8)) (env.get 1) r0.2) fun r1 => bnd (mNew (.arr 16 (.int .u8)) (arr 16 fun _ => 0#8) r1.2) fun r2 => evC (cx20 call) n20_1 ⟨(Env.put (Env.put (Env.put env 2 r0.1) 3 r1.1) 4 r2.1), r2.2⟩) := (xSR 0 (cOps (cL n20_0)) (cR n20_0)).trans (by
  refine opsK_0 ?_
  refine oP 2 fun r0 => ?_
  refine oP 3 fun r1 => ?_
  refine oP 4 fun r2 => ?_
  exact oE)
theorem b20 (call : Calling) (a0 a1 : AV) (h : Heap) : evBody (cx20 call) Try.f20 n20_0 [a0, a1] h = bnd (evC (cx20 call) n20_0 ⟨[(0, a0), (1, a1), (2, .junk), (3, .junk), (4, .junk)], h⟩) (retK fun s => bnd (bnd (mLoad (.arr 16 (.int .u8)) (s.env.get 4) s.heap) fun v => bnd (some []) fun vs => some (v :: vs)) fun vs => some (oneOrTuple vs)) := by kernel_rfl
theorem fn20 : Try.prog.funcs[20]? = some Try.f20 := by kernel_rfl
theorem k20 : Callable Try.prog 20 := ⟨Try.f20, fn20, by kernel_rfl, by kernel_rfl⟩
theorem s20 {call : Calling} (hc : CallOK Try.prog call) {args : List AV} {h h' : Heap} {v : AV} (he : evBody (cx20 call) Try.f20 n20_0 args h = some (v, h')) : Spec Try.prog 20 args h v h' := body_sound (C := cx20 call) TT_ok hc mixed_ok fn20 (by kernel_rfl) (by kernel_rfl) he
end Go.Vab

/-
  The document's block, whole.
-/
namespace Go.Vab
open Go Go.Proofs

theorem walk20 (h : Heap) (key b : Nat → BitVec 8) : ∃ t, evBody (cx20 callA13) Try.f20 n20_0 [arr 32 key, arr 16 b] h = some (arr 16 (encF (wd key) b), h ++ t) := by
  rw [b20]
  have main : Evs (evC (cx20 callA13) n20_0 ⟨[(0, arr 32 key), (1, arr 16 b), (2, .junk), (3, .junk), (4, .junk)], h⟩) (fun r => ∃ env t, r = (.ret, ⟨env, h ++ t⟩) ∧ mLoad (.arr 16 (.int .u8)) (env.get 4) (h ++ t) = some (arr 16 (encF (wd key) b))) := by
    obtain ⟨env, he⟩ : ∃ env : Env, env = [(0, arr 32 key), (1, arr 16 b), (2, .junk), (3, .junk), (4, .junk)] := ⟨_, rfl⟩
    rw [← he]
    have g0 : env.get 0 = arr 32 key := by rw [he]; rfl
    have g1 : env.get 1 = arr 16 b := by rw [he]; rfl
    clear he
    repeat (first
      | (with_reducible refine Evs.assoc ?_)
      | ((with_reducible refine Evs.some_bnd ?_); try dsimp only [sqK_nrm, sqK_exit, sqK_ret])
      | ((with_reducible apply Evs.bcndT); (focus (simp (disch := omega) [g0, g1] <;> omega)))
      | ((with_reducible apply Evs.bcndF); (focus (simp (disch := omega) [g0, g1] <;> omega)))
      | ((with_reducible apply Evs.step); (focus ((conv => lhs; simp (disch := omega) [g0, g1]); done)); try dsimp only)
      | (simp only [n20_2_eq, n20_1_eq, n20_0_eq, sqK_nrm, sqK_exit, sqK_ret, inBlk_nrm, inBlk_ret, inBlk_same]))
    exact Evs.ret ⟨_, _, rfl, by simp⟩
  obtain ⟨r, hr, env, t, rfl, e0⟩ := main
  refine ⟨t, ?_⟩
  rw [hr]
  simp [e0, oneOrTuple]

noncomputable def c20 := conC (fun x : (Nat → BitVec 8) × (Nat → BitVec 8) => [arr 32 x.1, arr 16 x.2]) (fun _ _ => True) (fun x h => (arr 16 (encF (wd x.1) x.2), h))
noncomputable def callA14 : Calling := addC callA13 20 c20
theorem c20_eq (key b : Nat → BitVec 8) (h : Heap) : c20 [arr 32 key, arr 16 b] h = some (arr 16 (encF (wd key) b), h) :=
  conC_eq (enc := fun x : (Nat → BitVec 8) × (Nat → BitVec 8) => [arr 32 x.1, arr 16 x.2]) (a := (key, b)) (f := fun x h => (arr 16 (encF (wd x.1) x.2), h))
    (fun x y h e => by
      have e1 := arr_inj.1 (List.cons.inj e).1
      have e2 := arr_inj.1 (List.cons.inj (List.cons.inj e).2).1
      simp only [Prod.mk.injEq, and_true]
      exact arr_congr (encF_congr (fun i _ p hp => wd_congr e1 i p hp) e2)) trivial
theorem callA14_ok : CallOK Try.prog callA14 := addC_con callA13_ok k20 fun x h _ => by
  obtain ⟨t, ht⟩ := walk20 h x.1 x.2
  exact (s20 callA13_ok ht).drop0 t rfl

@[simp] theorem callA14_20 (key b : Nat → BitVec 8) (h : Heap) : callA14 20 [arr 32 key, arr 16 b] h = some (arr 16 (encF (wd key) b), h) := by simp [callA14, addC, c20_eq]
@[simp] theorem callA14_19 (key b : Nat → BitVec 8) (h : Heap) : callA14 19 [arr 32 key, arr 16 b] h = some (arr 16 (encF (wd key) b), h) := by simp [callA14, callA13, callA12, callA11, callA10, callA9, callA8, callA7, callA6, addC]
@[simp] theorem callA14_42 (key b : Nat → BitVec 8) (h : Heap) : callA14 42 [arr 32 key, arr 16 b, arr 256 sbF] h = some (arr 16 (encF (wd key) b), h) := by simp [callA14, addC]
@[simp] theorem callA14_43 (h : Heap) : callA14 43 [] h = some (arr 256 sbF, h) := by simp [callA14, addC]
@[simp] theorem callA14_20s (key b : Nat → BitVec 8) (h : Heap) : still callA14 20 [arr 32 key, arr 16 b] h = some (arr 16 (encF (wd key) b), h) := still_of fun t => by simp
@[simp] theorem callA14_19s (key b : Nat → BitVec 8) (h : Heap) : still callA14 19 [arr 32 key, arr 16 b] h = some (arr 16 (encF (wd key) b), h) := still_of fun t => by simp
@[simp] theorem callA14_42s (key b : Nat → BitVec 8) (h : Heap) : still callA14 42 [arr 32 key, arr 16 b, arr 256 sbF] h = some (arr 16 (encF (wd key) b), h) := still_of fun t => by simp
@[simp] theorem callA14_43s (h : Heap) : still callA14 43 [] h = some (arr 256 sbF, h) := still_of fun t => by simp

end Go.Vab

/- How the evaluator reads the functions of a seat. Printed by wip/tools/gen.py (own work). -/
namespace Go.Vab
open Go Go.Proofs
/-! vestry/siv.of -/
noncomputable def cx50 (call : Calling) : Ctx := ⟨call, TT, 28, [4, 6, 7, 8, 9, 10, 11, 12, 13, 14, 15, 16, 17, 18, 19, 20, 21, 22, 23, 24, 25, 26, 27]⟩
noncomputable def n50_0 : Code := bodyOf Try.f50
noncomputable def n50_1 : Code := cR n50_0
noncomputable def n50_2 : Code := cL n50_1
noncomputable def n50_3 : Code := cR n50_2
noncomputable def n50_4 : Code := cB n50_3
noncomputable def n50_5 : Code := cB n50_4
noncomputable def n50_6 : Code := cL n50_5
noncomputable def n50_7 : Code := cR n50_6
noncomputable def n50_8 : Code := cL n50_7
noncomputable def n50_9 : Code := cR n50_7
noncomputable def n50_10 : Code := cR n50_5
noncomputable def n50_11 : Code := cL n50_10
noncomputable def n50_12 : Code := cB n50_11
noncomputable def n50_13 : Code := cR n50_12
noncomputable def n50_14 : Code := cR n50_10
noncomputable def n50_15 : Code := cR n50_1
noncomputable def n50_16 : Code := cR n50_15
@[simp] theorem n50_8_eq (call : Calling) (s : St) : evC (cx50 call) n50_8 s = some (.nrm, s) := xK
@[simp] theorem n50_9_eq (call : Calling) (s : St) : evC (cx50 call) n50_9 s = some (.exit 0, s) := xX 0
@[simp] theorem n50_7_eq (call : Calling) (s : St) : evC (cx50 call) n50_7 s = cnd (s.env.get 5) (evC (cx50 call) n50_8 s) (evC (cx50 call) n50_9 s) := xC 5 _ _
@[simp] theorem n50_6_eq (call : Calling) (env : Env) (h : Heap) : evC (cx50 call) n50_6 ⟨env, h⟩ = (bnd (pureV h (mBin .geq (env.get 3) (nat 0))) fun r1 => evC (cx50 call) n50_7 ⟨(Env.put env 5 r1.1), r1.2⟩) := (xSR 2 (cOps (cL n50_6)) (cR n50_6)).trans (by
  refine opsK_0 ?_
  refine oT 4 (env.get 3) ?_
  refine oP 5 fun r1 => ?_
  exact oE)
theorem n50_13_ok : drawOk (cOps n50_13).toList = true := by kernel_rfl
@[simp] theorem n50_13_eq (call : Calling) (env : Env) (h : Heap) : evC (cx50 call) n50_13 ⟨env, h⟩ = (bnd (pureV h (mFieldAddr ty66 (env.get 2) 1)) fun r0 => bnd (pureV r0.2 (mLoad (.int .u64) r0.1 r0.2)) fun r1 => bnd (pureV r1.2 (mBin .shl r1.1 (u64 8#64))) fun r2 => bnd (pureV r2.2 (mBin .add (env.get 3) (nat 8))) fun r4 => bnd (pureV r4.2 (mIdxA (.arr 16 (.int .u8)) (env.get 1) r4.1)) fun r5 => bnd (pureV r5.2 (mLoad (.int .u8) r5.1 r5.2)) fun r6 => bnd (pureV r6.2 (mConv .u64 r6.1)) fun r7 => bnd (pureV r7.2 (mBin .or r2.1 r7.1)) fun r8 => bnd (pureV r8.2 (mFieldAddr ty66 (env.get 2) 1)) fun r9 => bnd (stU (.int .u64) r9.1 r8.1 r9.2) fun r10 => some (.nrm, ⟨env, r10.2⟩)) := (xD 5 (cOps n50_13) n50_13_ok).trans (by
  refine opsK_0 ?_
  refine oP 17 fun r0 => ?_
  refine oP 18 fun r1 => ?_
  refine oP 19 fun r2 => ?_
  refine oT 20 (env.get 3) ?_
  refine oP 21 fun r4 => ?_
  refine oP 22 fun r5 => ?_
  refine oP 23 fun r6 => ?_
  refine oP 24 fun r7 => ?_
  refine oP 25 fun r8 => ?_
  refine oP 26 fun r9 => ?_
  refine oN fun r10 => ?_
  exact oE)
theorem n50_12_ok : drawOk (cOps (cL n50_12)).toList = true := by kernel_rfl
@[simp] theorem n50_12_eq (call : Calling) (env : Env) (h : Heap) : evC (cx50 call) n50_12 ⟨env, h⟩ = (bnd (pureV h (mFieldAddr ty66 (env.get 2) 0)) fun r0 => bnd (pureV r0.2 (mLoad (.int .u64) r0.1 r0.2)) fun r1 => bnd (pureV r1.2 (mBin .shl r1.1 (u64 8#64))) fun r2 => bnd (pureV r2.2 (mIdxA (.arr 16 (.int .u8)) (env.get 1) (env.get 3))) fun r4 => bnd (pureV r4.2 (mLoad (.int .u8) r4.1 r4.2)) fun r5 => bnd (pureV r5.2 (mConv .u64 r5.1)) fun r6 => bnd (pureV r6.2 (mBin .or r2.1 r6.1)) fun r7 => bnd (pureV r7.2 (mFieldAddr ty66 (env.get 2) 0)) fun r8 => bnd (stU (.int .u64) r8.1 r7.1 r8.2) fun r9 => evC (cx50 call) n50_13 ⟨env, r9.2⟩) := (xSD 4 (cOps (cL n50_12)) (cR n50_12) n50_12_ok).trans (by
  refine opsK_0 ?_
  refine oP 8 fun r0 => ?_
  refine oP 9 fun r1 => ?_
  refine oP 10 fun r2 => ?_
  refine oT 11 (env.get 3) ?_
  refine oP 12 fun r4 => ?_
  refine oP 13 fun r5 => ?_
  refine oP 14 fun r6 => ?_
  refine oP 15 fun r7 => ?_
  refine oP 16 fun r8 => ?_
  refine oN fun r9 => ?_
  exact oE)
@[simp] theorem n50_11_eq (call : Calling) (s : St) : evC (cx50 call) n50_11 s = bnd (evC (cx50 call) n50_12 s) fun r => some (inBlk 1 r) := xB 1 _
@[simp] theorem n50_14_eq (call : Calling) (env : Env) (h : Heap) : evC (cx50 call) n50_14 ⟨env, h⟩ = (bnd (pureV h (mBin .sub (env.get 3) (nat 1))) fun r1 => some (.nrm, ⟨(Env.put env 3 r1.1), r1.2⟩)) := (xR 3 (cOps n50_14)).trans (by
  refine opsK_0 ?_
  refine oT 6 (env.get 3) ?_
  refine oP 7 fun r1 => ?_
  refine oT 3 r1.1 ?_
  exact oE)
@[simp] theorem n50_10_eq (call : Calling) (s : St) : evC (cx50 call) n50_10 s = bnd (evC (cx50 call) n50_11 s) (sqK (evC (cx50 call) n50_14)) := xS _ _
@[simp] theorem n50_5_eq (call : Calling) (s : St) : evC (cx50 call) n50_5 s = bnd (evC (cx50 call) n50_6 s) (sqK (evC (cx50 call) n50_10)) := xS _ _
@[simp] theorem n50_4_eq (call : Calling) (s : St) : evC (cx50 call) n50_4 s = evLoop (evC (cx50 call) n50_5) s := xL _
@[simp] theorem n50_3_eq (call : Calling) (s : St) : evC (cx50 call) n50_3 s = bnd (evC (cx50 call) n50_4 s) fun r => some (inBlk 0 r) := xB 0 _
@[simp] theorem n50_2_eq (call : Calling) (env : Env) (h : Heap) : evC (cx50 call) n50_2 ⟨env, h⟩ = ( evC (cx50 call) n50_3 ⟨(Env.put env 3 (nat 7)), h⟩) := (xSR 1 (cOps (cL n50_2)) (cR n50_2)).trans (by
  refine opsK_0 ?_
  refine oT 3 (nat 7) ?_
  exact oE)
@[simp] theorem n50_16_eq (call : Calling) (s : St) : evC (cx50 call) n50_16 s = some (.ret, s) := xE
@[simp] theorem n50_15_eq (call : Calling) (env : Env) (h : Heap) : evC (cx50 call) n50_15 ⟨env, h⟩ = (bnd (pureV h (mLoad ty66 (env.get 2) h)) fun r0 => bnd (stU ty66 (env.get 2) r0.1 r0.2) fun r1 => evC (cx50 call) n50_16 ⟨env, r1.2⟩) := (xSR 6 (cOps (cL n50_15)) (cR n50_15)).trans (by
  refine opsK_0 ?_
  refine oP 27 fun r0 => ?_
  refine oN fun r1 => ?_
  exact oE)
@[simp] theorem n50_1_eq (call : Calling) (s : St) : evC (cx50 call) n50_1 s = bnd (evC (cx50 call) n50_2 s) (sqK (evC (cx50 call) n50_15)) := xS _ _
@[simp] theorem n50_0_eq (call : Calling) (env : Env) (h : Heap) : evC (cx50 call) n50_0 ⟨env, h⟩ = (bnd (mNew (.arr 16 (.int .u8)) (env.get 0) h) fun r0 => bnd (mNew ty66 (.node [(u64 0#64), (u64 0#64)]) r0.2) fun r1 => evC (cx50 call) n50_1 ⟨(Env.put (Env.put env 1 r0.1) 2 r1.1), r1.2⟩) := (xSR 0 (cOps (cL n50_0)) (cR n50_0)).trans (by
  refine opsK_0 ?_
  refine oP 1 fun r0 => ?_
  refine oP 2 fun r1 => ?_
  exact oE)
theorem b50 (call : Calling) (a0 : AV) (h : Heap) : evBody (cx50 call) Try.f50 n50_0 [a0] h = bnd (evC (cx50 call) n50_0 ⟨[(0, a0), (1, .junk), (2, .junk), (3, .junk), (5, .junk)], h⟩) (retK fun s => bnd (bnd (mLoad ty66 (s.env.get 2) s.heap) fun v => bnd (some []) fun vs => some (v :: vs)) fun vs => some (oneOrTuple vs)) := by kernel_rfl
theorem fn50 : Try.prog.funcs[50]? = some Try.f50 := by kernel_rfl
theorem k50 : Callable Try.prog 50 := ⟨Try.f50, fn50, by kernel_rfl, by kernel_rfl⟩
theorem s50 {call : Calling} (hc : CallOK Try.prog call) {args : List AV} {h h' : Heap} {v : AV} (he : evBody (cx50 call) Try.f50 n50_0 args h = some (v, h')) : Spec Try.prog 50 args h v h' := body_sound (C := cx50 call) TT_ok hc mixed_ok fn50 (by kernel_rfl) (by kernel_rfl) he
end Go.Vab

/- How the evaluator reads the functions of a seat. Printed by wip/tools/gen.py (own work). -/
namespace Go.Vab
open Go Go.Proofs
/-! (vestry/siv.element).bytes -/
noncomputable def cx52 (call : Calling) : Ctx := ⟨call, TT, 26, [6, 7, 8, 9, 10, 11, 12, 13, 14, 15, 16, 17, 18, 19, 20, 21, 22, 23, 24, 25]⟩
noncomputable def n52_0 : Code := bodyOf Try.f52
noncomputable def n52_1 : Code := cR n52_0
noncomputable def n52_2 : Code := cL n52_1
noncomputable def n52_3 : Code := cR n52_2
noncomputable def n52_4 : Code := cB n52_3
noncomputable def n52_5 : Code := cB n52_4
noncomputable def n52_6 : Code := cR n52_5
noncomputable def n52_7 : Code := cL n52_6
noncomputable def n52_8 : Code := cL n52_7
noncomputable def n52_9 : Code := cR n52_7
noncomputable def n52_10 : Code := cR n52_6
noncomputable def n52_11 : Code := cL n52_10
noncomputable def n52_12 : Code := cB n52_11
noncomputable def n52_13 : Code := cR n52_12
noncomputable def n52_14 : Code := cR n52_13
noncomputable def n52_15 : Code := cR n52_10
noncomputable def n52_16 : Code := cR n52_1
noncomputable def n52_17 : Code := cR n52_16
@[simp] theorem n52_8_eq (call : Calling) (s : St) : evC (cx52 call) n52_8 s = some (.nrm, s) := xK
@[simp] theorem n52_9_eq (call : Calling) (s : St) : evC (cx52 call) n52_9 s = some (.exit 0, s) := xX 0
@[simp] theorem n52_7_eq (call : Calling) (s : St) : evC (cx52 call) n52_7 s = cnd (s.env.get 5) (evC (cx52 call) n52_8 s) (evC (cx52 call) n52_9 s) := xC 5 _ _
@[simp] theorem n52_14_eq (call : Calling) (env : Env) (h : Heap) : evC (cx52 call) n52_14 ⟨env, h⟩ = (bnd (pureV h (mBin .add (env.get 3) (nat 8))) fun r1 => bnd (pureV r1.2 (mFieldAddr ty66 (env.get 1) 1)) fun r2 => bnd (pureV r2.2 (mLoad (.int .u64) r2.1 r2.2)) fun r3 => bnd (pureV r3.2 (mBin .mul (nat 8) (env.get 3))) fun r5 => bnd (pureV r5.2 (mBin .shr r3.1 r5.1)) fun r6 => bnd (pureV r6.2 (mConv .u8 r6.1)) fun r7 => bnd (pureV r7.2 (mIdxA (.arr 16 (.int .u8)) (env.get 2) r1.1)) fun r8 => bnd (stU (.int .u8) r8.1 r7.1 r8.2) fun r9 => some (.nrm, ⟨env, r9.2⟩)) := (xR 5 (cOps n52_14)).trans (by
  refine opsK_0 ?_
  refine oT 15 (env.get 3) ?_
  refine oP 16 fun r1 => ?_
  refine oP 17 fun r2 => ?_
  refine oP 18 fun r3 => ?_
  refine oT 19 (env.get 3) ?_
  refine oP 20 fun r5 => ?_
  refine oP 21 fun r6 => ?_
  refine oP 22 fun r7 => ?_
  refine oP 23 fun r8 => ?_
  refine oN fun r9 => ?_
  exact oE)
@[simp] theorem n52_13_eq (call : Calling) (env : Env) (h : Heap) : evC (cx52 call) n52_13 ⟨env, h⟩ = (bnd (pureV h (mFieldAddr ty66 (env.get 1) 0)) fun r1 => bnd (pureV r1.2 (mLoad (.int .u64) r1.1 r1.2)) fun r2 => bnd (pureV r2.2 (mBin .mul (nat 8) (env.get 3))) fun r4 => bnd (pureV r4.2 (mBin .shr r2.1 r4.1)) fun r5 => bnd (pureV r5.2 (mConv .u8 r5.1)) fun r6 => bnd (pureV r6.2 (mIdxA (.arr 16 (.int .u8)) (env.get 2) (env.get 3))) fun r7 => bnd (stU (.int .u8) r7.1 r6.1 r7.2) fun r8 => evC (cx52 call) n52_14 ⟨env, r8.2⟩) := (xSR 4 (cOps (cL n52_13)) (cR n52_13)).trans (by
  refine opsK_0 ?_
  refine oT 7 (env.get 3) ?_
  refine oP 8 fun r1 => ?_
  refine oP 9 fun r2 => ?_
  refine oT 10 (env.get 3) ?_
  refine oP 11 fun r4 => ?_
  refine oP 12 fun r5 => ?_
  refine oP 13 fun r6 => ?_
  refine oP 14 fun r7 => ?_
  refine oN fun r8 => ?_
  exact oE)
@[simp] theorem n52_12_eq (call : Calling) (env : Env) (h : Heap) : evC (cx52 call) n52_12 ⟨env, h⟩ = ( evC (cx52 call) n52_13 ⟨(Env.put env 3 (env.get 4)), h⟩) := (xSR 3 (cOps (cL n52_12)) (cR n52_12)).trans (by
  refine opsK_0 ?_
  refine oT 6 (env.get 4) ?_
  refine oT 3 (env.get 4) ?_
  exact oE)
@[simp] theorem n52_11_eq (call : Calling) (s : St) : evC (cx52 call) n52_11 s = bnd (evC (cx52 call) n52_12 s) fun r => some (inBlk 1 r) := xB 1 _
@[simp] theorem n52_15_eq (call : Calling) (env : Env) (h : Heap) : evC (cx52 call) n52_15 ⟨env, h⟩ = (bnd (pureV h (mBin .add (env.get 4) (nat 1))) fun r0 => some (.nrm, ⟨(Env.put env 4 r0.1), r0.2⟩)) := (xR 6 (cOps n52_15)).trans (by
  refine opsK_0 ?_
  refine oP 24 fun r0 => ?_
  refine oT 4 r0.1 ?_
  exact oE)
@[simp] theorem n52_10_eq (call : Calling) (s : St) : evC (cx52 call) n52_10 s = bnd (evC (cx52 call) n52_11 s) (sqK (evC (cx52 call) n52_15)) := xS _ _
@[simp] theorem n52_6_eq (call : Calling) (s : St) : evC (cx52 call) n52_6 s = bnd (evC (cx52 call) n52_7 s) (sqK (evC (cx52 call) n52_10)) := xS _ _
@[simp] theorem n52_5_eq (call : Calling) (env : Env) (h : Heap) : evC (cx52 call) n52_5 ⟨env, h⟩ = (bnd (pureV h (mBin .lss (env.get 4) (nat 8))) fun r0 => evC (cx52 call) n52_6 ⟨(Env.put env 5 r0.1), r0.2⟩) := (xSR 2 (cOps (cL n52_5)) (cR n52_5)).trans (by
  refine opsK_0 ?_
  refine oP 5 fun r0 => ?_
  exact oE)
@[simp] theorem n52_4_eq (call : Calling) (s : St) : evC (cx52 call) n52_4 s = evLoop (evC (cx52 call) n52_5) s := xL _
@[simp] theorem n52_3_eq (call : Calling) (s : St) : evC (cx52 call) n52_3 s = bnd (evC (cx52 call) n52_4 s) fun r => some (inBlk 0 r) := xB 0 _
@[simp] theorem n52_2_eq (call : Calling) (env : Env) (h : Heap) : evC (cx52 call) n52_2 ⟨env, h⟩ = ( evC (cx52 call) n52_3 ⟨(Env.put env 4 (nat 0)), h⟩) := (xSR 1 (cOps (cL n52_2)) (cR n52_2)).trans (by
  refine opsK_0 ?_
  refine oT 4 (nat 0) ?_
  exact oE)
@[simp] theorem n52_17_eq (call : Calling) (s : St) : evC (cx52 call) n52_17 s = some (.ret, s) := xE
@[simp] theorem n52_16_eq (call : Calling) (env : Env) (h : Heap) : evC (cx52 call) n52_16 ⟨env, h⟩ = (bnd (pureV h (mLoad (.arr 16 (.int .u8)) (env.get 2) h)) fun r0 => bnd (stU (.arr 16 (.int .u8)) (env.get 2) r0.1 r0.2) fun r1 => evC (cx52 call) n52_17 ⟨env, r1.2⟩) := (xSR 7 (cOps (cL n52_16)) (cR n52_16)).trans (by
  refine opsK_0 ?_
  refine oP 25 fun r0 => ?_
  refine oN fun r1 => ?_
  exact oE)
@[simp] theorem n52_1_eq (call : Calling) (s : St) : evC (cx52 call) n52_1 s = bnd (evC (cx52 call) n52_2 s) (sqK (evC (cx52 call) n52_16)) := xS _ _
@[simp] theorem n52_0_eq (call : Calling) (env : Env) (h : Heap) : evC (cx52 call) n52_0 ⟨env, h⟩ = (bnd (mNew ty66 (env.get 0) h) fun r0 => bnd (mNew (.arr 16 (.int .u8)) (arr 16 fun _ => 0#8) r0.2) fun r1 => evC (cx52 call) n52_1 ⟨(Env.put (Env.put env 1 r0.1) 2 r1.1), r1.2⟩) := (xSR 0 (cOps (cL n52_0)) (cR n52_0)).trans (by
  refine opsK_0 ?_
  refine oP 1 fun r0 => ?_
  refine oP 2 fun r1 => ?_
  exact oE)
theorem b52 (call : Calling) (a0 : AV) (h : Heap) : evBody (cx52 call) Try.f52 n52_0 [a0] h = bnd (evC (cx52 call) n52_0 ⟨[(0, a0), (1, .junk), (2, .junk), (3, .junk), (4, .junk), (5, .junk)], h⟩) (retK fun s => bnd (bnd (mLoad (.arr 16 (.int .u8)) (s.env.get 2) s.heap) fun v => bnd (some []) fun vs => some (v :: vs)) fun vs => some (oneOrTuple vs)) := by kernel_rfl
theorem fn52 : Try.prog.funcs[52]? = some Try.f52 := by kernel_rfl
theorem k52 : Callable Try.prog 52 := ⟨Try.f52, fn52, by kernel_rfl, by kernel_rfl⟩
theorem s52 {call : Calling} (hc : CallOK Try.prog call) {args : List AV} {h h' : Heap} {v : AV} (he : evBody (cx52 call) Try.f52 n52_0 args h = some (v, h')) : Spec Try.prog 52 args h v h' := body_sound (C := cx52 call) TT_ok hc mixed_ok fn52 (by kernel_rfl) (by kernel_rfl) he
end Go.Vab

/- How the evaluator reads the functions of a seat. Printed by wip/tools/gen.py (own work). -/
namespace Go.Vab
open Go Go.Proofs
/-! (vestry/siv.element).plus -/
noncomputable def cx59 (call : Calling) : Ctx := ⟨call, TT, 16, [5, 6, 7, 8, 9, 10, 11, 12, 13, 14, 15]⟩
noncomputable def n59_0 : Code := bodyOf Try.f59
noncomputable def n59_1 : Code := cR n59_0
noncomputable def n59_2 : Code := cR n59_1
@[simp] theorem n59_2_eq (call : Calling) (s : St) : evC (cx59 call) n59_2 s = some (.ret, s) := xE
@[simp] theorem n59_1_eq (call : Calling) (env : Env) (h : Heap) : evC (cx59 call) n59_1 ⟨env, h⟩ = (bnd (pureV h (mFieldAddr ty66 (env.get 2) 0)) fun r0 => bnd (pureV r0.2 (mLoad (.int .u64) r0.1 r0.2)) fun r1 => bnd (pureV r1.2 (mFieldAddr ty66 (env.get 3) 0)) fun r2 => bnd (pureV r2.2 (mLoad (.int .u64) r2.1 r2.2)) fun r3 => bnd (pureV r3.2 (mBin .xor r1.1 r3.1)) fun r4 => bnd (pureV r4.2 (mFieldAddr ty66 (env.get 2) 1)) fun r5 => bnd (pureV r5.2 (mLoad (.int .u64) r5.1 r5.2)) fun r6 => bnd (pureV r6.2 (mFieldAddr ty66 (env.get 3) 1)) fun r7 => bnd (pureV r7.2 (mLoad (.int .u64) r7.1 r7.2)) fun r8 => bnd (pureV r8.2 (mBin .xor r6.1 r8.1)) fun r9 => bnd (pureV r9.2 (fillRow ty66 (.node [(u64 0#64), (u64 0#64)]) [(0, r4.1), (1, r9.1)])) fun r10 => bnd (stU ty66 (env.get 4) r10.1 r10.2) fun r11 => evC (cx59 call) n59_2 ⟨env, r11.2⟩) := (xSR 1 (cOps (cL n59_1)) (cR n59_1)).trans (by
  refine opsK_0 ?_
  refine oP 5 fun r0 => ?_
  refine oP 6 fun r1 => ?_
  refine oP 7 fun r2 => ?_
  refine oP 8 fun r3 => ?_
  refine oP 9 fun r4 => ?_
  refine oP 10 fun r5 => ?_
  refine oP 11 fun r6 => ?_
  refine oP 12 fun r7 => ?_
  refine oP 13 fun r8 => ?_
  refine oP 14 fun r9 => ?_
  refine oP 15 fun r10 => ?_
  refine oN fun r11 => ?_
  exact oE)
@[simp] theorem n59_0_eq (call : Calling) (env : Env) (h : Heap) : evC (cx59 call) n59_0 ⟨env, h⟩ = (bnd (mNew ty66 (env.get 0) h) fun r0 => bnd (mNew ty66 (env.get 1) r0.2) fun r1 => bnd (mNew ty66 (.node [(u64 0#64), (u64 0#64)]) r1.2) fun r2 => evC (cx59 call) n59_1 ⟨(Env.put (Env.put (Env.put env 2 r0.1) 3 r1.1) 4 r2.1), r2.2⟩) := (xSR 0 (cOps (cL n59_0)) (cR n59_0)).trans (by
  refine opsK_0 ?_
  refine oP 2 fun r0 => ?_
  refine oP 3 fun r1 => ?_
  refine oP 4 fun r2 => ?_
  exact oE)
theorem b59 (call : Calling) (a0 a1 : AV) (h : Heap) : evBody (cx59 call) Try.f59 n59_0 [a0, a1] h = bnd (evC (cx59 call) n59_0 ⟨[(0, a0), (1, a1), (2, .junk), (3, .junk), (4, .junk)], h⟩) (retK fun s => bnd (bnd (mLoad ty66 (s.env.get 4) s.heap) fun v => bnd (some []) fun vs => some (v :: vs)) fun vs => some (oneOrTuple vs)) := by kernel_rfl
theorem fn59 : Try.prog.funcs[59]? = some Try.f59 := by kernel_rfl
theorem k59 : Callable Try.prog 59 := ⟨Try.f59, fn59, by kernel_rfl, by kernel_rfl⟩
theorem s59 {call : Calling} (hc : CallOK Try.prog call) {args : List AV} {h h' : Heap} {v : AV} (he : evBody (cx59 call) Try.f59 n59_0 args h = some (v, h')) : Spec Try.prog 59 args h v h' := body_sound (C := cx59 call) TT_ok hc mixed_ok fn59 (by kernel_rfl) (by kernel_rfl) he
end Go.Vab

/- How the evaluator reads the functions of a seat. Printed by wip/tools/gen.py (own work). -/
namespace Go.Vab
open Go Go.Proofs
/-! (vestry/siv.element).dot -/
noncomputable def cx51 (call : Calling) : Ctx := ⟨call, TT, 49, [11, 12, 13, 14, 16, 17, 18, 19, 20, 21, 22, 24, 25, 26, 27, 28, 29, 30, 31, 32, 33, 34, 35, 36, 37, 38, 39, 40, 41, 43, 44, 45, 46, 47, 48]⟩
noncomputable def n51_0 : Code := bodyOf Try.f51
noncomputable def n51_1 : Code := cR n51_0
noncomputable def n51_2 : Code := cR n51_1
noncomputable def n51_3 : Code := cL n51_2
noncomputable def n51_4 : Code := cR n51_3
noncomputable def n51_5 : Code := cB n51_4
noncomputable def n51_6 : Code := cB n51_5
noncomputable def n51_7 : Code := cR n51_6
noncomputable def n51_8 : Code := cL n51_7
noncomputable def n51_9 : Code := cL n51_8
noncomputable def n51_10 : Code := cR n51_8
noncomputable def n51_11 : Code := cR n51_7
noncomputable def n51_12 : Code := cL n51_11
noncomputable def n51_13 : Code := cB n51_12
noncomputable def n51_14 : Code := cR n51_13
noncomputable def n51_15 : Code := cR n51_14
noncomputable def n51_16 : Code := cL n51_15
noncomputable def n51_17 : Code := cR n51_16
noncomputable def n51_18 : Code := cL n51_17
noncomputable def n51_19 : Code := cR n51_17
noncomputable def n51_20 : Code := cR n51_15
noncomputable def n51_21 : Code := cL n51_20
noncomputable def n51_22 : Code := cR n51_21
noncomputable def n51_23 : Code := cL n51_22
noncomputable def n51_24 : Code := cR n51_22
noncomputable def n51_25 : Code := cR n51_20
noncomputable def n51_26 : Code := cR n51_25
noncomputable def n51_27 : Code := cR n51_26
noncomputable def n51_28 : Code := cR n51_27
noncomputable def n51_29 : Code := cL n51_28
noncomputable def n51_30 : Code := cR n51_28
noncomputable def n51_31 : Code := cR n51_11
noncomputable def n51_32 : Code := cR n51_2
noncomputable def n51_33 : Code := cR n51_32
@[simp] theorem n51_9_eq (call : Calling) (s : St) : evC (cx51 call) n51_9 s = some (.nrm, s) := xK
@[simp] theorem n51_10_eq (call : Calling) (s : St) : evC (cx51 call) n51_10 s = some (.exit 0, s) := xX 0
@[simp] theorem n51_8_eq (call : Calling) (s : St) : evC (cx51 call) n51_8 s = cnd (s.env.get 10) (evC (cx51 call) n51_9 s) (evC (cx51 call) n51_10 s) := xC 10 _ _
@[simp] theorem n51_18_eq (call : Calling) (env : Env) (h : Heap) : evC (cx51 call) n51_18 ⟨env, h⟩ = (bnd (pureV h (mFieldAddr ty66 (env.get 2) 1)) fun r0 => bnd (pureV r0.2 (mLoad (.int .u64) r0.1 r0.2)) fun r1 => some (.nrm, ⟨(Env.put env 7 r1.1), r1.2⟩)) := (xR 7 (cOps n51_18)).trans (by
  refine opsK_0 ?_
  refine oP 16 fun r0 => ?_
  refine oP 17 fun r1 => ?_
  refine oT 7 r1.1 ?_
  exact oE)
@[simp] theorem n51_19_eq (call : Calling) (s : St) : evC (cx51 call) n51_19 s = some (.nrm, s) := xK
@[simp] theorem n51_17_eq (call : Calling) (s : St) : evC (cx51 call) n51_17 s = cnd (s.env.get 15) (evC (cx51 call) n51_18 s) (evC (cx51 call) n51_19 s) := xC 15 _ _
@[simp] theorem n51_16_eq (call : Calling) (env : Env) (h : Heap) : evC (cx51 call) n51_16 ⟨env, h⟩ = (bnd (pureV h (mBin .gtr (env.get 6) (nat 63))) fun r1 => evC (cx51 call) n51_17 ⟨(Env.put env 15 r1.1), r1.2⟩) := (xSR 6 (cOps (cL n51_16)) (cR n51_16)).trans (by
  refine opsK_0 ?_
  refine oT 14 (env.get 6) ?_
  refine oP 15 fun r1 => ?_
  exact oE)
@[simp] theorem n51_23_eq (call : Calling) (env : Env) (h : Heap) : evC (cx51 call) n51_23 ⟨env, h⟩ = (bnd (pureV h (mLoad ty66 (env.get 5) h)) fun r0 => bnd (pureV r0.2 (mLoad ty66 (env.get 3) r0.2)) fun r1 => bnd (call 59 [r0.1, r1.1] r1.2) fun r2 => bnd (stU ty66 (env.get 5) r2.1 r2.2) fun r3 => some (.nrm, ⟨env, r3.2⟩)) := (xR 9 (cOps n51_23)).trans (by
  refine opsK_0 ?_
  refine oP 24 fun r0 => ?_
  refine oP 25 fun r1 => ?_
  refine oP 26 fun r2 => ?_
  refine oN fun r3 => ?_
  exact oE)
@[simp] theorem n51_24_eq (call : Calling) (s : St) : evC (cx51 call) n51_24 s = some (.nrm, s) := xK
@[simp] theorem n51_22_eq (call : Calling) (s : St) : evC (cx51 call) n51_22 s = cnd (s.env.get 23) (evC (cx51 call) n51_23 s) (evC (cx51 call) n51_24 s) := xC 23 _ _
@[simp] theorem n51_21_eq (call : Calling) (env : Env) (h : Heap) : evC (cx51 call) n51_21 ⟨env, h⟩ = (bnd (pureV h (mBin .rem (env.get 6) (nat 64))) fun r2 => bnd (pureV r2.2 (mBin .shr (env.get 7) r2.1)) fun r3 => bnd (pureV r3.2 (mBin .and r3.1 (u64 1#64))) fun r4 => bnd (pureV r4.2 (mBin .eql r4.1 (u64 1#64))) fun r5 => evC (cx51 call) n51_22 ⟨(Env.put env 23 r5.1), r5.2⟩) := (xSR 8 (cOps (cL n51_21)) (cR n51_21)).trans (by
  refine opsK_0 ?_
  refine oT 18 (env.get 7) ?_
  refine oT 19 (env.get 6) ?_
  refine oP 20 fun r2 => ?_
  refine oP 21 fun r3 => ?_
  refine oP 22 fun r4 => ?_
  refine oP 23 fun r5 => ?_
  exact oE)
@[simp] theorem n51_29_eq (call : Calling) (env : Env) (h : Heap) : evC (cx51 call) n51_29 ⟨env, h⟩ = (bnd (pureV h (mFieldAddr ty66 (env.get 5) 1)) fun r0 => bnd (pureV r0.2 (mLoad (.int .u64) r0.1 r0.2)) fun r1 => bnd (pureV r1.2 (mBin .xor r1.1 (u64 16212958658533785600#64))) fun r2 => bnd (pureV r2.2 (mFieldAddr ty66 (env.get 5) 1)) fun r3 => bnd (stU (.int .u64) r3.1 r2.1 r3.2) fun r4 => some (.nrm, ⟨env, r4.2⟩)) := (xR 13 (cOps n51_29)).trans (by
  refine opsK_0 ?_
  refine oP 43 fun r0 => ?_
  refine oP 44 fun r1 => ?_
  refine oP 45 fun r2 => ?_
  refine oP 46 fun r3 => ?_
  refine oN fun r4 => ?_
  exact oE)
@[simp] theorem n51_30_eq (call : Calling) (s : St) : evC (cx51 call) n51_30 s = some (.nrm, s) := xK
@[simp] theorem n51_28_eq (call : Calling) (s : St) : evC (cx51 call) n51_28 s = cnd (s.env.get 42) (evC (cx51 call) n51_29 s) (evC (cx51 call) n51_30 s) := xC 42 _ _
@[simp] theorem n51_27_eq (call : Calling) (env : Env) (h : Heap) : evC (cx51 call) n51_27 ⟨env, h⟩ = ( evC (cx51 call) n51_28 ⟨(Env.put env 42 (env.get 8)), h⟩) := (xSR 12 (cOps (cL n51_27)) (cR n51_27)).trans (by
  refine opsK_0 ?_
  refine oT 42 (env.get 8) ?_
  exact oE)
@[simp] theorem n51_26_eq (call : Calling) (env : Env) (h : Heap) : evC (cx51 call) n51_26 ⟨env, h⟩ = (bnd (pureV h (mFieldAddr ty66 (env.get 5) 0)) fun r0 => bnd (pureV r0.2 (mLoad (.int .u64) r0.1 r0.2)) fun r1 => bnd (pureV r1.2 (mBin .shr r1.1 (u64 1#64))) fun r2 => bnd (pureV r2.2 (mFieldAddr ty66 (env.get 5) 1)) fun r3 => bnd (pureV r3.2 (mLoad (.int .u64) r3.1 r3.2)) fun r4 => bnd (pureV r4.2 (mBin .shl r4.1 (u64 63#64))) fun r5 => bnd (pureV r5.2 (mBin .or r2.1 r5.1)) fun r6 => bnd (pureV r6.2 (mFieldAddr ty66 (env.get 5) 1)) fun r7 => bnd (pureV r7.2 (mLoad (.int .u64) r7.1 r7.2)) fun r8 => bnd (pureV r8.2 (mBin .shr r8.1 (u64 1#64))) fun r9 => bnd (pureV r9.2 (fillRow ty66 (.node [(u64 0#64), (u64 0#64)]) [(0, r6.1), (1, r9.1)])) fun r10 => bnd (stU ty66 (env.get 5) r10.1 r10.2) fun r11 => evC (cx51 call) n51_27 ⟨env, r11.2⟩) := (xSR 11 (cOps (cL n51_26)) (cR n51_26)).trans (by
  refine opsK_0 ?_
  refine oP 31 fun r0 => ?_
  refine oP 32 fun r1 => ?_
  refine oP 33 fun r2 => ?_
  refine oP 34 fun r3 => ?_
  refine oP 35 fun r4 => ?_
  refine oP 36 fun r5 => ?_
  refine oP 37 fun r6 => ?_
  refine oP 38 fun r7 => ?_
  refine oP 39 fun r8 => ?_
  refine oP 40 fun r9 => ?_
  refine oP 41 fun r10 => ?_
  refine oN fun r11 => ?_
  exact oE)
@[simp] theorem n51_25_eq (call : Calling) (env : Env) (h : Heap) : evC (cx51 call) n51_25 ⟨env, h⟩ = (bnd (pureV h (mFieldAddr ty66 (env.get 5) 0)) fun r0 => bnd (pureV r0.2 (mLoad (.int .u64) r0.1 r0.2)) fun r1 => bnd (pureV r1.2 (mBin .and r1.1 (u64 1#64))) fun r2 => bnd (pureV r2.2 (mBin .eql r2.1 (u64 1#64))) fun r3 => evC (cx51 call) n51_26 ⟨(Env.put env 8 r3.1), r3.2⟩) := (xSR 10 (cOps (cL n51_25)) (cR n51_25)).trans (by
  refine opsK_0 ?_
  refine oP 27 fun r0 => ?_
  refine oP 28 fun r1 => ?_
  refine oP 29 fun r2 => ?_
  refine oP 30 fun r3 => ?_
  refine oT 8 r3.1 ?_
  exact oE)
@[simp] theorem n51_20_eq (call : Calling) (s : St) : evC (cx51 call) n51_20 s = bnd (evC (cx51 call) n51_21 s) (sqK (evC (cx51 call) n51_25)) := xS _ _
@[simp] theorem n51_15_eq (call : Calling) (s : St) : evC (cx51 call) n51_15 s = bnd (evC (cx51 call) n51_16 s) (sqK (evC (cx51 call) n51_20)) := xS _ _
@[simp] theorem n51_14_eq (call : Calling) (env : Env) (h : Heap) : evC (cx51 call) n51_14 ⟨env, h⟩ = (bnd (pureV h (mFieldAddr ty66 (env.get 2) 0)) fun r0 => bnd (pureV r0.2 (mLoad (.int .u64) r0.1 r0.2)) fun r1 => evC (cx51 call) n51_15 ⟨(Env.put env 7 r1.1), r1.2⟩) := (xSR 5 (cOps (cL n51_14)) (cR n51_14)).trans (by
  refine opsK_0 ?_
  refine oP 12 fun r0 => ?_
  refine oP 13 fun r1 => ?_
  refine oT 7 r1.1 ?_
  exact oE)
@[simp] theorem n51_13_eq (call : Calling) (env : Env) (h : Heap) : evC (cx51 call) n51_13 ⟨env, h⟩ = ( evC (cx51 call) n51_14 ⟨(Env.put env 6 (env.get 9)), h⟩) := (xSR 4 (cOps (cL n51_13)) (cR n51_13)).trans (by
  refine opsK_0 ?_
  refine oT 11 (env.get 9) ?_
  refine oT 6 (env.get 9) ?_
  exact oE)
@[simp] theorem n51_12_eq (call : Calling) (s : St) : evC (cx51 call) n51_12 s = bnd (evC (cx51 call) n51_13 s) fun r => some (inBlk 1 r) := xB 1 _
@[simp] theorem n51_31_eq (call : Calling) (env : Env) (h : Heap) : evC (cx51 call) n51_31 ⟨env, h⟩ = (bnd (pureV h (mBin .add (env.get 9) (nat 1))) fun r0 => some (.nrm, ⟨(Env.put env 9 r0.1), r0.2⟩)) := (xR 14 (cOps n51_31)).trans (by
  refine opsK_0 ?_
  refine oP 47 fun r0 => ?_
  refine oT 9 r0.1 ?_
  exact oE)
@[simp] theorem n51_11_eq (call : Calling) (s : St) : evC (cx51 call) n51_11 s = bnd (evC (cx51 call) n51_12 s) (sqK (evC (cx51 call) n51_31)) := xS _ _
@[simp] theorem n51_7_eq (call : Calling) (s : St) : evC (cx51 call) n51_7 s = bnd (evC (cx51 call) n51_8 s) (sqK (evC (cx51 call) n51_11)) := xS _ _
@[simp] theorem n51_6_eq (call : Calling) (env : Env) (h : Heap) : evC (cx51 call) n51_6 ⟨env, h⟩ = (bnd (pureV h (mBin .lss (env.get 9) (nat 128))) fun r0 => evC (cx51 call) n51_7 ⟨(Env.put env 10 r0.1), r0.2⟩) := (xSR 3 (cOps (cL n51_6)) (cR n51_6)).trans (by
  refine opsK_0 ?_
  refine oP 10 fun r0 => ?_
  exact oE)
@[simp] theorem n51_5_eq (call : Calling) (s : St) : evC (cx51 call) n51_5 s = evLoop (evC (cx51 call) n51_6) s := xL _
@[simp] theorem n51_4_eq (call : Calling) (s : St) : evC (cx51 call) n51_4 s = bnd (evC (cx51 call) n51_5 s) fun r => some (inBlk 0 r) := xB 0 _
@[simp] theorem n51_3_eq (call : Calling) (env : Env) (h : Heap) : evC (cx51 call) n51_3 ⟨env, h⟩ = ( evC (cx51 call) n51_4 ⟨(Env.put env 9 (nat 0)), h⟩) := (xSR 2 (cOps (cL n51_3)) (cR n51_3)).trans (by
  refine opsK_0 ?_
  refine oT 9 (nat 0) ?_
  exact oE)
@[simp] theorem n51_33_eq (call : Calling) (s : St) : evC (cx51 call) n51_33 s = some (.ret, s) := xE
@[simp] theorem n51_32_eq (call : Calling) (env : Env) (h : Heap) : evC (cx51 call) n51_32 ⟨env, h⟩ = (bnd (pureV h (mLoad ty66 (env.get 5) h)) fun r0 => bnd (stU ty66 (env.get 4) r0.1 r0.2) fun r1 => evC (cx51 call) n51_33 ⟨env, r1.2⟩) := (xSR 15 (cOps (cL n51_32)) (cR n51_32)).trans (by
  refine opsK_0 ?_
  refine oP 48 fun r0 => ?_
  refine oN fun r1 => ?_
  exact oE)
@[simp] theorem n51_2_eq (call : Calling) (s : St) : evC (cx51 call) n51_2 s = bnd (evC (cx51 call) n51_3 s) (sqK (evC (cx51 call) n51_32)) := xS _ _
@[simp] theorem n51_1_eq (call : Calling) (env : Env) (h : Heap) : evC (cx51 call) n51_1 ⟨env, h⟩ = (bnd (mNew ty66 (.node [(u64 0#64), (u64 0#64)]) h) fun r0 => evC (cx51 call) n51_2 ⟨(Env.put env 5 r0.1), r0.2⟩) := (xSR 1 (cOps (cL n51_1)) (cR n51_1)).trans (by
  refine opsK_0 ?_
  refine oP 5 fun r0 => ?_
  exact oE)
@[simp] theorem n51_0_eq (call : Calling) (env : Env) (h : Heap) : evC (cx51 call) n51_0 ⟨env, h⟩ = (bnd (mNew ty66 (env.get 0) h) fun r0 => bnd (mNew ty66 (env.get 1) r0.2) fun r1 => bnd (mNew ty66 (.node [(u64 0#64), (u64 0#64)]) r1.2) fun r2 => evC (cx51 call) n51_1 ⟨(Env.put (Env.put (Env.put env 2 r0.1) 3 r1.1) 4 r2.1), r2.2⟩) := (xSR 0 (cOps (cL n51_0)) (cR n51_0)).trans (by
  refine opsK_0 ?_
  refine oP 2 fun r0 => ?_
  refine oP 3 fun r1 => ?_
  refine oP 4 fun r2 => ?_
  exact oE)
theorem b51 (call : Calling) (a0 a1 : AV) (h : Heap) : evBody (cx51 call) Try.f51 n51_0 [a0, a1] h = bnd (evC (cx51 call) n51_0 ⟨[(0, a0), (1, a1), (2, .junk), (3, .junk), (4, .junk), (5, .junk), (6, .junk), (7, .junk), (8, .junk), (9, .junk), (10, .junk), (15, .junk), (23, .junk), (42, .junk)], h⟩) (retK fun s => bnd (bnd (mLoad ty66 (s.env.get 4) s.heap) fun v => bnd (some []) fun vs => some (v :: vs)) fun vs => some (oneOrTuple vs)) := by kernel_rfl
theorem fn51 : Try.prog.funcs[51]? = some Try.f51 := by kernel_rfl
theorem k51 : Callable Try.prog 51 := ⟨Try.f51, fn51, by kernel_rfl, by kernel_rfl⟩
theorem s51 {call : Calling} (hc : CallOK Try.prog call) {args : List AV} {h h' : Heap} {v : AV} (he : evBody (cx51 call) Try.f51 n51_0 args h = some (v, h')) : Spec Try.prog 51 args h v h' := body_sound (C := cx51 call) TT_ok hc mixed_ok fn51 (by kernel_rfl) (by kernel_rfl) he
end Go.Vab

/- How the evaluator reads the functions of a seat. Printed by wip/tools/gen.py (own work). -/
namespace Go.Vab
open Go Go.Proofs
/-! vestry/siv.Dot -/
noncomputable def cx31 (call : Calling) : Ctx := ⟨call, TT, 11, [5, 6, 7, 8, 9, 10]⟩
noncomputable def n31_0 : Code := bodyOf Try.f31
noncomputable def n31_1 : Code := cR n31_0
noncomputable def n31_2 : Code := cR n31_1
@[simp] theorem n31_2_eq (call : Calling) (s : St) : evC (cx31 call) n31_2 s = some (.ret, s) := xE
theorem n31_1_ok : drawOk (cOps (cL n31_1)).toList = true := by kernel_rfl
@[simp] theorem n31_1_eq (call : Calling) (env : Env) (h : Heap) : evC (cx31 call) n31_1 ⟨env, h⟩ = (bnd (pureV h (mLoad (.arr 16 (.int .u8)) (env.get 2) h)) fun r0 => bnd (still call 50 [r0.1] r0.2) fun r1 => bnd (pureV r1.2 (mLoad (.arr 16 (.int .u8)) (env.get 3) r1.2)) fun r2 => bnd (still call 50 [r2.1] r2.2) fun r3 => bnd (still call 51 [r1.1, r3.1] r3.2) fun r4 => bnd (still call 52 [r4.1] r4.2) fun r5 => bnd (stU (.arr 16 (.int .u8)) (env.get 4) r5.1 r5.2) fun r6 => evC (cx31 call) n31_2 ⟨env, r6.2⟩) := (xSD 1 (cOps (cL n31_1)) (cR n31_1) n31_1_ok).trans (by
  refine opsK_0 ?_
  refine oP 5 fun r0 => ?_
  refine oP 6 fun r1 => ?_
  refine oP 7 fun r2 => ?_
  refine oP 8 fun r3 => ?_
  refine oP 9 fun r4 => ?_
  refine oP 10 fun r5 => ?_
  refine oN fun r6 => ?_
  exact oE)
@[simp] theorem n31_0_eq (call : Calling) (env : Env) (h : Heap) : evC (cx31 call) n31_0 ⟨env, h⟩ = (bnd (mNew (.arr 16 (.int .u8)) (env.get 0) h) fun r0 => bnd (mNew (.arr 16 (.int .u8)) (env.get 1) r0.2) fun r1 => bnd (mNew (.arr 16 (.int .u8)) (arr 16 fun _ => 0#8) r1.2) fun r2 => evC (cx31 call) n31_1 ⟨(Env.put (Env.put (Env.put env 2 r0.1) 3 r1.1) 4 r2.1), r2.2⟩) := (xSR 0 (cOps (cL n31_0)) (cR n31_0)).trans (by
  refine opsK_0 ?_
  refine oP 2 fun r0 => ?_
  refine oP 3 fun r1 => ?_
  refine oP 4 fun r2 => ?_
  exact oE)
theorem b31 (call : Calling) (a0 a1 : AV) (h : Heap) : evBody (cx31 call) Try.f31 n31_0 [a0, a1] h = bnd (evC (cx31 call) n31_0 ⟨[(0, a0), (1, a1), (2, .junk), (3, .junk), (4, .junk)], h⟩) (retK fun s => bnd (bnd (mLoad (.arr 16 (.int .u8)) (s.env.get 4) s.heap) fun v => bnd (some []) fun vs => some (v :: vs)) fun vs => some (oneOrTuple vs)) := by kernel_rfl
theorem fn31 : Try.prog.funcs[31]? = some Try.f31 := by kernel_rfl
theorem k31 : Callable Try.prog 31 := ⟨Try.f31, fn31, by kernel_rfl, by kernel_rfl⟩
theorem s31 {call : Calling} (hc : CallOK Try.prog call) {args : List AV} {h h' : Heap} {v : AV} (he : evBody (cx31 call) Try.f31 n31_0 args h = some (v, h')) : Spec Try.prog 31 args h v h' := body_sound (C := cx31 call) TT_ok hc mixed_ok fn31 (by kernel_rfl) (by kernel_rfl) he
end Go.Vab

/- How the evaluator reads the functions of a seat. Printed by wip/tools/gen.py (own work). -/
namespace Go.Vab
open Go Go.Proofs
/-! vestry/vestrylaw09.xor -/
noncomputable def cx37 (call : Calling) : Ctx := ⟨call, TT, 19, [8, 9, 10, 11, 12, 13, 14, 15, 16, 17, 18]⟩
noncomputable def n37_0 : Code := bodyOf Try.f37
noncomputable def n37_1 : Code := cR n37_0
noncomputable def n37_2 : Code := cL n37_1
noncomputable def n37_3 : Code := cR n37_2
noncomputable def n37_4 : Code := cB n37_3
noncomputable def n37_5 : Code := cB n37_4
noncomputable def n37_6 : Code := cR n37_5
noncomputable def n37_7 : Code := cL n37_6
noncomputable def n37_8 : Code := cL n37_7
noncomputable def n37_9 : Code := cR n37_7
noncomputable def n37_10 : Code := cR n37_6
noncomputable def n37_11 : Code := cL n37_10
noncomputable def n37_12 : Code := cB n37_11
noncomputable def n37_13 : Code := cR n37_12
noncomputable def n37_14 : Code := cR n37_10
noncomputable def n37_15 : Code := cR n37_1
noncomputable def n37_16 : Code := cR n37_15
@[simp] theorem n37_8_eq (call : Calling) (s : St) : evC (cx37 call) n37_8 s = some (.nrm, s) := xK
@[simp] theorem n37_9_eq (call : Calling) (s : St) : evC (cx37 call) n37_9 s = some (.exit 0, s) := xX 0
@[simp] theorem n37_7_eq (call : Calling) (s : St) : evC (cx37 call) n37_7 s = cnd (s.env.get 7) (evC (cx37 call) n37_8 s) (evC (cx37 call) n37_9 s) := xC 7 _ _
theorem n37_13_ok : drawOk (cOps n37_13).toList = true := by kernel_rfl
@[simp] theorem n37_13_eq (call : Calling) (env : Env) (h : Heap) : evC (cx37 call) n37_13 ⟨env, h⟩ = (bnd (pureV h (mIdxA (.arr 16 (.int .u8)) (env.get 2) (env.get 5))) fun r1 => bnd (pureV r1.2 (mLoad (.int .u8) r1.1 r1.2)) fun r2 => bnd (pureV r2.2 (mIdxA (.arr 16 (.int .u8)) (env.get 3) (env.get 5))) fun r4 => bnd (pureV r4.2 (mLoad (.int .u8) r4.1 r4.2)) fun r5 => bnd (pureV r5.2 (mBin .xor r2.1 r5.1)) fun r6 => bnd (pureV r6.2 (mIdxA (.arr 16 (.int .u8)) (env.get 2) (env.get 5))) fun r7 => bnd (stU (.int .u8) r7.1 r6.1 r7.2) fun r8 => some (.nrm, ⟨env, r8.2⟩)) := (xD 4 (cOps n37_13) n37_13_ok).trans (by
  refine opsK_0 ?_
  refine oT 9 (env.get 5) ?_
  refine oP 10 fun r1 => ?_
  refine oP 11 fun r2 => ?_
  refine oT 12 (env.get 5) ?_
  refine oP 13 fun r4 => ?_
  refine oP 14 fun r5 => ?_
  refine oP 15 fun r6 => ?_
  refine oP 16 fun r7 => ?_
  refine oN fun r8 => ?_
  exact oE)
@[simp] theorem n37_12_eq (call : Calling) (env : Env) (h : Heap) : evC (cx37 call) n37_12 ⟨env, h⟩ = ( evC (cx37 call) n37_13 ⟨(Env.put env 5 (env.get 6)), h⟩) := (xSR 3 (cOps (cL n37_12)) (cR n37_12)).trans (by
  refine opsK_0 ?_
  refine oT 8 (env.get 6) ?_
  refine oT 5 (env.get 6) ?_
  exact oE)
@[simp] theorem n37_11_eq (call : Calling) (s : St) : evC (cx37 call) n37_11 s = bnd (evC (cx37 call) n37_12 s) fun r => some (inBlk 1 r) := xB 1 _
@[simp] theorem n37_14_eq (call : Calling) (env : Env) (h : Heap) : evC (cx37 call) n37_14 ⟨env, h⟩ = (bnd (pureV h (mBin .add (env.get 6) (nat 1))) fun r0 => some (.nrm, ⟨(Env.put env 6 r0.1), r0.2⟩)) := (xR 5 (cOps n37_14)).trans (by
  refine opsK_0 ?_
  refine oP 17 fun r0 => ?_
  refine oT 6 r0.1 ?_
  exact oE)
@[simp] theorem n37_10_eq (call : Calling) (s : St) : evC (cx37 call) n37_10 s = bnd (evC (cx37 call) n37_11 s) (sqK (evC (cx37 call) n37_14)) := xS _ _
@[simp] theorem n37_6_eq (call : Calling) (s : St) : evC (cx37 call) n37_6 s = bnd (evC (cx37 call) n37_7 s) (sqK (evC (cx37 call) n37_10)) := xS _ _
@[simp] theorem n37_5_eq (call : Calling) (env : Env) (h : Heap) : evC (cx37 call) n37_5 ⟨env, h⟩ = (bnd (pureV h (mBin .lss (env.get 6) (nat 16))) fun r0 => evC (cx37 call) n37_6 ⟨(Env.put env 7 r0.1), r0.2⟩) := (xSR 2 (cOps (cL n37_5)) (cR n37_5)).trans (by
  refine opsK_0 ?_
  refine oP 7 fun r0 => ?_
  exact oE)
@[simp] theorem n37_4_eq (call : Calling) (s : St) : evC (cx37 call) n37_4 s = evLoop (evC (cx37 call) n37_5) s := xL _
@[simp] theorem n37_3_eq (call : Calling) (s : St) : evC (cx37 call) n37_3 s = bnd (evC (cx37 call) n37_4 s) fun r => some (inBlk 0 r) := xB 0 _
@[simp] theorem n37_2_eq (call : Calling) (env : Env) (h : Heap) : evC (cx37 call) n37_2 ⟨env, h⟩ = ( evC (cx37 call) n37_3 ⟨(Env.put env 6 (nat 0)), h⟩) := (xSR 1 (cOps (cL n37_2)) (cR n37_2)).trans (by
  refine opsK_0 ?_
  refine oT 6 (nat 0) ?_
  exact oE)
@[simp] theorem n37_16_eq (call : Calling) (s : St) : evC (cx37 call) n37_16 s = some (.ret, s) := xE
@[simp] theorem n37_15_eq (call : Calling) (env : Env) (h : Heap) : evC (cx37 call) n37_15 ⟨env, h⟩ = (bnd (pureV h (mLoad (.arr 16 (.int .u8)) (env.get 2) h)) fun r0 => bnd (stU (.arr 16 (.int .u8)) (env.get 4) r0.1 r0.2) fun r1 => evC (cx37 call) n37_16 ⟨env, r1.2⟩) := (xSR 6 (cOps (cL n37_15)) (cR n37_15)).trans (by
  refine opsK_0 ?_
  refine oP 18 fun r0 => ?_
  refine oN fun r1 => ?_
  exact oE)
@[simp] theorem n37_1_eq (call : Calling) (s : St) : evC (cx37 call) n37_1 s = bnd (evC (cx37 call) n37_2 s) (sqK (evC (cx37 call) n37_15)) := xS _ _
@[simp] theorem n37_0_eq (call : Calling) (env : Env) (h : Heap) : evC (cx37 call) n37_0 ⟨env, h⟩ = (bnd (mNew (.arr 16 (.int .u8)) (env.get 0) h) fun r0 => bnd (mNew (.arr 16 (.int .u8)) (env.get 1) r0.2) fun r1 => bnd (mNew (.arr 16 (.int .u8)) (arr 16 fun _ => 0#8) r1.2) fun r2 => evC (cx37 call) n37_1 ⟨(Env.put (Env.put (Env.put env 2 r0.1) 3 r1.1) 4 r2.1), r2.2⟩) := (xSR 0 (cOps (cL n37_0)) (cR n37_0)).trans (by
  refine opsK_0 ?_
  refine oP 2 fun r0 => ?_
  refine oP 3 fun r1 => ?_
  refine oP 4 fun r2 => ?_
  exact oE)
theorem b37 (call : Calling) (a0 a1 : AV) (h : Heap) : evBody (cx37 call) Try.f37 n37_0 [a0, a1] h = bnd (evC (cx37 call) n37_0 ⟨[(0, a0), (1, a1), (2, .junk), (3, .junk), (4, .junk), (5, .junk), (6, .junk), (7, .junk)], h⟩) (retK fun s => bnd (bnd (mLoad (.arr 16 (.int .u8)) (s.env.get 4) s.heap) fun v => bnd (some []) fun vs => some (v :: vs)) fun vs => some (oneOrTuple vs)) := by kernel_rfl
theorem fn37 : Try.prog.funcs[37]? = some Try.f37 := by kernel_rfl
theorem k37 : Callable Try.prog 37 := ⟨Try.f37, fn37, by kernel_rfl, by kernel_rfl⟩
theorem s37 {call : Calling} (hc : CallOK Try.prog call) {args : List AV} {h h' : Heap} {v : AV} (he : evBody (cx37 call) Try.f37 n37_0 args h = some (v, h')) : Spec Try.prog 37 args h v h' := body_sound (C := cx37 call) TT_ok hc mixed_ok fn37 (by kernel_rfl) (by kernel_rfl) he
end Go.Vab

/-
  The elements of POLYVAL in two words, walked.
-/
namespace Go.Vab
open Go Go.Proofs

@[simp] theorem hasTy_el (lo hi : BitVec 64) : hasTy (el lo hi) ty66 = true := by simp [el, hasTys]
@[simp] theorem hasTy_elX (x : BitVec 128) : hasTy (elX x) ty66 = true := hasTy_el _ _
@[simp] theorem mNew_el (lo hi : BitVec 64) (h : Heap) : mNew ty66 (el lo hi) h = some (.ptr h.length 0 [] ty66, h ++ [⟨el lo hi, 0, .own⟩]) := mNew_ok _ _ _ (by simp)
@[simp] theorem mNew_elX (x : BitVec 128) (h : Heap) : mNew ty66 (elX x) h = some (.ptr h.length 0 [] ty66, h ++ [⟨elX x, 0, .own⟩]) := mNew_ok _ _ _ (by simp)
@[simp] theorem mNew_node (lo hi : BitVec 64) (h : Heap) : mNew ty66 (.node [u64 lo, u64 hi]) h = some (.ptr h.length 0 [] ty66, h ++ [⟨el lo hi, 0, .own⟩]) := mNew_el lo hi h
@[simp] theorem stU_el (lo hi : BitVec 64) (i ver : Nat) (path : List Nat) (h : Heap) : stU ty66 (.ptr i ver path ty66) (el lo hi) h = stR i ver path (el lo hi) h := stU_ptr _ _ _ _ _ _ (by simp)
@[simp] theorem stU_elX (x : BitVec 128) (i ver : Nat) (path : List Nat) (h : Heap) : stU ty66 (.ptr i ver path ty66) (elX x) h = stR i ver path (elX x) h := stU_ptr _ _ _ _ _ _ (by simp)
@[simp] theorem el_get0 (lo hi : BitVec 64) : (el lo hi).get [0] = some (u64 lo) := by simp [el]
@[simp] theorem el_get1 (lo hi : BitVec 64) : (el lo hi).get [1] = some (u64 hi) := by simp [el]
@[simp] theorem elX_get0 (x : BitVec 128) : (elX x).get [0] = some (u64 (x.setWidth 64)) := by simp [elX]
@[simp] theorem elX_get1 (x : BitVec 128) : (elX x).get [1] = some (u64 ((x >>> 64).setWidth 64)) := by simp [elX]
@[simp] theorem el_put0 (lo hi y : BitVec 64) : (el lo hi).put [0] (u64 y) = some (el y hi) := by simp [el]
@[simp] theorem el_put1 (lo hi y : BitVec 64) : (el lo hi).put [1] (u64 y) = some (el lo y) := by simp [el]
@[simp] theorem fill_el (x y lo hi : BitVec 64) : fillRow ty66 (el lo hi) [(0, u64 x), (1, u64 y)] = some (el x y) := by
  simp [fillRow, el, hasTys]
@[simp] theorem fill_el' (x y lo hi : BitVec 64) : fillRow ty66 (.node [u64 lo, u64 hi]) [(0, u64 x), (1, u64 y)] = some (el x y) := fill_el x y lo hi
@[simp] theorem u64_or' (x y : BitVec 64) : mBin .or (u64 x) (u64 y) = some (u64 (x ||| y)) := u64_or x y

theorem walk50 (call : Calling) (h : Heap) (g : Nat → BitVec 8) : ∃ t, evBody (cx50 call) Try.f50 n50_0 [arr 16 g] h = some (elX (val16 g), h ++ t) := by
  rw [b50]
  have main : Evs (evC (cx50 call) n50_0 ⟨[(0, arr 16 g), (1, .junk), (2, .junk), (3, .junk), (5, .junk)], h⟩) (fun r => ∃ env t, r = (.ret, ⟨env, h ++ t⟩) ∧ mLoad ty66 (env.get 2) (h ++ t) = some (elX (val16 g))) := by
    obtain ⟨env, he⟩ : ∃ env : Env, env = [(0, arr 16 g), (1, .junk), (2, .junk), (3, .junk), (5, .junk)] := ⟨_, rfl⟩
    rw [← he]
    have g0 : env.get 0 = arr 16 g := by rw [he]; rfl
    clear he
    repeat (first
      | (with_reducible refine Evs.assoc ?_)
      | ((with_reducible refine Evs.some_bnd ?_); try dsimp only [sqK_nrm, sqK_exit, sqK_ret])
      | ((with_reducible apply Evs.bcndT); (focus (simp (disch := omega) [g0] <;> omega)))
      | ((with_reducible apply Evs.bcndF); (focus (simp (disch := omega) [g0] <;> omega)))
      | ((with_reducible apply Evs.step); (focus ((conv => lhs; simp (disch := omega) [g0]); done)); try dsimp only)
      | (simp only [n50_8_eq, n50_9_eq, n50_7_eq, n50_6_eq, n50_13_eq, n50_12_eq, n50_11_eq, n50_14_eq, n50_10_eq, n50_5_eq, n50_4_eq, n50_3_eq, n50_2_eq, n50_16_eq, n50_15_eq, n50_1_eq, n50_0_eq, sqK_nrm, sqK_exit, sqK_ret, inBlk_nrm, inBlk_ret, inBlk_same]))
    refine Evs.bnd (Q := fun r => ∃ env', r = (.exit 0, ⟨env', h ++ [⟨arr 16 g, 0, .own⟩, ⟨elX (val16 g), 0, .own⟩]⟩) ∧ env'.get 2 = .ptr (h.length + 1) 0 [] ty66) ?_ ?_
    · refine Evs.loop (fun n s => ∃ env' m, s = ⟨env', h ++ [⟨arr 16 g, 0, .own⟩, ⟨el (lowAt g m) (lowAt (fun i => g (i + 8)) m), 0, .own⟩]⟩ ∧ n + m = 8 ∧ env'.get 1 = .ptr h.length 0 [] (.arr 16 (.int .u8)) ∧ env'.get 2 = .ptr (h.length + 1) 0 [] ty66 ∧ env'.get 3 = .int .i64 (7 - (m : Int))) ?_ (n := 8)
        ⟨_, 0, rfl, rfl, by simp, by simp, by simp [nat]⟩
      rintro n s ⟨env', m, rfl, hm, e1, e2, e3⟩
      by_cases hm8 : m = 8
      · subst hm8
        have e3' : env'.get 3 = .int .i64 (-1) := by rw [e3]; rfl
        have c0 : mBin .geq (.int .i64 (-1)) (nat 0) = some (.bool false) := by simp [mBin, mBinI, nat]
        repeat (first
          | (with_reducible refine Evs.assoc ?_)
          | ((with_reducible refine Evs.some_bnd ?_); try dsimp only [sqK_nrm, sqK_exit, sqK_ret])
          | ((with_reducible apply Evs.bcndT); (focus (simp (disch := omega) [e1, e2, e3', c0] <;> omega)))
          | ((with_reducible apply Evs.bcndF); (focus (simp (disch := omega) [e1, e2, e3', c0] <;> omega)))
          | ((with_reducible apply Evs.step); (focus ((conv => lhs; simp (disch := omega) [e1, e2, e3', c0]); done)); try dsimp only)
          | (simp only [n50_8_eq, n50_9_eq, n50_7_eq, n50_6_eq, n50_13_eq, n50_12_eq, n50_11_eq, n50_14_eq, n50_10_eq, n50_5_eq, n50_4_eq, n50_3_eq, n50_2_eq, n50_16_eq, n50_15_eq, n50_1_eq, n50_0_eq, sqK_nrm, sqK_exit, sqK_ret, inBlk_nrm, inBlk_ret, inBlk_same]))
        rw [lowAt_lo, lowAt_hi]
        exact Evs.ret (.inr ⟨by simp, _, rfl, by simp [e2]⟩)
      · have e3' : env'.get 3 = nat (7 - m) := by rw [e3]; unfold nat; congr 1; omega
        have c1 : mBin .sub (nat (7 - m)) (nat 1) = some (.int .i64 (6 - (m : Int))) := by
          simp only [mBin, mBinI, nat, if_true]
          rw [wrapi (by omega)]
          congr 2
          omega
        repeat (first
          | (with_reducible refine Evs.assoc ?_)
          | ((with_reducible refine Evs.some_bnd ?_); try dsimp only [sqK_nrm, sqK_exit, sqK_ret])
          | ((with_reducible apply Evs.bcndT); (focus (simp (disch := omega) [e1, e2, e3', c1] <;> omega)))
          | ((with_reducible apply Evs.bcndF); (focus (simp (disch := omega) [e1, e2, e3', c1] <;> omega)))
          | ((with_reducible apply Evs.step); (focus ((conv => lhs; simp (disch := omega) [e1, e2, e3', c1]); done)); try dsimp only)
          | (simp only [n50_8_eq, n50_9_eq, n50_7_eq, n50_6_eq, n50_13_eq, n50_12_eq, n50_11_eq, n50_14_eq, n50_10_eq, n50_5_eq, n50_4_eq, n50_3_eq, n50_2_eq, n50_16_eq, n50_15_eq, n50_1_eq, n50_0_eq, sqK_nrm, sqK_exit, sqK_ret, inBlk_nrm, inBlk_ret, inBlk_same]))
        exact Evs.ret (.inl ⟨rfl, n - 1, by omega, _, m + 1, rfl, by omega, by simp [e1], by simp [e2], by simp; omega⟩)
    · rintro r ⟨env', rfl, e2⟩
      repeat (first
        | (with_reducible refine Evs.assoc ?_)
        | ((with_reducible refine Evs.some_bnd ?_); try dsimp only [sqK_nrm, sqK_exit, sqK_ret])
        | ((with_reducible apply Evs.bcndT); (focus (simp (disch := omega) [e2] <;> omega)))
        | ((with_reducible apply Evs.bcndF); (focus (simp (disch := omega) [e2] <;> omega)))
        | ((with_reducible apply Evs.step); (focus ((conv => lhs; simp (disch := omega) [e2]); done)); try dsimp only)
        | (simp only [n50_8_eq, n50_9_eq, n50_7_eq, n50_6_eq, n50_13_eq, n50_12_eq, n50_11_eq, n50_14_eq, n50_10_eq, n50_5_eq, n50_4_eq, n50_3_eq, n50_2_eq, n50_16_eq, n50_15_eq, n50_1_eq, n50_0_eq, sqK_nrm, sqK_exit, sqK_ret, inBlk_nrm, inBlk_ret, inBlk_same]))
      refine Evs.ret ⟨_, _, rfl, ?_⟩
      simp [e2]
  obtain ⟨r, hr, env, t, rfl, e0⟩ := main
  refine ⟨t, ?_⟩
  rw [hr]
  simp [e0, oneOrTuple]

noncomputable def c50 := conC (fun x : (Nat → BitVec 8) => [arr 16 x]) (fun (x : (Nat → BitVec 8)) h => True) (fun (x : (Nat → BitVec 8)) h => (elX (val16 x), h))
noncomputable def callS1 : Calling := addC callA14 50 c50
theorem c50_eq (g : Nat → BitVec 8) (h : Heap) : c50 [arr 16 g] h = some (elX (val16 g), h) :=
  conC_eq (enc := fun x : (Nat → BitVec 8) => [arr 16 x]) (P := fun (x : (Nat → BitVec 8)) h => True) (a := g) (f := fun (x : (Nat → BitVec 8)) h => (elX (val16 x), h)) (fun x y h e => by
    have e1 := arr_inj.1 (List.cons.inj e).1
    simp only [Prod.mk.injEq, and_true]
    rw [val16_congr e1]
    ) trivial
theorem callS1_ok : CallOK Try.prog callS1 := addC_con callA14_ok k50 fun x h hx => by
  obtain ⟨t, ht⟩ := walk50 callA14 h x
  exact (s50 callA14_ok ht).drop0 t rfl
@[simp] theorem callS1_ne {f : Nat} (args : List AV) (h : Heap) (hf : f ≠ 50) : callS1 f args h = callA14 f args h := addC_ne _ _ _ args h hf
@[simp] theorem callS1_sne {f : Nat} (args : List AV) (h : Heap) (hf : f ≠ 50) : still callS1 f args h = still callA14 f args h := still_ne _ _ _ args h hf
@[simp] theorem callS1_50 (g : Nat → BitVec 8) (h : Heap) : callS1 50 [arr 16 g] h = some (elX (val16 g), h) := by
  unfold callS1; rw [addC_same]; exact c50_eq g h
@[simp] theorem callS1_50s (g : Nat → BitVec 8) (h : Heap) : still callS1 50 [arr 16 g] h = some (elX (val16 g), h) := still_of fun t => by simp

theorem walk52 (call : Calling) (h : Heap) (x : BitVec 128) : ∃ t, evBody (cx52 call) Try.f52 n52_0 [elX x] h = some (arr 16 (bytesX x), h ++ t) := by
  rw [b52]
  have main : Evs (evC (cx52 call) n52_0 ⟨[(0, elX x), (1, .junk), (2, .junk), (3, .junk), (4, .junk), (5, .junk)], h⟩) (fun r => ∃ env t, r = (.ret, ⟨env, h ++ t⟩) ∧ mLoad (.arr 16 (.int .u8)) (env.get 2) (h ++ t) = some (arr 16 (bytesX x))) := by
    obtain ⟨env, he⟩ : ∃ env : Env, env = [(0, elX x), (1, .junk), (2, .junk), (3, .junk), (4, .junk), (5, .junk)] := ⟨_, rfl⟩
    rw [← he]
    have g0 : env.get 0 = elX x := by rw [he]; rfl
    clear he
    repeat (first
      | (with_reducible refine Evs.assoc ?_)
      | ((with_reducible refine Evs.some_bnd ?_); try dsimp only [sqK_nrm, sqK_exit, sqK_ret])
      | ((with_reducible apply Evs.bcndT); (focus (simp (disch := omega) [g0] <;> omega)))
      | ((with_reducible apply Evs.bcndF); (focus (simp (disch := omega) [g0] <;> omega)))
      | ((with_reducible apply Evs.step); (focus ((conv => lhs; simp (disch := omega) [g0]); done)); try dsimp only)
      | (simp only [n52_8_eq, n52_9_eq, n52_7_eq, n52_14_eq, n52_13_eq, n52_12_eq, n52_11_eq, n52_15_eq, n52_10_eq, n52_6_eq, n52_5_eq, n52_4_eq, n52_3_eq, n52_2_eq, n52_17_eq, n52_16_eq, n52_1_eq, n52_0_eq, sqK_nrm, sqK_exit, sqK_ret, inBlk_nrm, inBlk_ret, inBlk_same]))
    refine Evs.bnd (Q := fun r => ∃ env', r = (.exit 0, ⟨env', h ++ [⟨elX x, 0, .own⟩, ⟨arr 16 (bytesX x), 0, .own⟩]⟩) ∧ env'.get 2 = .ptr (h.length + 1) 0 [] (.arr 16 (.int .u8))) ?_ ?_
    · refine Evs.up 8 (fun m s => ∃ env' g, s = ⟨env', h ++ [⟨elX x, 0, .own⟩, ⟨arr 16 g, 0, .own⟩]⟩ ∧ env'.get 1 = .ptr h.length 0 [] ty66 ∧ env'.get 2 = .ptr (h.length + 1) 0 [] (.arr 16 (.int .u8)) ∧ env'.get 4 = nat m ∧ ∀ i, i < m → g i = bytesX x i ∧ g (i + 8) = bytesX x (i + 8)) ?_ ?_
        ⟨_, _, rfl, by simp, by simp, by simp, fun i hi => absurd hi (by omega)⟩
      · rintro m s hm ⟨env', g, rfl, e1, e2, e4, hg⟩
        repeat (first
          | (with_reducible refine Evs.assoc ?_)
          | ((with_reducible refine Evs.some_bnd ?_); try dsimp only [sqK_nrm, sqK_exit, sqK_ret])
          | ((with_reducible apply Evs.bcndT); (focus (simp (disch := omega) [e1, e2, e4] <;> omega)))
          | ((with_reducible apply Evs.bcndF); (focus (simp (disch := omega) [e1, e2, e4] <;> omega)))
          | ((with_reducible apply Evs.step); (focus ((conv => lhs; simp (disch := omega) [e1, e2, e4]); done)); try dsimp only)
          | (simp only [n52_8_eq, n52_9_eq, n52_7_eq, n52_14_eq, n52_13_eq, n52_12_eq, n52_11_eq, n52_15_eq, n52_10_eq, n52_6_eq, n52_5_eq, n52_4_eq, n52_3_eq, n52_2_eq, n52_17_eq, n52_16_eq, n52_1_eq, n52_0_eq, sqK_nrm, sqK_exit, sqK_ret, inBlk_nrm, inBlk_ret, inBlk_same]))
        rw [byte_lo x hm, byte_hi x hm]
        refine Evs.ret ⟨rfl, _, _, rfl, by simp [e1], by simp [e2], by simp, fun i hi => ?_⟩
        by_cases e : i = m
        · subst e
          rw [upd_ne _ _ (by omega), upd_same, upd_same]; exact ⟨rfl, rfl⟩
        · rw [upd_ne _ _ (by omega), upd_ne _ _ e, upd_ne _ _ (by omega), upd_ne _ _ (by omega)]; exact hg i (by omega)
      · rintro s ⟨env', g, rfl, e1, e2, e4, hg⟩
        repeat (first
          | (with_reducible refine Evs.assoc ?_)
          | ((with_reducible refine Evs.some_bnd ?_); try dsimp only [sqK_nrm, sqK_exit, sqK_ret])
          | ((with_reducible apply Evs.bcndT); (focus (simp (disch := omega) [e4] <;> omega)))
          | ((with_reducible apply Evs.bcndF); (focus (simp (disch := omega) [e4] <;> omega)))
          | ((with_reducible apply Evs.step); (focus ((conv => lhs; simp (disch := omega) [e4]); done)); try dsimp only)
          | (simp only [n52_8_eq, n52_9_eq, n52_7_eq, n52_14_eq, n52_13_eq, n52_12_eq, n52_11_eq, n52_15_eq, n52_10_eq, n52_6_eq, n52_5_eq, n52_4_eq, n52_3_eq, n52_2_eq, n52_17_eq, n52_16_eq, n52_1_eq, n52_0_eq, sqK_nrm, sqK_exit, sqK_ret, inBlk_nrm, inBlk_ret, inBlk_same]))
        have : arr 16 g = arr 16 (bytesX x) := arr_congr fun i hi => by
          by_cases h8 : i < 8
          · exact (hg i h8).1
          · have := (hg (i - 8) (by omega)).2
            rw [show i - 8 + 8 = i by omega] at this; exact this
        rw [this]
        exact Evs.ret ⟨by simp, _, rfl, by simp [e2]⟩
    · rintro r ⟨env', rfl, e2⟩
      repeat (first
        | (with_reducible refine Evs.assoc ?_)
        | ((with_reducible refine Evs.some_bnd ?_); try dsimp only [sqK_nrm, sqK_exit, sqK_ret])
        | ((with_reducible apply Evs.bcndT); (focus (simp (disch := omega) [e2] <;> omega)))
        | ((with_reducible apply Evs.bcndF); (focus (simp (disch := omega) [e2] <;> omega)))
        | ((with_reducible apply Evs.step); (focus ((conv => lhs; simp (disch := omega) [e2]); done)); try dsimp only)
        | (simp only [n52_8_eq, n52_9_eq, n52_7_eq, n52_14_eq, n52_13_eq, n52_12_eq, n52_11_eq, n52_15_eq, n52_10_eq, n52_6_eq, n52_5_eq, n52_4_eq, n52_3_eq, n52_2_eq, n52_17_eq, n52_16_eq, n52_1_eq, n52_0_eq, sqK_nrm, sqK_exit, sqK_ret, inBlk_nrm, inBlk_ret, inBlk_same]))
      refine Evs.ret ⟨_, _, rfl, ?_⟩
      simp [e2]
  obtain ⟨r, hr, env, t, rfl, e0⟩ := main
  refine ⟨t, ?_⟩
  rw [hr]
  simp [e0, oneOrTuple]

noncomputable def c52 := conC (fun x : (BitVec 128) => [elX x]) (fun (x : (BitVec 128)) h => True) (fun (x : (BitVec 128)) h => (arr 16 (bytesX x), h))
noncomputable def callS2 : Calling := addC callS1 52 c52
theorem c52_eq (x : BitVec 128) (h : Heap) : c52 [elX x] h = some (arr 16 (bytesX x), h) :=
  conC_eq (enc := fun x : (BitVec 128) => [elX x]) (P := fun (x : (BitVec 128)) h => True) (a := x) (f := fun (x : (BitVec 128)) h => (arr 16 (bytesX x), h)) (fun x y h e => by
    have e1 := elX_inj.1 (List.cons.inj e).1
    rw [e1]
    ) trivial
theorem callS2_ok : CallOK Try.prog callS2 := addC_con callS1_ok k52 fun x h hx => by
  obtain ⟨t, ht⟩ := walk52 callS1 h x
  exact (s52 callS1_ok ht).drop0 t rfl
@[simp] theorem callS2_ne {f : Nat} (args : List AV) (h : Heap) (hf : f ≠ 52) : callS2 f args h = callS1 f args h := addC_ne _ _ _ args h hf
@[simp] theorem callS2_sne {f : Nat} (args : List AV) (h : Heap) (hf : f ≠ 52) : still callS2 f args h = still callS1 f args h := still_ne _ _ _ args h hf
@[simp] theorem callS2_52 (x : BitVec 128) (h : Heap) : callS2 52 [elX x] h = some (arr 16 (bytesX x), h) := by
  unfold callS2; rw [addC_same]; exact c52_eq x h
@[simp] theorem callS2_52s (x : BitVec 128) (h : Heap) : still callS2 52 [elX x] h = some (arr 16 (bytesX x), h) := still_of fun t => by simp

theorem walk59 (call : Calling) (h : Heap) (x y : BitVec 128) : ∃ t, evBody (cx59 call) Try.f59 n59_0 [elX x, elX y] h = some (elX (x ^^^ y), h ++ t) := by
  rw [b59]
  have main : Evs (evC (cx59 call) n59_0 ⟨[(0, elX x), (1, elX y), (2, .junk), (3, .junk), (4, .junk)], h⟩) (fun r => ∃ env t, r = (.ret, ⟨env, h ++ t⟩) ∧ mLoad ty66 (env.get 4) (h ++ t) = some (elX (x ^^^ y))) := by
    obtain ⟨env, he⟩ : ∃ env : Env, env = [(0, elX x), (1, elX y), (2, .junk), (3, .junk), (4, .junk)] := ⟨_, rfl⟩
    rw [← he]
    have g0 : env.get 0 = elX x := by rw [he]; rfl
    have g1 : env.get 1 = elX y := by rw [he]; rfl
    clear he
    repeat (first
      | (with_reducible refine Evs.assoc ?_)
      | ((with_reducible refine Evs.some_bnd ?_); try dsimp only [sqK_nrm, sqK_exit, sqK_ret])
      | ((with_reducible apply Evs.bcndT); (focus (simp (disch := omega) [g0, g1] <;> omega)))
      | ((with_reducible apply Evs.bcndF); (focus (simp (disch := omega) [g0, g1] <;> omega)))
      | ((with_reducible apply Evs.step); (focus ((conv => lhs; simp (disch := omega) [g0, g1]); done)); try dsimp only)
      | (simp only [n59_2_eq, n59_1_eq, n59_0_eq, sqK_nrm, sqK_exit, sqK_ret, inBlk_nrm, inBlk_ret, inBlk_same]))
    refine Evs.ret ⟨_, _, rfl, ?_⟩
    simp [elX, setWidth_xor, hi_xor]
  obtain ⟨r, hr, env, t, rfl, e0⟩ := main
  refine ⟨t, ?_⟩
  rw [hr]
  simp [e0, oneOrTuple]

noncomputable def c59 := conC (fun x : (BitVec 128) × (BitVec 128) => [elX x.1, elX x.2]) (fun (x : (BitVec 128) × (BitVec 128)) h => True) (fun (x : (BitVec 128) × (BitVec 128)) h => (elX (x.1 ^^^ x.2), h))
noncomputable def callS3 : Calling := addC callS2 59 c59
theorem c59_eq (a : BitVec 128) (b : BitVec 128) (h : Heap) : c59 [elX a, elX b] h = some (elX (a ^^^ b), h) :=
  conC_eq (enc := fun x : (BitVec 128) × (BitVec 128) => [elX x.1, elX x.2]) (P := fun (x : (BitVec 128) × (BitVec 128)) h => True) (a := (a, b)) (f := fun (x : (BitVec 128) × (BitVec 128)) h => (elX (x.1 ^^^ x.2), h)) (fun x y h e => by
    have e1 := elX_inj.1 (List.cons.inj e).1
    have e2 := elX_inj.1 (List.cons.inj (List.cons.inj e).2).1
    rw [e1, e2]
    ) trivial
theorem callS3_ok : CallOK Try.prog callS3 := addC_con callS2_ok k59 fun x h hx => by
  obtain ⟨t, ht⟩ := walk59 callS2 h x.1 x.2
  exact (s59 callS2_ok ht).drop0 t rfl
@[simp] theorem callS3_ne {f : Nat} (args : List AV) (h : Heap) (hf : f ≠ 59) : callS3 f args h = callS2 f args h := addC_ne _ _ _ args h hf
@[simp] theorem callS3_sne {f : Nat} (args : List AV) (h : Heap) (hf : f ≠ 59) : still callS3 f args h = still callS2 f args h := still_ne _ _ _ args h hf
@[simp] theorem callS3_59 (a : BitVec 128) (b : BitVec 128) (h : Heap) : callS3 59 [elX a, elX b] h = some (elX (a ^^^ b), h) := by
  unfold callS3; rw [addC_same]; exact c59_eq a b h
@[simp] theorem callS3_59s (a : BitVec 128) (b : BitVec 128) (h : Heap) : still callS3 59 [elX a, elX b] h = some (elX (a ^^^ b), h) := still_of fun t => by simp

end Go.Vab

/-
  The program's product of two elements; sums of sixteen bytes.
-/
namespace Go.Vab
open Go Go.Proofs

@[simp] theorem elX_eq' (x : BitVec 128) : AV.node [u64 (x.setWidth 64), u64 ((x >>> 64).setWidth 64)] = elX x := rfl
theorem bit_lo (x : BitVec 128) {i : Nat} (hi : i < 64) : (x.setWidth 64).getLsbD i = x.getLsbD i := by simp [BitVec.getLsbD_setWidth, hi]
theorem bit_hi (x : BitVec 128) {i : Nat} (h : 64 ≤ i) (hi : i < 128) : ((x >>> 64).setWidth 64).getLsbD (i % 64) = x.getLsbD i := by
  rw [BitVec.getLsbD_setWidth, BitVec.getLsbD_ushiftRight, show 64 + i % 64 = i by omega]
  simp [show i % 64 < 64 by omega]

def H51 (h : Heap) (x y s : BitVec 128) : Heap := h ++ [⟨elX x, 0, .own⟩, ⟨elX y, 0, .own⟩, ⟨elX 0#128, 0, .own⟩, ⟨elX s, 0, .own⟩]

set_option maxHeartbeats 2000000 in
theorem round51 (h : Heap) (x y s : BitVec 128) (i : Nat) (hi : i < 128) (env : Env) (e2 : env.get 2 = .ptr h.length 0 [] ty66) (e3 : env.get 3 = .ptr (h.length + 1) 0 [] ty66) (e4 : env.get 4 = .ptr (h.length + 2) 0 [] ty66) (e5 : env.get 5 = .ptr (h.length + 3) 0 [] ty66) (e9 : env.get 9 = nat i) :
    Evs (evC (cx51 callS3) n51_6 ⟨env, H51 h x y s⟩) (fun r => ∃ env', r = (.nrm, ⟨env', H51 h x y (dX (if x.getLsbD i = true then s ^^^ y else s))⟩) ∧ env'.get 9 = nat (i + 1) ∧ Same [2, 3, 4, 5] env env') := by
  unfold H51
  have key : ∀ (w : BitVec 64), (if 63 < i then (x >>> 64).setWidth 64 else x.setWidth 64) = w → ((w >>> (i % 64) &&& 1#64 = 1#64) ↔ x.getLsbD i = true) := by
    rintro w rfl
    rw [word_bit]
    split
    · rw [bit_hi x (by omega) hi]
    · rw [show i % 64 = i by omega, bit_lo x (by omega)]
  by_cases h63 : 63 < i
  · have kk := key _ (if_pos h63)
    by_cases hb : x.getLsbD i = true
    · have k1 := kk.2 hb
      rw [if_pos hb]
      obtain ⟨u, hu⟩ : ∃ u, s ^^^ y = u := ⟨_, rfl⟩
      rw [hu]
      by_cases ho : u.getLsbD 0 = true
      · have o1 := (odd_lo u).2 ho
        repeat (first
          | (with_reducible refine Evs.assoc ?_)
          | ((with_reducible refine Evs.some_bnd ?_); try dsimp only [sqK_nrm, sqK_exit, sqK_ret])
          | ((with_reducible apply Evs.bcndT); (focus (simp (disch := omega) [e2, e3, e4, e5, e9, k1, o1, hu] <;> omega)))
          | ((with_reducible apply Evs.bcndF); (focus (simp (disch := omega) [e2, e3, e4, e5, e9, k1, o1, hu] <;> omega)))
          | ((with_reducible apply Evs.step); (focus ((conv => lhs; simp (disch := omega) [e2, e3, e4, e5, e9, k1, o1, hu]); done)); try dsimp only)
          | (simp only [n51_9_eq, n51_10_eq, n51_8_eq, n51_18_eq, n51_19_eq, n51_17_eq, n51_16_eq, n51_23_eq, n51_24_eq, n51_22_eq, n51_21_eq, n51_29_eq, n51_30_eq, n51_28_eq, n51_27_eq, n51_26_eq, n51_25_eq, n51_20_eq, n51_15_eq, n51_14_eq, n51_13_eq, n51_12_eq, n51_31_eq, n51_11_eq, n51_7_eq, n51_6_eq, n51_5_eq, n51_4_eq, n51_3_eq, n51_33_eq, n51_32_eq, n51_2_eq, n51_1_eq, n51_0_eq, sqK_nrm, sqK_exit, sqK_ret, inBlk_nrm, inBlk_ret, inBlk_same]))
        rw [step_odd _ ho]
        exact Evs.ret ⟨_, rfl, by simp, by repeat (first | exact Same.refl _ _ | refine Same.put rfl ?_)⟩
      · have o1 : ¬ _ := fun q => ho ((odd_lo u).1 q)
        repeat (first
          | (with_reducible refine Evs.assoc ?_)
          | ((with_reducible refine Evs.some_bnd ?_); try dsimp only [sqK_nrm, sqK_exit, sqK_ret])
          | ((with_reducible apply Evs.bcndT); (focus (simp (disch := omega) [e2, e3, e4, e5, e9, k1, o1, hu] <;> omega)))
          | ((with_reducible apply Evs.bcndF); (focus (simp (disch := omega) [e2, e3, e4, e5, e9, k1, o1, hu] <;> omega)))
          | ((with_reducible apply Evs.step); (focus ((conv => lhs; simp (disch := omega) [e2, e3, e4, e5, e9, k1, o1, hu]); done)); try dsimp only)
          | (simp only [n51_9_eq, n51_10_eq, n51_8_eq, n51_18_eq, n51_19_eq, n51_17_eq, n51_16_eq, n51_23_eq, n51_24_eq, n51_22_eq, n51_21_eq, n51_29_eq, n51_30_eq, n51_28_eq, n51_27_eq, n51_26_eq, n51_25_eq, n51_20_eq, n51_15_eq, n51_14_eq, n51_13_eq, n51_12_eq, n51_31_eq, n51_11_eq, n51_7_eq, n51_6_eq, n51_5_eq, n51_4_eq, n51_3_eq, n51_33_eq, n51_32_eq, n51_2_eq, n51_1_eq, n51_0_eq, sqK_nrm, sqK_exit, sqK_ret, inBlk_nrm, inBlk_ret, inBlk_same]))
        rw [step_even _ ho]
        exact Evs.ret ⟨_, rfl, by simp, by repeat (first | exact Same.refl _ _ | refine Same.put rfl ?_)⟩
    · have k1 : ¬ _ := fun q => hb (kk.1 q)
      rw [if_neg hb]
      by_cases ho : s.getLsbD 0 = true
      · have o1 := (odd_lo s).2 ho
        repeat (first
          | (with_reducible refine Evs.assoc ?_)
          | ((with_reducible refine Evs.some_bnd ?_); try dsimp only [sqK_nrm, sqK_exit, sqK_ret])
          | ((with_reducible apply Evs.bcndT); (focus (simp (disch := omega) [e2, e3, e4, e5, e9, k1, o1] <;> omega)))
          | ((with_reducible apply Evs.bcndF); (focus (simp (disch := omega) [e2, e3, e4, e5, e9, k1, o1] <;> omega)))
          | ((with_reducible apply Evs.step); (focus ((conv => lhs; simp (disch := omega) [e2, e3, e4, e5, e9, k1, o1]); done)); try dsimp only)
          | (simp only [n51_9_eq, n51_10_eq, n51_8_eq, n51_18_eq, n51_19_eq, n51_17_eq, n51_16_eq, n51_23_eq, n51_24_eq, n51_22_eq, n51_21_eq, n51_29_eq, n51_30_eq, n51_28_eq, n51_27_eq, n51_26_eq, n51_25_eq, n51_20_eq, n51_15_eq, n51_14_eq, n51_13_eq, n51_12_eq, n51_31_eq, n51_11_eq, n51_7_eq, n51_6_eq, n51_5_eq, n51_4_eq, n51_3_eq, n51_33_eq, n51_32_eq, n51_2_eq, n51_1_eq, n51_0_eq, sqK_nrm, sqK_exit, sqK_ret, inBlk_nrm, inBlk_ret, inBlk_same]))
        rw [step_odd _ ho]
        exact Evs.ret ⟨_, rfl, by simp, by repeat (first | exact Same.refl _ _ | refine Same.put rfl ?_)⟩
      · have o1 : ¬ _ := fun q => ho ((odd_lo s).1 q)
        repeat (first
          | (with_reducible refine Evs.assoc ?_)
          | ((with_reducible refine Evs.some_bnd ?_); try dsimp only [sqK_nrm, sqK_exit, sqK_ret])
          | ((with_reducible apply Evs.bcndT); (focus (simp (disch := omega) [e2, e3, e4, e5, e9, k1, o1] <;> omega)))
          | ((with_reducible apply Evs.bcndF); (focus (simp (disch := omega) [e2, e3, e4, e5, e9, k1, o1] <;> omega)))
          | ((with_reducible apply Evs.step); (focus ((conv => lhs; simp (disch := omega) [e2, e3, e4, e5, e9, k1, o1]); done)); try dsimp only)
          | (simp only [n51_9_eq, n51_10_eq, n51_8_eq, n51_18_eq, n51_19_eq, n51_17_eq, n51_16_eq, n51_23_eq, n51_24_eq, n51_22_eq, n51_21_eq, n51_29_eq, n51_30_eq, n51_28_eq, n51_27_eq, n51_26_eq, n51_25_eq, n51_20_eq, n51_15_eq, n51_14_eq, n51_13_eq, n51_12_eq, n51_31_eq, n51_11_eq, n51_7_eq, n51_6_eq, n51_5_eq, n51_4_eq, n51_3_eq, n51_33_eq, n51_32_eq, n51_2_eq, n51_1_eq, n51_0_eq, sqK_nrm, sqK_exit, sqK_ret, inBlk_nrm, inBlk_ret, inBlk_same]))
        rw [step_even _ ho]
        exact Evs.ret ⟨_, rfl, by simp, by repeat (first | exact Same.refl _ _ | refine Same.put rfl ?_)⟩
  · have kk := key _ (if_neg h63)
    by_cases hb : x.getLsbD i = true
    · have k1 := kk.2 hb
      rw [if_pos hb]
      obtain ⟨u, hu⟩ : ∃ u, s ^^^ y = u := ⟨_, rfl⟩
      rw [hu]
      by_cases ho : u.getLsbD 0 = true
      · have o1 := (odd_lo u).2 ho
        repeat (first
          | (with_reducible refine Evs.assoc ?_)
          | ((with_reducible refine Evs.some_bnd ?_); try dsimp only [sqK_nrm, sqK_exit, sqK_ret])
          | ((with_reducible apply Evs.bcndT); (focus (simp (disch := omega) [e2, e3, e4, e5, e9, k1, o1, hu] <;> omega)))
          | ((with_reducible apply Evs.bcndF); (focus (simp (disch := omega) [e2, e3, e4, e5, e9, k1, o1, hu] <;> omega)))
          | ((with_reducible apply Evs.step); (focus ((conv => lhs; simp (disch := omega) [e2, e3, e4, e5, e9, k1, o1, hu]); done)); try dsimp only)
          | (simp only [n51_9_eq, n51_10_eq, n51_8_eq, n51_18_eq, n51_19_eq, n51_17_eq, n51_16_eq, n51_23_eq, n51_24_eq, n51_22_eq, n51_21_eq, n51_29_eq, n51_30_eq, n51_28_eq, n51_27_eq, n51_26_eq, n51_25_eq, n51_20_eq, n51_15_eq, n51_14_eq, n51_13_eq, n51_12_eq, n51_31_eq, n51_11_eq, n51_7_eq, n51_6_eq, n51_5_eq, n51_4_eq, n51_3_eq, n51_33_eq, n51_32_eq, n51_2_eq, n51_1_eq, n51_0_eq, sqK_nrm, sqK_exit, sqK_ret, inBlk_nrm, inBlk_ret, inBlk_same]))
        rw [step_odd _ ho]
        exact Evs.ret ⟨_, rfl, by simp, by repeat (first | exact Same.refl _ _ | refine Same.put rfl ?_)⟩
      · have o1 : ¬ _ := fun q => ho ((odd_lo u).1 q)
        repeat (first
          | (with_reducible refine Evs.assoc ?_)
          | ((with_reducible refine Evs.some_bnd ?_); try dsimp only [sqK_nrm, sqK_exit, sqK_ret])
          | ((with_reducible apply Evs.bcndT); (focus (simp (disch := omega) [e2, e3, e4, e5, e9, k1, o1, hu] <;> omega)))
          | ((with_reducible apply Evs.bcndF); (focus (simp (disch := omega) [e2, e3, e4, e5, e9, k1, o1, hu] <;> omega)))
          | ((with_reducible apply Evs.step); (focus ((conv => lhs; simp (disch := omega) [e2, e3, e4, e5, e9, k1, o1, hu]); done)); try dsimp only)
          | (simp only [n51_9_eq, n51_10_eq, n51_8_eq, n51_18_eq, n51_19_eq, n51_17_eq, n51_16_eq, n51_23_eq, n51_24_eq, n51_22_eq, n51_21_eq, n51_29_eq, n51_30_eq, n51_28_eq, n51_27_eq, n51_26_eq, n51_25_eq, n51_20_eq, n51_15_eq, n51_14_eq, n51_13_eq, n51_12_eq, n51_31_eq, n51_11_eq, n51_7_eq, n51_6_eq, n51_5_eq, n51_4_eq, n51_3_eq, n51_33_eq, n51_32_eq, n51_2_eq, n51_1_eq, n51_0_eq, sqK_nrm, sqK_exit, sqK_ret, inBlk_nrm, inBlk_ret, inBlk_same]))
        rw [step_even _ ho]
        exact Evs.ret ⟨_, rfl, by simp, by repeat (first | exact Same.refl _ _ | refine Same.put rfl ?_)⟩
    · have k1 : ¬ _ := fun q => hb (kk.1 q)
      rw [if_neg hb]
      by_cases ho : s.getLsbD 0 = true
      · have o1 := (odd_lo s).2 ho
        repeat (first
          | (with_reducible refine Evs.assoc ?_)
          | ((with_reducible refine Evs.some_bnd ?_); try dsimp only [sqK_nrm, sqK_exit, sqK_ret])
          | ((with_reducible apply Evs.bcndT); (focus (simp (disch := omega) [e2, e3, e4, e5, e9, k1, o1] <;> omega)))
          | ((with_reducible apply Evs.bcndF); (focus (simp (disch := omega) [e2, e3, e4, e5, e9, k1, o1] <;> omega)))
          | ((with_reducible apply Evs.step); (focus ((conv => lhs; simp (disch := omega) [e2, e3, e4, e5, e9, k1, o1]); done)); try dsimp only)
          | (simp only [n51_9_eq, n51_10_eq, n51_8_eq, n51_18_eq, n51_19_eq, n51_17_eq, n51_16_eq, n51_23_eq, n51_24_eq, n51_22_eq, n51_21_eq, n51_29_eq, n51_30_eq, n51_28_eq, n51_27_eq, n51_26_eq, n51_25_eq, n51_20_eq, n51_15_eq, n51_14_eq, n51_13_eq, n51_12_eq, n51_31_eq, n51_11_eq, n51_7_eq, n51_6_eq, n51_5_eq, n51_4_eq, n51_3_eq, n51_33_eq, n51_32_eq, n51_2_eq, n51_1_eq, n51_0_eq, sqK_nrm, sqK_exit, sqK_ret, inBlk_nrm, inBlk_ret, inBlk_same]))
        rw [step_odd _ ho]
        exact Evs.ret ⟨_, rfl, by simp, by repeat (first | exact Same.refl _ _ | refine Same.put rfl ?_)⟩
      · have o1 : ¬ _ := fun q => ho ((odd_lo s).1 q)
        repeat (first
          | (with_reducible refine Evs.assoc ?_)
          | ((with_reducible refine Evs.some_bnd ?_); try dsimp only [sqK_nrm, sqK_exit, sqK_ret])
          | ((with_reducible apply Evs.bcndT); (focus (simp (disch := omega) [e2, e3, e4, e5, e9, k1, o1] <;> omega)))
          | ((with_reducible apply Evs.bcndF); (focus (simp (disch := omega) [e2, e3, e4, e5, e9, k1, o1] <;> omega)))
          | ((with_reducible apply Evs.step); (focus ((conv => lhs; simp (disch := omega) [e2, e3, e4, e5, e9, k1, o1]); done)); try dsimp only)
          | (simp only [n51_9_eq, n51_10_eq, n51_8_eq, n51_18_eq, n51_19_eq, n51_17_eq, n51_16_eq, n51_23_eq, n51_24_eq, n51_22_eq, n51_21_eq, n51_29_eq, n51_30_eq, n51_28_eq, n51_27_eq, n51_26_eq, n51_25_eq, n51_20_eq, n51_15_eq, n51_14_eq, n51_13_eq, n51_12_eq, n51_31_eq, n51_11_eq, n51_7_eq, n51_6_eq, n51_5_eq, n51_4_eq, n51_3_eq, n51_33_eq, n51_32_eq, n51_2_eq, n51_1_eq, n51_0_eq, sqK_nrm, sqK_exit, sqK_ret, inBlk_nrm, inBlk_ret, inBlk_same]))
        rw [step_even _ ho]
        exact Evs.ret ⟨_, rfl, by simp, by repeat (first | exact Same.refl _ _ | refine Same.put rfl ?_)⟩

theorem walk51 (h : Heap) (x y : BitVec 128) : ∃ t, evBody (cx51 callS3) Try.f51 n51_0 [elX x, elX y] h = some (elX (dotX x y), h ++ t) := by
  rw [b51]
  have main : Evs (evC (cx51 callS3) n51_0 ⟨[(0, elX x), (1, elX y), (2, .junk), (3, .junk), (4, .junk), (5, .junk), (6, .junk), (7, .junk), (8, .junk), (9, .junk), (10, .junk), (15, .junk), (23, .junk), (42, .junk)], h⟩) (fun r => ∃ env t, r = (.ret, ⟨env, h ++ t⟩) ∧ mLoad ty66 (env.get 4) (h ++ t) = some (elX (dotX x y))) := by
    obtain ⟨env, he⟩ : ∃ env : Env, env = [(0, elX x), (1, elX y), (2, .junk), (3, .junk), (4, .junk), (5, .junk), (6, .junk), (7, .junk), (8, .junk), (9, .junk), (10, .junk), (15, .junk), (23, .junk), (42, .junk)] := ⟨_, rfl⟩
    rw [← he]
    have g0 : env.get 0 = elX x := by rw [he]; rfl
    have g1 : env.get 1 = elX y := by rw [he]; rfl
    clear he
    have z0 : el 0#64 0#64 = elX 0#128 := by kernel_rfl
    repeat (first
      | (with_reducible refine Evs.assoc ?_)
      | ((with_reducible refine Evs.some_bnd ?_); try dsimp only [sqK_nrm, sqK_exit, sqK_ret])
      | ((with_reducible apply Evs.bcndT); (focus (simp (disch := omega) [g0, g1] <;> omega)))
      | ((with_reducible apply Evs.bcndF); (focus (simp (disch := omega) [g0, g1] <;> omega)))
      | ((with_reducible apply Evs.step); (focus ((conv => lhs; simp (disch := omega) [g0, g1]); done)); try dsimp only)
      | (simp only [n51_9_eq, n51_10_eq, n51_8_eq, n51_18_eq, n51_19_eq, n51_17_eq, n51_16_eq, n51_23_eq, n51_24_eq, n51_22_eq, n51_21_eq, n51_29_eq, n51_30_eq, n51_28_eq, n51_27_eq, n51_26_eq, n51_25_eq, n51_20_eq, n51_15_eq, n51_14_eq, n51_13_eq, n51_12_eq, n51_31_eq, n51_11_eq, n51_7_eq, n51_6_eq, n51_5_eq, n51_4_eq, n51_3_eq, n51_33_eq, n51_32_eq, n51_2_eq, n51_1_eq, n51_0_eq, sqK_nrm, sqK_exit, sqK_ret, inBlk_nrm, inBlk_ret, inBlk_same]))
    rw [z0]
    refine Evs.bnd (Q := fun r => ∃ env', r = (.exit 0, ⟨env', H51 h x y (dotX x y)⟩) ∧ env'.get 4 = .ptr (h.length + 2) 0 [] ty66 ∧ env'.get 5 = .ptr (h.length + 3) 0 [] ty66) ?_ ?_
    · refine Evs.up 128 (fun i s => ∃ env', s = ⟨env', H51 h x y (pX x y i)⟩ ∧ env'.get 2 = .ptr h.length 0 [] ty66 ∧ env'.get 3 = .ptr (h.length + 1) 0 [] ty66 ∧ env'.get 4 = .ptr (h.length + 2) 0 [] ty66 ∧ env'.get 5 = .ptr (h.length + 3) 0 [] ty66 ∧ env'.get 9 = nat i) ?_ ?_
        ⟨_, rfl, by simp, by simp, by simp, by simp, by simp⟩
      · rintro i s hi ⟨env', rfl, e2, e3, e4, e5, e9⟩
        refine (round51 h x y (pX x y i) i hi env' e2 e3 e4 e5 e9).mono ?_
        rintro r ⟨env2, rfl, f9, hs⟩
        exact ⟨rfl, _, rfl, (hs.get 2 rfl).trans e2, (hs.get 3 rfl).trans e3, (hs.get 4 rfl).trans e4, (hs.get 5 rfl).trans e5, f9⟩
      · rintro s ⟨env', rfl, e2, e3, e4, e5, e9⟩
        repeat (first
          | (with_reducible refine Evs.assoc ?_)
          | ((with_reducible refine Evs.some_bnd ?_); try dsimp only [sqK_nrm, sqK_exit, sqK_ret])
          | ((with_reducible apply Evs.bcndT); (focus (simp (disch := omega) [e9] <;> omega)))
          | ((with_reducible apply Evs.bcndF); (focus (simp (disch := omega) [e9] <;> omega)))
          | ((with_reducible apply Evs.step); (focus ((conv => lhs; simp (disch := omega) [e9]); done)); try dsimp only)
          | (simp only [n51_9_eq, n51_10_eq, n51_8_eq, n51_18_eq, n51_19_eq, n51_17_eq, n51_16_eq, n51_23_eq, n51_24_eq, n51_22_eq, n51_21_eq, n51_29_eq, n51_30_eq, n51_28_eq, n51_27_eq, n51_26_eq, n51_25_eq, n51_20_eq, n51_15_eq, n51_14_eq, n51_13_eq, n51_12_eq, n51_31_eq, n51_11_eq, n51_7_eq, n51_6_eq, n51_5_eq, n51_4_eq, n51_3_eq, n51_33_eq, n51_32_eq, n51_2_eq, n51_1_eq, n51_0_eq, sqK_nrm, sqK_exit, sqK_ret, inBlk_nrm, inBlk_ret, inBlk_same]))
        exact Evs.ret ⟨by simp, _, rfl, by simp [e4], by simp [e5]⟩
    · rintro r ⟨env', rfl, e4, e5⟩
      unfold H51
      repeat (first
        | (with_reducible refine Evs.assoc ?_)
        | ((with_reducible refine Evs.some_bnd ?_); try dsimp only [sqK_nrm, sqK_exit, sqK_ret])
        | ((with_reducible apply Evs.bcndT); (focus (simp (disch := omega) [e4, e5] <;> omega)))
        | ((with_reducible apply Evs.bcndF); (focus (simp (disch := omega) [e4, e5] <;> omega)))
        | ((with_reducible apply Evs.step); (focus ((conv => lhs; simp (disch := omega) [e4, e5]); done)); try dsimp only)
        | (simp only [n51_9_eq, n51_10_eq, n51_8_eq, n51_18_eq, n51_19_eq, n51_17_eq, n51_16_eq, n51_23_eq, n51_24_eq, n51_22_eq, n51_21_eq, n51_29_eq, n51_30_eq, n51_28_eq, n51_27_eq, n51_26_eq, n51_25_eq, n51_20_eq, n51_15_eq, n51_14_eq, n51_13_eq, n51_12_eq, n51_31_eq, n51_11_eq, n51_7_eq, n51_6_eq, n51_5_eq, n51_4_eq, n51_3_eq, n51_33_eq, n51_32_eq, n51_2_eq, n51_1_eq, n51_0_eq, sqK_nrm, sqK_exit, sqK_ret, inBlk_nrm, inBlk_ret, inBlk_same]))
      refine Evs.ret ⟨_, _, rfl, ?_⟩
      simp [e4]
  obtain ⟨r, hr, env, t, rfl, e0⟩ := main
  refine ⟨t, ?_⟩
  rw [hr]
  simp [e0, oneOrTuple]

noncomputable def c51 := conC (fun x : (BitVec 128) × (BitVec 128) => [elX x.1, elX x.2]) (fun (x : (BitVec 128) × (BitVec 128)) h => True) (fun (x : (BitVec 128) × (BitVec 128)) h => (elX (dotX x.1 x.2), h))
noncomputable def callS4 : Calling := addC callS3 51 c51
theorem c51_eq (a : BitVec 128) (b : BitVec 128) (h : Heap) : c51 [elX a, elX b] h = some (elX (dotX a b), h) :=
  conC_eq (enc := fun x : (BitVec 128) × (BitVec 128) => [elX x.1, elX x.2]) (P := fun (x : (BitVec 128) × (BitVec 128)) h => True) (a := (a, b)) (f := fun (x : (BitVec 128) × (BitVec 128)) h => (elX (dotX x.1 x.2), h)) (fun x y h e => by
    have e1 := elX_inj.1 (List.cons.inj e).1
    have e2 := elX_inj.1 (List.cons.inj (List.cons.inj e).2).1
    rw [e1, e2]
    ) trivial
theorem callS4_ok : CallOK Try.prog callS4 := addC_con callS3_ok k51 fun x h hx => by
  obtain ⟨t, ht⟩ := walk51 h x.1 x.2
  exact (s51 callS3_ok ht).drop0 t rfl
@[simp] theorem callS4_ne {f : Nat} (args : List AV) (h : Heap) (hf : f ≠ 51) : callS4 f args h = callS3 f args h := addC_ne _ _ _ args h hf
@[simp] theorem callS4_sne {f : Nat} (args : List AV) (h : Heap) (hf : f ≠ 51) : still callS4 f args h = still callS3 f args h := still_ne _ _ _ args h hf
@[simp] theorem callS4_51 (a : BitVec 128) (b : BitVec 128) (h : Heap) : callS4 51 [elX a, elX b] h = some (elX (dotX a b), h) := by
  unfold callS4; rw [addC_same]; exact c51_eq a b h
@[simp] theorem callS4_51s (a : BitVec 128) (b : BitVec 128) (h : Heap) : still callS4 51 [elX a, elX b] h = some (elX (dotX a b), h) := still_of fun t => by simp

def dotB (a b : Nat → BitVec 8) : Nat → BitVec 8 := bytesX (dotX (val16 a) (val16 b))

theorem walk31 (h : Heap) (a b : Nat → BitVec 8) : ∃ t, evBody (cx31 callS4) Try.f31 n31_0 [arr 16 a, arr 16 b] h = some (arr 16 (dotB a b), h ++ t) := by
  rw [b31]
  have main : Evs (evC (cx31 callS4) n31_0 ⟨[(0, arr 16 a), (1, arr 16 b), (2, .junk), (3, .junk), (4, .junk)], h⟩) (fun r => ∃ env t, r = (.ret, ⟨env, h ++ t⟩) ∧ mLoad (.arr 16 (.int .u8)) (env.get 4) (h ++ t) = some (arr 16 (dotB a b))) := by
    obtain ⟨env, he⟩ : ∃ env : Env, env = [(0, arr 16 a), (1, arr 16 b), (2, .junk), (3, .junk), (4, .junk)] := ⟨_, rfl⟩
    rw [← he]
    have g0 : env.get 0 = arr 16 a := by rw [he]; rfl
    have g1 : env.get 1 = arr 16 b := by rw [he]; rfl
    clear he
    repeat (first
      | (with_reducible refine Evs.assoc ?_)
      | ((with_reducible refine Evs.some_bnd ?_); try dsimp only [sqK_nrm, sqK_exit, sqK_ret])
      | ((with_reducible apply Evs.bcndT); (focus (simp (disch := omega) [g0, g1] <;> omega)))
      | ((with_reducible apply Evs.bcndF); (focus (simp (disch := omega) [g0, g1] <;> omega)))
      | ((with_reducible apply Evs.step); (focus ((conv => lhs; simp (disch := omega) [g0, g1]); done)); try dsimp only)
      | (simp only [n31_2_eq, n31_1_eq, n31_0_eq, sqK_nrm, sqK_exit, sqK_ret, inBlk_nrm, inBlk_ret, inBlk_same]))
    refine Evs.ret ⟨_, _, rfl, ?_⟩
    simp [dotB]
  obtain ⟨r, hr, env, t, rfl, e0⟩ := main
  refine ⟨t, ?_⟩
  rw [hr]
  simp [e0, oneOrTuple]

noncomputable def c31 := conC (fun x : (Nat → BitVec 8) × (Nat → BitVec 8) => [arr 16 x.1, arr 16 x.2]) (fun (x : (Nat → BitVec 8) × (Nat → BitVec 8)) h => True) (fun (x : (Nat → BitVec 8) × (Nat → BitVec 8)) h => (arr 16 (dotB x.1 x.2), h))
noncomputable def callS5 : Calling := addC callS4 31 c31
theorem c31_eq (a : Nat → BitVec 8) (b : Nat → BitVec 8) (h : Heap) : c31 [arr 16 a, arr 16 b] h = some (arr 16 (dotB a b), h) :=
  conC_eq (enc := fun x : (Nat → BitVec 8) × (Nat → BitVec 8) => [arr 16 x.1, arr 16 x.2]) (P := fun (x : (Nat → BitVec 8) × (Nat → BitVec 8)) h => True) (a := (a, b)) (f := fun (x : (Nat → BitVec 8) × (Nat → BitVec 8)) h => (arr 16 (dotB x.1 x.2), h)) (fun x y h e => by
    have e1 := arr_inj.1 (List.cons.inj e).1
    have e2 := arr_inj.1 (List.cons.inj (List.cons.inj e).2).1
    simp only [dotB]
    rw [val16_congr e1, val16_congr e2]
    ) trivial
theorem callS5_ok : CallOK Try.prog callS5 := addC_con callS4_ok k31 fun x h hx => by
  obtain ⟨t, ht⟩ := walk31 h x.1 x.2
  exact (s31 callS4_ok ht).drop0 t rfl
@[simp] theorem callS5_ne {f : Nat} (args : List AV) (h : Heap) (hf : f ≠ 31) : callS5 f args h = callS4 f args h := addC_ne _ _ _ args h hf
@[simp] theorem callS5_sne {f : Nat} (args : List AV) (h : Heap) (hf : f ≠ 31) : still callS5 f args h = still callS4 f args h := still_ne _ _ _ args h hf
@[simp] theorem callS5_31 (a : Nat → BitVec 8) (b : Nat → BitVec 8) (h : Heap) : callS5 31 [arr 16 a, arr 16 b] h = some (arr 16 (dotB a b), h) := by
  unfold callS5; rw [addC_same]; exact c31_eq a b h
@[simp] theorem callS5_31s (a : Nat → BitVec 8) (b : Nat → BitVec 8) (h : Heap) : still callS5 31 [arr 16 a, arr 16 b] h = some (arr 16 (dotB a b), h) := still_of fun t => by simp

theorem walk37 (call : Calling) (h : Heap) (a b : Nat → BitVec 8) : ∃ t, evBody (cx37 call) Try.f37 n37_0 [arr 16 a, arr 16 b] h = some (arr 16 (fun i => a i ^^^ b i), h ++ t) := by
  rw [b37]
  have main : Evs (evC (cx37 call) n37_0 ⟨[(0, arr 16 a), (1, arr 16 b), (2, .junk), (3, .junk), (4, .junk), (5, .junk), (6, .junk), (7, .junk)], h⟩) (fun r => ∃ env t, r = (.ret, ⟨env, h ++ t⟩) ∧ mLoad (.arr 16 (.int .u8)) (env.get 4) (h ++ t) = some (arr 16 (fun i => a i ^^^ b i))) := by
    obtain ⟨env, he⟩ : ∃ env : Env, env = [(0, arr 16 a), (1, arr 16 b), (2, .junk), (3, .junk), (4, .junk), (5, .junk), (6, .junk), (7, .junk)] := ⟨_, rfl⟩
    rw [← he]
    have g0 : env.get 0 = arr 16 a := by rw [he]; rfl
    have g1 : env.get 1 = arr 16 b := by rw [he]; rfl
    clear he
    repeat (first
      | (with_reducible refine Evs.assoc ?_)
      | ((with_reducible refine Evs.some_bnd ?_); try dsimp only [sqK_nrm, sqK_exit, sqK_ret])
      | ((with_reducible apply Evs.bcndT); (focus (simp (disch := omega) [g0, g1] <;> omega)))
      | ((with_reducible apply Evs.bcndF); (focus (simp (disch := omega) [g0, g1] <;> omega)))
      | ((with_reducible apply Evs.step); (focus ((conv => lhs; simp (disch := omega) [g0, g1]); done)); try dsimp only)
      | (simp only [n37_8_eq, n37_9_eq, n37_7_eq, n37_13_eq, n37_12_eq, n37_11_eq, n37_14_eq, n37_10_eq, n37_6_eq, n37_5_eq, n37_4_eq, n37_3_eq, n37_2_eq, n37_16_eq, n37_15_eq, n37_1_eq, n37_0_eq, sqK_nrm, sqK_exit, sqK_ret, inBlk_nrm, inBlk_ret, inBlk_same]))
    refine Evs.bnd (Q := fun r => ∃ env', r = (.exit 0, ⟨env', h ++ [⟨arr 16 (fun i => a i ^^^ b i), 0, .own⟩, ⟨arr 16 b, 0, .own⟩, ⟨arr 16 (fun _ => 0#8), 0, .own⟩]⟩) ∧ env'.get 2 = .ptr h.length 0 [] (.arr 16 (.int .u8)) ∧ env'.get 4 = .ptr (h.length + 2) 0 [] (.arr 16 (.int .u8))) ?_ ?_
    · refine Evs.up 16 (fun i s => ∃ env' g, s = ⟨env', h ++ [⟨arr 16 g, 0, .own⟩, ⟨arr 16 b, 0, .own⟩, ⟨arr 16 (fun _ => 0#8), 0, .own⟩]⟩ ∧ env'.get 2 = .ptr h.length 0 [] (.arr 16 (.int .u8)) ∧ env'.get 3 = .ptr (h.length + 1) 0 [] (.arr 16 (.int .u8)) ∧ env'.get 4 = .ptr (h.length + 2) 0 [] (.arr 16 (.int .u8)) ∧ env'.get 6 = nat i ∧
        ∀ k, g k = if k < i then a k ^^^ b k else a k) ?_ ?_
        ⟨_, _, rfl, by simp, by simp, by simp, by simp, fun k => by simp⟩
      · rintro i s hi ⟨env', g, rfl, e2, e3, e4, e6, hg⟩
        repeat (first
          | (with_reducible refine Evs.assoc ?_)
          | ((with_reducible refine Evs.some_bnd ?_); try dsimp only [sqK_nrm, sqK_exit, sqK_ret])
          | ((with_reducible apply Evs.bcndT); (focus (simp (disch := omega) [e2, e3, e4, e6] <;> omega)))
          | ((with_reducible apply Evs.bcndF); (focus (simp (disch := omega) [e2, e3, e4, e6] <;> omega)))
          | ((with_reducible apply Evs.step); (focus ((conv => lhs; simp (disch := omega) [e2, e3, e4, e6]); done)); try dsimp only)
          | (simp only [n37_8_eq, n37_9_eq, n37_7_eq, n37_13_eq, n37_12_eq, n37_11_eq, n37_14_eq, n37_10_eq, n37_6_eq, n37_5_eq, n37_4_eq, n37_3_eq, n37_2_eq, n37_16_eq, n37_15_eq, n37_1_eq, n37_0_eq, sqK_nrm, sqK_exit, sqK_ret, inBlk_nrm, inBlk_ret, inBlk_same]))
        refine Evs.ret ⟨rfl, _, _, rfl, by simp [e2], by simp [e3], by simp [e4], by simp, fun k => ?_⟩
        by_cases hk : k = i
        · subst hk; rw [upd_same, hg k, if_neg (by omega), if_pos (by omega)]
        · rw [upd_ne _ _ hk, hg k]
          by_cases hlt : k < i
          · rw [if_pos hlt, if_pos (by omega)]
          · rw [if_neg hlt, if_neg (by omega)]
      · rintro s ⟨env', g, rfl, e2, e3, e4, e6, hg⟩
        repeat (first
          | (with_reducible refine Evs.assoc ?_)
          | ((with_reducible refine Evs.some_bnd ?_); try dsimp only [sqK_nrm, sqK_exit, sqK_ret])
          | ((with_reducible apply Evs.bcndT); (focus (simp (disch := omega) [e6] <;> omega)))
          | ((with_reducible apply Evs.bcndF); (focus (simp (disch := omega) [e6] <;> omega)))
          | ((with_reducible apply Evs.step); (focus ((conv => lhs; simp (disch := omega) [e6]); done)); try dsimp only)
          | (simp only [n37_8_eq, n37_9_eq, n37_7_eq, n37_13_eq, n37_12_eq, n37_11_eq, n37_14_eq, n37_10_eq, n37_6_eq, n37_5_eq, n37_4_eq, n37_3_eq, n37_2_eq, n37_16_eq, n37_15_eq, n37_1_eq, n37_0_eq, sqK_nrm, sqK_exit, sqK_ret, inBlk_nrm, inBlk_ret, inBlk_same]))
        have : arr 16 g = arr 16 (fun i => a i ^^^ b i) := arr_congr fun k hk => by rw [hg k, if_pos hk]
        rw [this]
        exact Evs.ret ⟨by simp, _, rfl, by simp [e2], by simp [e4]⟩
    · rintro r ⟨env', rfl, e2, e4⟩
      repeat (first
        | (with_reducible refine Evs.assoc ?_)
        | ((with_reducible refine Evs.some_bnd ?_); try dsimp only [sqK_nrm, sqK_exit, sqK_ret])
        | ((with_reducible apply Evs.bcndT); (focus (simp (disch := omega) [e2, e4] <;> omega)))
        | ((with_reducible apply Evs.bcndF); (focus (simp (disch := omega) [e2, e4] <;> omega)))
        | ((with_reducible apply Evs.step); (focus ((conv => lhs; simp (disch := omega) [e2, e4]); done)); try dsimp only)
        | (simp only [n37_8_eq, n37_9_eq, n37_7_eq, n37_13_eq, n37_12_eq, n37_11_eq, n37_14_eq, n37_10_eq, n37_6_eq, n37_5_eq, n37_4_eq, n37_3_eq, n37_2_eq, n37_16_eq, n37_15_eq, n37_1_eq, n37_0_eq, sqK_nrm, sqK_exit, sqK_ret, inBlk_nrm, inBlk_ret, inBlk_same]))
      refine Evs.ret ⟨_, _, rfl, ?_⟩
      simp [e4]
  obtain ⟨r, hr, env, t, rfl, e0⟩ := main
  refine ⟨t, ?_⟩
  rw [hr]
  simp [e0, oneOrTuple]

noncomputable def c37 := conC (fun x : (Nat → BitVec 8) × (Nat → BitVec 8) => [arr 16 x.1, arr 16 x.2]) (fun (x : (Nat → BitVec 8) × (Nat → BitVec 8)) h => True) (fun (x : (Nat → BitVec 8) × (Nat → BitVec 8)) h => (arr 16 (fun i => x.1 i ^^^ x.2 i), h))
noncomputable def callS6 : Calling := addC callS5 37 c37
theorem c37_eq (a : Nat → BitVec 8) (b : Nat → BitVec 8) (h : Heap) : c37 [arr 16 a, arr 16 b] h = some (arr 16 (fun i => a i ^^^ b i), h) :=
  conC_eq (enc := fun x : (Nat → BitVec 8) × (Nat → BitVec 8) => [arr 16 x.1, arr 16 x.2]) (P := fun (x : (Nat → BitVec 8) × (Nat → BitVec 8)) h => True) (a := (a, b)) (f := fun (x : (Nat → BitVec 8) × (Nat → BitVec 8)) h => (arr 16 (fun i => x.1 i ^^^ x.2 i), h)) (fun x y h e => by
    have e1 := arr_inj.1 (List.cons.inj e).1
    have e2 := arr_inj.1 (List.cons.inj (List.cons.inj e).2).1
    simp only [Prod.mk.injEq, and_true]
    exact arr_congr fun i hi => by rw [e1 i hi, e2 i hi]
    ) trivial
theorem callS6_ok : CallOK Try.prog callS6 := addC_con callS5_ok k37 fun x h hx => by
  obtain ⟨t, ht⟩ := walk37 callS5 h x.1 x.2
  exact (s37 callS5_ok ht).drop0 t rfl
@[simp] theorem callS6_ne {f : Nat} (args : List AV) (h : Heap) (hf : f ≠ 37) : callS6 f args h = callS5 f args h := addC_ne _ _ _ args h hf
@[simp] theorem callS6_sne {f : Nat} (args : List AV) (h : Heap) (hf : f ≠ 37) : still callS6 f args h = still callS5 f args h := still_ne _ _ _ args h hf
@[simp] theorem callS6_37 (a : Nat → BitVec 8) (b : Nat → BitVec 8) (h : Heap) : callS6 37 [arr 16 a, arr 16 b] h = some (arr 16 (fun i => a i ^^^ b i), h) := by
  unfold callS6; rw [addC_same]; exact c37_eq a b h
@[simp] theorem callS6_37s (a : Nat → BitVec 8) (b : Nat → BitVec 8) (h : Heap) : still callS6 37 [arr 16 a, arr 16 b] h = some (arr 16 (fun i => a i ^^^ b i), h) := still_of fun t => by simp

end Go.Vab

/- How the evaluator reads the functions of a seat. Printed by wip/tools/gen.py (own work). -/
namespace Go.Vab
open Go Go.Proofs
/-! vestry/vestryref09.PolyOf -/
noncomputable def cx53 (call : Calling) : Ctx := ⟨call, TT, 21, [5, 7, 8, 9, 10, 11, 12, 13, 14, 15, 16, 17, 18, 19, 20]⟩
noncomputable def n53_0 : Code := bodyOf Try.f53
noncomputable def n53_1 : Code := cR n53_0
noncomputable def n53_2 : Code := cR n53_1
noncomputable def n53_3 : Code := cL n53_2
noncomputable def n53_4 : Code := cR n53_3
noncomputable def n53_5 : Code := cB n53_4
noncomputable def n53_6 : Code := cB n53_5
noncomputable def n53_7 : Code := cL n53_6
noncomputable def n53_8 : Code := cR n53_7
noncomputable def n53_9 : Code := cL n53_8
noncomputable def n53_10 : Code := cR n53_8
noncomputable def n53_11 : Code := cR n53_6
noncomputable def n53_12 : Code := cL n53_11
noncomputable def n53_13 : Code := cB n53_12
noncomputable def n53_14 : Code := cR n53_11
noncomputable def n53_15 : Code := cR n53_2
noncomputable def n53_16 : Code := cR n53_15
@[simp] theorem n53_9_eq (call : Calling) (s : St) : evC (cx53 call) n53_9 s = some (.nrm, s) := xK
@[simp] theorem n53_10_eq (call : Calling) (s : St) : evC (cx53 call) n53_10 s = some (.exit 0, s) := xX 0
@[simp] theorem n53_8_eq (call : Calling) (s : St) : evC (cx53 call) n53_8 s = cnd (s.env.get 6) (evC (cx53 call) n53_9 s) (evC (cx53 call) n53_10 s) := xC 6 _ _
@[simp] theorem n53_7_eq (call : Calling) (env : Env) (h : Heap) : evC (cx53 call) n53_7 ⟨env, h⟩ = (bnd (pureV h (mBin .lss (env.get 4) (nat 128))) fun r1 => evC (cx53 call) n53_8 ⟨(Env.put env 6 r1.1), r1.2⟩) := (xSR 3 (cOps (cL n53_7)) (cR n53_7)).trans (by
  refine opsK_0 ?_
  refine oT 5 (env.get 4) ?_
  refine oP 6 fun r1 => ?_
  exact oE)
@[simp] theorem n53_13_eq (call : Calling) (env : Env) (h : Heap) : evC (cx53 call) n53_13 ⟨env, h⟩ = (bnd (pureV h (mBin .quo (env.get 4) (nat 8))) fun r2 => bnd (pureV r2.2 (mIdxA (.arr 16 (.int .u8)) (env.get 1) r2.1)) fun r3 => bnd (pureV r3.2 (mLoad (.int .u8) r3.1 r3.2)) fun r4 => bnd (pureV r4.2 (mBin .rem (env.get 4) (nat 8))) fun r6 => bnd (pureV r6.2 (mBin .shr r4.1 r6.1)) fun r7 => bnd (pureV r7.2 (mConv .i64 r7.1)) fun r8 => bnd (pureV r8.2 (mBin .rem r8.1 (nat 2))) fun r9 => bnd (pureV r9.2 (mIdxA (.arr 128 (.int .i64)) (env.get 3) (env.get 4))) fun r10 => bnd (stU (.int .i64) r10.1 r9.1 r10.2) fun r11 => some (.nrm, ⟨env, r11.2⟩)) := (xR 5 (cOps n53_13)).trans (by
  refine opsK_0 ?_
  refine oT 9 (env.get 4) ?_
  refine oT 10 (env.get 4) ?_
  refine oP 11 fun r2 => ?_
  refine oP 12 fun r3 => ?_
  refine oP 13 fun r4 => ?_
  refine oT 14 (env.get 4) ?_
  refine oP 15 fun r6 => ?_
  refine oP 16 fun r7 => ?_
  refine oP 17 fun r8 => ?_
  refine oP 18 fun r9 => ?_
  refine oP 19 fun r10 => ?_
  refine oN fun r11 => ?_
  exact oE)
@[simp] theorem n53_12_eq (call : Calling) (s : St) : evC (cx53 call) n53_12 s = bnd (evC (cx53 call) n53_13 s) fun r => some (inBlk 1 r) := xB 1 _
@[simp] theorem n53_14_eq (call : Calling) (env : Env) (h : Heap) : evC (cx53 call) n53_14 ⟨env, h⟩ = (bnd (pureV h (mBin .add (env.get 4) (nat 1))) fun r1 => some (.nrm, ⟨(Env.put env 4 r1.1), r1.2⟩)) := (xR 4 (cOps n53_14)).trans (by
  refine opsK_0 ?_
  refine oT 7 (env.get 4) ?_
  refine oP 8 fun r1 => ?_
  refine oT 4 r1.1 ?_
  exact oE)
@[simp] theorem n53_11_eq (call : Calling) (s : St) : evC (cx53 call) n53_11 s = bnd (evC (cx53 call) n53_12 s) (sqK (evC (cx53 call) n53_14)) := xS _ _
@[simp] theorem n53_6_eq (call : Calling) (s : St) : evC (cx53 call) n53_6 s = bnd (evC (cx53 call) n53_7 s) (sqK (evC (cx53 call) n53_11)) := xS _ _
@[simp] theorem n53_5_eq (call : Calling) (s : St) : evC (cx53 call) n53_5 s = evLoop (evC (cx53 call) n53_6) s := xL _
@[simp] theorem n53_4_eq (call : Calling) (s : St) : evC (cx53 call) n53_4 s = bnd (evC (cx53 call) n53_5 s) fun r => some (inBlk 0 r) := xB 0 _
@[simp] theorem n53_3_eq (call : Calling) (env : Env) (h : Heap) : evC (cx53 call) n53_3 ⟨env, h⟩ = ( evC (cx53 call) n53_4 ⟨(Env.put env 4 (nat 0)), h⟩) := (xSR 2 (cOps (cL n53_3)) (cR n53_3)).trans (by
  refine opsK_0 ?_
  refine oT 4 (nat 0) ?_
  exact oE)
@[simp] theorem n53_16_eq (call : Calling) (s : St) : evC (cx53 call) n53_16 s = some (.ret, s) := xE
@[simp] theorem n53_15_eq (call : Calling) (env : Env) (h : Heap) : evC (cx53 call) n53_15 ⟨env, h⟩ = (bnd (pureV h (mLoad (.arr 128 (.int .i64)) (env.get 3) h)) fun r0 => bnd (stU (.arr 128 (.int .i64)) (env.get 2) r0.1 r0.2) fun r1 => evC (cx53 call) n53_16 ⟨env, r1.2⟩) := (xSR 6 (cOps (cL n53_15)) (cR n53_15)).trans (by
  refine opsK_0 ?_
  refine oP 20 fun r0 => ?_
  refine oN fun r1 => ?_
  exact oE)
@[simp] theorem n53_2_eq (call : Calling) (s : St) : evC (cx53 call) n53_2 s = bnd (evC (cx53 call) n53_3 s) (sqK (evC (cx53 call) n53_15)) := xS _ _
@[simp] theorem n53_1_eq (call : Calling) (env : Env) (h : Heap) : evC (cx53 call) n53_1 ⟨env, h⟩ = (bnd (mNew (.arr 128 (.int .i64)) (.ints .i64 (List.replicate 128 0)) h) fun r0 => evC (cx53 call) n53_2 ⟨(Env.put env 3 r0.1), r0.2⟩) := (xSR 1 (cOps (cL n53_1)) (cR n53_1)).trans (by
  refine opsK_0 ?_
  refine oP 3 fun r0 => ?_
  exact oE)
@[simp] theorem n53_0_eq (call : Calling) (env : Env) (h : Heap) : evC (cx53 call) n53_0 ⟨env, h⟩ = (bnd (mNew (.arr 16 (.int .u8)) (env.get 0) h) fun r0 => bnd (mNew (.arr 128 (.int .i64)) (.ints .i64 (List.replicate 128 0)) r0.2) fun r1 => evC (cx53 call) n53_1 ⟨(Env.put (Env.put env 1 r0.1) 2 r1.1), r1.2⟩) := (xSR 0 (cOps (cL n53_0)) (cR n53_0)).trans (by
  refine opsK_0 ?_
  refine oP 1 fun r0 => ?_
  refine oP 2 fun r1 => ?_
  exact oE)
theorem b53 (call : Calling) (a0 : AV) (h : Heap) : evBody (cx53 call) Try.f53 n53_0 [a0] h = bnd (evC (cx53 call) n53_0 ⟨[(0, a0), (1, .junk), (2, .junk), (3, .junk), (4, .junk), (6, .junk)], h⟩) (retK fun s => bnd (bnd (mLoad (.arr 128 (.int .i64)) (s.env.get 2) s.heap) fun v => bnd (some []) fun vs => some (v :: vs)) fun vs => some (oneOrTuple vs)) := by kernel_rfl
theorem fn53 : Try.prog.funcs[53]? = some Try.f53 := by kernel_rfl
theorem k53 : Callable Try.prog 53 := ⟨Try.f53, fn53, by kernel_rfl, by kernel_rfl⟩
theorem s53 {call : Calling} (hc : CallOK Try.prog call) {args : List AV} {h h' : Heap} {v : AV} (he : evBody (cx53 call) Try.f53 n53_0 args h = some (v, h')) : Spec Try.prog 53 args h v h' := body_sound (C := cx53 call) TT_ok hc mixed_ok fn53 (by kernel_rfl) (by kernel_rfl) he
end Go.Vab

/- How the evaluator reads the functions of a seat. Printed by wip/tools/gen.py (own work). -/
namespace Go.Vab
open Go Go.Proofs
/-! (vestry/vestryref09.Poly).times -/
noncomputable def cx54 (call : Calling) : Ctx := ⟨call, TT, 88, [11, 13, 14, 15, 16, 17, 19, 21, 22, 23, 24, 25, 26, 27, 28, 29, 30, 31, 32, 33, 34, 35, 36, 38, 39, 40, 41, 42, 44, 45, 46, 47, 48, 49, 50, 51, 52, 53, 54, 55, 56, 57, 58, 59, 60, 61, 62, 63, 64, 65, 66, 67, 68, 69, 70, 71, 72, 73, 74, 75, 76, 77, 78, 80, 81, 82, 83, 84, 85, 86, 87]⟩
noncomputable def n54_0 : Code := bodyOf Try.f54
noncomputable def n54_1 : Code := cR n54_0
noncomputable def n54_2 : Code := cR n54_1
noncomputable def n54_3 : Code := cL n54_2
noncomputable def n54_4 : Code := cR n54_3
noncomputable def n54_5 : Code := cB n54_4
noncomputable def n54_6 : Code := cB n54_5
noncomputable def n54_7 : Code := cL n54_6
noncomputable def n54_8 : Code := cR n54_7
noncomputable def n54_9 : Code := cL n54_8
noncomputable def n54_10 : Code := cR n54_8
noncomputable def n54_11 : Code := cR n54_6
noncomputable def n54_12 : Code := cL n54_11
noncomputable def n54_13 : Code := cB n54_12
noncomputable def n54_14 : Code := cL n54_13
noncomputable def n54_15 : Code := cR n54_14
noncomputable def n54_16 : Code := cL n54_15
noncomputable def n54_17 : Code := cR n54_15
noncomputable def n54_18 : Code := cR n54_13
noncomputable def n54_19 : Code := cR n54_18
noncomputable def n54_20 : Code := cB n54_19
noncomputable def n54_21 : Code := cB n54_20
noncomputable def n54_22 : Code := cL n54_21
noncomputable def n54_23 : Code := cR n54_22
noncomputable def n54_24 : Code := cL n54_23
noncomputable def n54_25 : Code := cR n54_23
noncomputable def n54_26 : Code := cR n54_21
noncomputable def n54_27 : Code := cL n54_26
noncomputable def n54_28 : Code := cB n54_27
noncomputable def n54_29 : Code := cR n54_26
noncomputable def n54_30 : Code := cR n54_11
noncomputable def n54_31 : Code := cR n54_2
noncomputable def n54_32 : Code := cL n54_31
noncomputable def n54_33 : Code := cR n54_32
noncomputable def n54_34 : Code := cB n54_33
noncomputable def n54_35 : Code := cB n54_34
noncomputable def n54_36 : Code := cL n54_35
noncomputable def n54_37 : Code := cR n54_36
noncomputable def n54_38 : Code := cL n54_37
noncomputable def n54_39 : Code := cR n54_37
noncomputable def n54_40 : Code := cR n54_35
noncomputable def n54_41 : Code := cL n54_40
noncomputable def n54_42 : Code := cB n54_41
noncomputable def n54_43 : Code := cR n54_42
noncomputable def n54_44 : Code := cL n54_43
noncomputable def n54_45 : Code := cR n54_44
noncomputable def n54_46 : Code := cR n54_45
noncomputable def n54_47 : Code := cR n54_46
noncomputable def n54_48 : Code := cR n54_47
noncomputable def n54_49 : Code := cR n54_43
noncomputable def n54_50 : Code := cR n54_40
noncomputable def n54_51 : Code := cR n54_31
noncomputable def n54_52 : Code := cR n54_51
noncomputable def n54_53 : Code := cL n54_52
noncomputable def n54_54 : Code := cR n54_53
noncomputable def n54_55 : Code := cB n54_54
noncomputable def n54_56 : Code := cB n54_55
noncomputable def n54_57 : Code := cL n54_56
noncomputable def n54_58 : Code := cR n54_57
noncomputable def n54_59 : Code := cL n54_58
noncomputable def n54_60 : Code := cR n54_58
noncomputable def n54_61 : Code := cR n54_56
noncomputable def n54_62 : Code := cL n54_61
noncomputable def n54_63 : Code := cB n54_62
noncomputable def n54_64 : Code := cR n54_61
noncomputable def n54_65 : Code := cR n54_52
noncomputable def n54_66 : Code := cR n54_65
@[simp] theorem n54_9_eq (call : Calling) (s : St) : evC (cx54 call) n54_9 s = some (.nrm, s) := xK
@[simp] theorem n54_10_eq (call : Calling) (s : St) : evC (cx54 call) n54_10 s = some (.exit 0, s) := xX 0
@[simp] theorem n54_8_eq (call : Calling) (s : St) : evC (cx54 call) n54_8 s = cnd (s.env.get 12) (evC (cx54 call) n54_9 s) (evC (cx54 call) n54_10 s) := xC 12 _ _
@[simp] theorem n54_7_eq (call : Calling) (env : Env) (h : Heap) : evC (cx54 call) n54_7 ⟨env, h⟩ = (bnd (pureV h (mBin .lss (env.get 6) (nat 128))) fun r1 => evC (cx54 call) n54_8 ⟨(Env.put env 12 r1.1), r1.2⟩) := (xSR 3 (cOps (cL n54_7)) (cR n54_7)).trans (by
  refine opsK_0 ?_
  refine oT 11 (env.get 6) ?_
  refine oP 12 fun r1 => ?_
  exact oE)
@[simp] theorem n54_16_eq (call : Calling) (s : St) : evC (cx54 call) n54_16 s = some (.exit 1, s) := xX 1
@[simp] theorem n54_17_eq (call : Calling) (s : St) : evC (cx54 call) n54_17 s = some (.nrm, s) := xK
@[simp] theorem n54_15_eq (call : Calling) (s : St) : evC (cx54 call) n54_15 s = cnd (s.env.get 18) (evC (cx54 call) n54_16 s) (evC (cx54 call) n54_17 s) := xC 18 _ _
@[simp] theorem n54_14_eq (call : Calling) (env : Env) (h : Heap) : evC (cx54 call) n54_14 ⟨env, h⟩ = (bnd (pureV h (mIdxA (.arr 128 (.int .i64)) (env.get 2) (env.get 6))) fun r1 => bnd (pureV r1.2 (mLoad (.int .i64) r1.1 r1.2)) fun r2 => bnd (pureV r2.2 (mBin .eql r2.1 (nat 0))) fun r3 => evC (cx54 call) n54_15 ⟨(Env.put env 18 r3.1), r3.2⟩) := (xSR 5 (cOps (cL n54_14)) (cR n54_14)).trans (by
  refine opsK_0 ?_
  refine oT 15 (env.get 6) ?_
  refine oP 16 fun r1 => ?_
  refine oP 17 fun r2 => ?_
  refine oP 18 fun r3 => ?_
  exact oE)
@[simp] theorem n54_24_eq (call : Calling) (s : St) : evC (cx54 call) n54_24 s = some (.nrm, s) := xK
@[simp] theorem n54_25_eq (call : Calling) (s : St) : evC (cx54 call) n54_25 s = some (.exit 2, s) := xX 2
@[simp] theorem n54_23_eq (call : Calling) (s : St) : evC (cx54 call) n54_23 s = cnd (s.env.get 20) (evC (cx54 call) n54_24 s) (evC (cx54 call) n54_25 s) := xC 20 _ _
@[simp] theorem n54_22_eq (call : Calling) (env : Env) (h : Heap) : evC (cx54 call) n54_22 ⟨env, h⟩ = (bnd (pureV h (mBin .lss (env.get 7) (nat 128))) fun r1 => evC (cx54 call) n54_23 ⟨(Env.put env 20 r1.1), r1.2⟩) := (xSR 7 (cOps (cL n54_22)) (cR n54_22)).trans (by
  refine opsK_0 ?_
  refine oT 19 (env.get 7) ?_
  refine oP 20 fun r1 => ?_
  exact oE)
theorem n54_28_ok : drawOk (cOps n54_28).toList = true := by kernel_rfl
@[simp] theorem n54_28_eq (call : Calling) (env : Env) (h : Heap) : evC (cx54 call) n54_28 ⟨env, h⟩ = (bnd (pureV h (mBin .add (env.get 6) (env.get 7))) fun r2 => bnd (pureV r2.2 (mBin .add (env.get 6) (env.get 7))) fun r5 => bnd (pureV r5.2 (mIdxA (.arr 255 (.int .i64)) (env.get 5) r5.1)) fun r6 => bnd (pureV r6.2 (mLoad (.int .i64) r6.1 r6.2)) fun r7 => bnd (pureV r7.2 (mIdxA (.arr 128 (.int .i64)) (env.get 3) (env.get 7))) fun r9 => bnd (pureV r9.2 (mLoad (.int .i64) r9.1 r9.2)) fun r10 => bnd (pureV r10.2 (mBin .xor r7.1 r10.1)) fun r11 => bnd (pureV r11.2 (mIdxA (.arr 255 (.int .i64)) (env.get 5) r2.1)) fun r12 => bnd (stU (.int .i64) r12.1 r11.1 r12.2) fun r13 => some (.nrm, ⟨env, r13.2⟩)) := (xD 9 (cOps n54_28) n54_28_ok).trans (by
  refine opsK_0 ?_
  refine oT 23 (env.get 6) ?_
  refine oT 24 (env.get 7) ?_
  refine oP 25 fun r2 => ?_
  refine oT 26 (env.get 6) ?_
  refine oT 27 (env.get 7) ?_
  refine oP 28 fun r5 => ?_
  refine oP 29 fun r6 => ?_
  refine oP 30 fun r7 => ?_
  refine oT 31 (env.get 7) ?_
  refine oP 32 fun r9 => ?_
  refine oP 33 fun r10 => ?_
  refine oP 34 fun r11 => ?_
  refine oP 35 fun r12 => ?_
  refine oN fun r13 => ?_
  exact oE)
@[simp] theorem n54_27_eq (call : Calling) (s : St) : evC (cx54 call) n54_27 s = bnd (evC (cx54 call) n54_28 s) fun r => some (inBlk 3 r) := xB 3 _
@[simp] theorem n54_29_eq (call : Calling) (env : Env) (h : Heap) : evC (cx54 call) n54_29 ⟨env, h⟩ = (bnd (pureV h (mBin .add (env.get 7) (nat 1))) fun r1 => some (.nrm, ⟨(Env.put env 7 r1.1), r1.2⟩)) := (xR 8 (cOps n54_29)).trans (by
  refine opsK_0 ?_
  refine oT 21 (env.get 7) ?_
  refine oP 22 fun r1 => ?_
  refine oT 7 r1.1 ?_
  exact oE)
@[simp] theorem n54_26_eq (call : Calling) (s : St) : evC (cx54 call) n54_26 s = bnd (evC (cx54 call) n54_27 s) (sqK (evC (cx54 call) n54_29)) := xS _ _
@[simp] theorem n54_21_eq (call : Calling) (s : St) : evC (cx54 call) n54_21 s = bnd (evC (cx54 call) n54_22 s) (sqK (evC (cx54 call) n54_26)) := xS _ _
@[simp] theorem n54_20_eq (call : Calling) (s : St) : evC (cx54 call) n54_20 s = evLoop (evC (cx54 call) n54_21) s := xL _
@[simp] theorem n54_19_eq (call : Calling) (s : St) : evC (cx54 call) n54_19 s = bnd (evC (cx54 call) n54_20 s) fun r => some (inBlk 2 r) := xB 2 _
@[simp] theorem n54_18_eq (call : Calling) (env : Env) (h : Heap) : evC (cx54 call) n54_18 ⟨env, h⟩ = ( evC (cx54 call) n54_19 ⟨(Env.put env 7 (nat 0)), h⟩) := (xSR 6 (cOps (cL n54_18)) (cR n54_18)).trans (by
  refine opsK_0 ?_
  refine oT 7 (nat 0) ?_
  exact oE)
@[simp] theorem n54_13_eq (call : Calling) (s : St) : evC (cx54 call) n54_13 s = bnd (evC (cx54 call) n54_14 s) (sqK (evC (cx54 call) n54_18)) := xS _ _
@[simp] theorem n54_12_eq (call : Calling) (s : St) : evC (cx54 call) n54_12 s = bnd (evC (cx54 call) n54_13 s) fun r => some (inBlk 1 r) := xB 1 _
@[simp] theorem n54_30_eq (call : Calling) (env : Env) (h : Heap) : evC (cx54 call) n54_30 ⟨env, h⟩ = (bnd (pureV h (mBin .add (env.get 6) (nat 1))) fun r1 => some (.nrm, ⟨(Env.put env 6 r1.1), r1.2⟩)) := (xR 4 (cOps n54_30)).trans (by
  refine opsK_0 ?_
  refine oT 13 (env.get 6) ?_
  refine oP 14 fun r1 => ?_
  refine oT 6 r1.1 ?_
  exact oE)
@[simp] theorem n54_11_eq (call : Calling) (s : St) : evC (cx54 call) n54_11 s = bnd (evC (cx54 call) n54_12 s) (sqK (evC (cx54 call) n54_30)) := xS _ _
@[simp] theorem n54_6_eq (call : Calling) (s : St) : evC (cx54 call) n54_6 s = bnd (evC (cx54 call) n54_7 s) (sqK (evC (cx54 call) n54_11)) := xS _ _
@[simp] theorem n54_5_eq (call : Calling) (s : St) : evC (cx54 call) n54_5 s = evLoop (evC (cx54 call) n54_6) s := xL _
@[simp] theorem n54_4_eq (call : Calling) (s : St) : evC (cx54 call) n54_4 s = bnd (evC (cx54 call) n54_5 s) fun r => some (inBlk 0 r) := xB 0 _
@[simp] theorem n54_3_eq (call : Calling) (env : Env) (h : Heap) : evC (cx54 call) n54_3 ⟨env, h⟩ = ( evC (cx54 call) n54_4 ⟨(Env.put env 6 (nat 0)), h⟩) := (xSR 2 (cOps (cL n54_3)) (cR n54_3)).trans (by
  refine opsK_0 ?_
  refine oT 6 (nat 0) ?_
  exact oE)
@[simp] theorem n54_38_eq (call : Calling) (s : St) : evC (cx54 call) n54_38 s = some (.nrm, s) := xK
@[simp] theorem n54_39_eq (call : Calling) (s : St) : evC (cx54 call) n54_39 s = some (.exit 4, s) := xX 4
@[simp] theorem n54_37_eq (call : Calling) (s : St) : evC (cx54 call) n54_37 s = cnd (s.env.get 37) (evC (cx54 call) n54_38 s) (evC (cx54 call) n54_39 s) := xC 37 _ _
@[simp] theorem n54_36_eq (call : Calling) (env : Env) (h : Heap) : evC (cx54 call) n54_36 ⟨env, h⟩ = (bnd (pureV h (mBin .geq (env.get 8) (nat 128))) fun r1 => evC (cx54 call) n54_37 ⟨(Env.put env 37 r1.1), r1.2⟩) := (xSR 11 (cOps (cL n54_36)) (cR n54_36)).trans (by
  refine opsK_0 ?_
  refine oT 36 (env.get 8) ?_
  refine oP 37 fun r1 => ?_
  exact oE)
@[simp] theorem n54_48_eq (call : Calling) (env : Env) (h : Heap) : evC (cx54 call) n54_48 ⟨env, h⟩ = (bnd (pureV h (mBin .sub (env.get 8) (nat 128))) fun r1 => bnd (pureV r1.2 (mBin .sub (env.get 8) (nat 128))) fun r3 => bnd (pureV r3.2 (mIdxA (.arr 255 (.int .i64)) (env.get 5) r3.1)) fun r4 => bnd (pureV r4.2 (mLoad (.int .i64) r4.1 r4.2)) fun r5 => bnd (pureV r5.2 (mBin .xor r5.1 (nat 1))) fun r6 => bnd (pureV r6.2 (mIdxA (.arr 255 (.int .i64)) (env.get 5) r1.1)) fun r7 => bnd (stU (.int .i64) r7.1 r6.1 r7.2) fun r8 => some (.nrm, ⟨env, r8.2⟩)) := (xR 18 (cOps n54_48)).trans (by
  refine opsK_0 ?_
  refine oT 70 (env.get 8) ?_
  refine oP 71 fun r1 => ?_
  refine oT 72 (env.get 8) ?_
  refine oP 73 fun r3 => ?_
  refine oP 74 fun r4 => ?_
  refine oP 75 fun r5 => ?_
  refine oP 76 fun r6 => ?_
  refine oP 77 fun r7 => ?_
  refine oN fun r8 => ?_
  exact oE)
@[simp] theorem n54_47_eq (call : Calling) (env : Env) (h : Heap) : evC (cx54 call) n54_47 ⟨env, h⟩ = (bnd (pureV h (mBin .sub (env.get 8) (nat 7))) fun r1 => bnd (pureV r1.2 (mBin .sub (env.get 8) (nat 7))) fun r3 => bnd (pureV r3.2 (mIdxA (.arr 255 (.int .i64)) (env.get 5) r3.1)) fun r4 => bnd (pureV r4.2 (mLoad (.int .i64) r4.1 r4.2)) fun r5 => bnd (pureV r5.2 (mBin .xor r5.1 (nat 1))) fun r6 => bnd (pureV r6.2 (mIdxA (.arr 255 (.int .i64)) (env.get 5) r1.1)) fun r7 => bnd (stU (.int .i64) r7.1 r6.1 r7.2) fun r8 => evC (cx54 call) n54_48 ⟨env, r8.2⟩) := (xSR 17 (cOps (cL n54_47)) (cR n54_47)).trans (by
  refine opsK_0 ?_
  refine oT 62 (env.get 8) ?_
  refine oP 63 fun r1 => ?_
  refine oT 64 (env.get 8) ?_
  refine oP 65 fun r3 => ?_
  refine oP 66 fun r4 => ?_
  refine oP 67 fun r5 => ?_
  refine oP 68 fun r6 => ?_
  refine oP 69 fun r7 => ?_
  refine oN fun r8 => ?_
  exact oE)
@[simp] theorem n54_46_eq (call : Calling) (env : Env) (h : Heap) : evC (cx54 call) n54_46 ⟨env, h⟩ = (bnd (pureV h (mBin .sub (env.get 8) (nat 2))) fun r1 => bnd (pureV r1.2 (mBin .sub (env.get 8) (nat 2))) fun r3 => bnd (pureV r3.2 (mIdxA (.arr 255 (.int .i64)) (env.get 5) r3.1)) fun r4 => bnd (pureV r4.2 (mLoad (.int .i64) r4.1 r4.2)) fun r5 => bnd (pureV r5.2 (mBin .xor r5.1 (nat 1))) fun r6 => bnd (pureV r6.2 (mIdxA (.arr 255 (.int .i64)) (env.get 5) r1.1)) fun r7 => bnd (stU (.int .i64) r7.1 r6.1 r7.2) fun r8 => evC (cx54 call) n54_47 ⟨env, r8.2⟩) := (xSR 16 (cOps (cL n54_46)) (cR n54_46)).trans (by
  refine opsK_0 ?_
  refine oT 54 (env.get 8) ?_
  refine oP 55 fun r1 => ?_
  refine oT 56 (env.get 8) ?_
  refine oP 57 fun r3 => ?_
  refine oP 58 fun r4 => ?_
  refine oP 59 fun r5 => ?_
  refine oP 60 fun r6 => ?_
  refine oP 61 fun r7 => ?_
  refine oN fun r8 => ?_
  exact oE)
@[simp] theorem n54_45_eq (call : Calling) (env : Env) (h : Heap) : evC (cx54 call) n54_45 ⟨env, h⟩ = (bnd (pureV h (mBin .sub (env.get 8) (nat 1))) fun r1 => bnd (pureV r1.2 (mBin .sub (env.get 8) (nat 1))) fun r3 => bnd (pureV r3.2 (mIdxA (.arr 255 (.int .i64)) (env.get 5) r3.1)) fun r4 => bnd (pureV r4.2 (mLoad (.int .i64) r4.1 r4.2)) fun r5 => bnd (pureV r5.2 (mBin .xor r5.1 (nat 1))) fun r6 => bnd (pureV r6.2 (mIdxA (.arr 255 (.int .i64)) (env.get 5) r1.1)) fun r7 => bnd (stU (.int .i64) r7.1 r6.1 r7.2) fun r8 => evC (cx54 call) n54_46 ⟨env, r8.2⟩) := (xSR 15 (cOps (cL n54_45)) (cR n54_45)).trans (by
  refine opsK_0 ?_
  refine oT 46 (env.get 8) ?_
  refine oP 47 fun r1 => ?_
  refine oT 48 (env.get 8) ?_
  refine oP 49 fun r3 => ?_
  refine oP 50 fun r4 => ?_
  refine oP 51 fun r5 => ?_
  refine oP 52 fun r6 => ?_
  refine oP 53 fun r7 => ?_
  refine oN fun r8 => ?_
  exact oE)
@[simp] theorem n54_44_eq (call : Calling) (env : Env) (h : Heap) : evC (cx54 call) n54_44 ⟨env, h⟩ = (bnd (pureV h (mIdxA (.arr 255 (.int .i64)) (env.get 5) (env.get 8))) fun r1 => bnd (stU (.int .i64) r1.1 (nat 0) r1.2) fun r2 => evC (cx54 call) n54_45 ⟨env, r2.2⟩) := (xSR 14 (cOps (cL n54_44)) (cR n54_44)).trans (by
  refine opsK_0 ?_
  refine oT 44 (env.get 8) ?_
  refine oP 45 fun r1 => ?_
  refine oN fun r2 => ?_
  exact oE)
@[simp] theorem n54_49_eq (call : Calling) (s : St) : evC (cx54 call) n54_49 s = some (.nrm, s) := xK
@[simp] theorem n54_43_eq (call : Calling) (s : St) : evC (cx54 call) n54_43 s = cnd (s.env.get 43) (evC (cx54 call) n54_44 s) (evC (cx54 call) n54_49 s) := xC 43 _ _
@[simp] theorem n54_42_eq (call : Calling) (env : Env) (h : Heap) : evC (cx54 call) n54_42 ⟨env, h⟩ = (bnd (pureV h (mIdxA (.arr 255 (.int .i64)) (env.get 5) (env.get 8))) fun r1 => bnd (pureV r1.2 (mLoad (.int .i64) r1.1 r1.2)) fun r2 => bnd (pureV r2.2 (mBin .eql r2.1 (nat 1))) fun r3 => evC (cx54 call) n54_43 ⟨(Env.put env 43 r3.1), r3.2⟩) := (xSR 13 (cOps (cL n54_42)) (cR n54_42)).trans (by
  refine opsK_0 ?_
  refine oT 40 (env.get 8) ?_
  refine oP 41 fun r1 => ?_
  refine oP 42 fun r2 => ?_
  refine oP 43 fun r3 => ?_
  exact oE)
@[simp] theorem n54_41_eq (call : Calling) (s : St) : evC (cx54 call) n54_41 s = bnd (evC (cx54 call) n54_42 s) fun r => some (inBlk 5 r) := xB 5 _
@[simp] theorem n54_50_eq (call : Calling) (env : Env) (h : Heap) : evC (cx54 call) n54_50 ⟨env, h⟩ = (bnd (pureV h (mBin .sub (env.get 8) (nat 1))) fun r1 => some (.nrm, ⟨(Env.put env 8 r1.1), r1.2⟩)) := (xR 12 (cOps n54_50)).trans (by
  refine opsK_0 ?_
  refine oT 38 (env.get 8) ?_
  refine oP 39 fun r1 => ?_
  refine oT 8 r1.1 ?_
  exact oE)
@[simp] theorem n54_40_eq (call : Calling) (s : St) : evC (cx54 call) n54_40 s = bnd (evC (cx54 call) n54_41 s) (sqK (evC (cx54 call) n54_50)) := xS _ _
@[simp] theorem n54_35_eq (call : Calling) (s : St) : evC (cx54 call) n54_35 s = bnd (evC (cx54 call) n54_36 s) (sqK (evC (cx54 call) n54_40)) := xS _ _
@[simp] theorem n54_34_eq (call : Calling) (s : St) : evC (cx54 call) n54_34 s = evLoop (evC (cx54 call) n54_35) s := xL _
@[simp] theorem n54_33_eq (call : Calling) (s : St) : evC (cx54 call) n54_33 s = bnd (evC (cx54 call) n54_34 s) fun r => some (inBlk 4 r) := xB 4 _
@[simp] theorem n54_32_eq (call : Calling) (env : Env) (h : Heap) : evC (cx54 call) n54_32 ⟨env, h⟩ = ( evC (cx54 call) n54_33 ⟨(Env.put env 8 (nat 254)), h⟩) := (xSR 10 (cOps (cL n54_32)) (cR n54_32)).trans (by
  refine opsK_0 ?_
  refine oT 8 (nat 254) ?_
  exact oE)
@[simp] theorem n54_59_eq (call : Calling) (s : St) : evC (cx54 call) n54_59 s = some (.nrm, s) := xK
@[simp] theorem n54_60_eq (call : Calling) (s : St) : evC (cx54 call) n54_60 s = some (.exit 6, s) := xX 6
@[simp] theorem n54_58_eq (call : Calling) (s : St) : evC (cx54 call) n54_58 s = cnd (s.env.get 79) (evC (cx54 call) n54_59 s) (evC (cx54 call) n54_60 s) := xC 79 _ _
@[simp] theorem n54_57_eq (call : Calling) (env : Env) (h : Heap) : evC (cx54 call) n54_57 ⟨env, h⟩ = (bnd (pureV h (mBin .lss (env.get 10) (nat 128))) fun r1 => evC (cx54 call) n54_58 ⟨(Env.put env 79 r1.1), r1.2⟩) := (xSR 21 (cOps (cL n54_57)) (cR n54_57)).trans (by
  refine opsK_0 ?_
  refine oT 78 (env.get 10) ?_
  refine oP 79 fun r1 => ?_
  exact oE)
@[simp] theorem n54_63_eq (call : Calling) (env : Env) (h : Heap) : evC (cx54 call) n54_63 ⟨env, h⟩ = (bnd (pureV h (mIdxA (.arr 255 (.int .i64)) (env.get 5) (env.get 10))) fun r2 => bnd (pureV r2.2 (mLoad (.int .i64) r2.1 r2.2)) fun r3 => bnd (pureV r3.2 (mIdxA (.arr 128 (.int .i64)) (env.get 9) (env.get 10))) fun r4 => bnd (stU (.int .i64) r4.1 r3.1 r4.2) fun r5 => some (.nrm, ⟨env, r5.2⟩)) := (xR 23 (cOps n54_63)).trans (by
  refine opsK_0 ?_
  refine oT 82 (env.get 10) ?_
  refine oT 83 (env.get 10) ?_
  refine oP 84 fun r2 => ?_
  refine oP 85 fun r3 => ?_
  refine oP 86 fun r4 => ?_
  refine oN fun r5 => ?_
  exact oE)
@[simp] theorem n54_62_eq (call : Calling) (s : St) : evC (cx54 call) n54_62 s = bnd (evC (cx54 call) n54_63 s) fun r => some (inBlk 7 r) := xB 7 _
@[simp] theorem n54_64_eq (call : Calling) (env : Env) (h : Heap) : evC (cx54 call) n54_64 ⟨env, h⟩ = (bnd (pureV h (mBin .add (env.get 10) (nat 1))) fun r1 => some (.nrm, ⟨(Env.put env 10 r1.1), r1.2⟩)) := (xR 22 (cOps n54_64)).trans (by
  refine opsK_0 ?_
  refine oT 80 (env.get 10) ?_
  refine oP 81 fun r1 => ?_
  refine oT 10 r1.1 ?_
  exact oE)
@[simp] theorem n54_61_eq (call : Calling) (s : St) : evC (cx54 call) n54_61 s = bnd (evC (cx54 call) n54_62 s) (sqK (evC (cx54 call) n54_64)) := xS _ _
@[simp] theorem n54_56_eq (call : Calling) (s : St) : evC (cx54 call) n54_56 s = bnd (evC (cx54 call) n54_57 s) (sqK (evC (cx54 call) n54_61)) := xS _ _
@[simp] theorem n54_55_eq (call : Calling) (s : St) : evC (cx54 call) n54_55 s = evLoop (evC (cx54 call) n54_56) s := xL _
@[simp] theorem n54_54_eq (call : Calling) (s : St) : evC (cx54 call) n54_54 s = bnd (evC (cx54 call) n54_55 s) fun r => some (inBlk 6 r) := xB 6 _
@[simp] theorem n54_53_eq (call : Calling) (env : Env) (h : Heap) : evC (cx54 call) n54_53 ⟨env, h⟩ = ( evC (cx54 call) n54_54 ⟨(Env.put env 10 (nat 0)), h⟩) := (xSR 20 (cOps (cL n54_53)) (cR n54_53)).trans (by
  refine opsK_0 ?_
  refine oT 10 (nat 0) ?_
  exact oE)
@[simp] theorem n54_66_eq (call : Calling) (s : St) : evC (cx54 call) n54_66 s = some (.ret, s) := xE
@[simp] theorem n54_65_eq (call : Calling) (env : Env) (h : Heap) : evC (cx54 call) n54_65 ⟨env, h⟩ = (bnd (pureV h (mLoad (.arr 128 (.int .i64)) (env.get 9) h)) fun r0 => bnd (stU (.arr 128 (.int .i64)) (env.get 4) r0.1 r0.2) fun r1 => evC (cx54 call) n54_66 ⟨env, r1.2⟩) := (xSR 24 (cOps (cL n54_65)) (cR n54_65)).trans (by
  refine opsK_0 ?_
  refine oP 87 fun r0 => ?_
  refine oN fun r1 => ?_
  exact oE)
@[simp] theorem n54_52_eq (call : Calling) (s : St) : evC (cx54 call) n54_52 s = bnd (evC (cx54 call) n54_53 s) (sqK (evC (cx54 call) n54_65)) := xS _ _
@[simp] theorem n54_51_eq (call : Calling) (env : Env) (h : Heap) : evC (cx54 call) n54_51 ⟨env, h⟩ = (bnd (mNew (.arr 128 (.int .i64)) (.ints .i64 (List.replicate 128 0)) h) fun r0 => evC (cx54 call) n54_52 ⟨(Env.put env 9 r0.1), r0.2⟩) := (xSR 19 (cOps (cL n54_51)) (cR n54_51)).trans (by
  refine opsK_0 ?_
  refine oP 9 fun r0 => ?_
  exact oE)
@[simp] theorem n54_31_eq (call : Calling) (s : St) : evC (cx54 call) n54_31 s = bnd (evC (cx54 call) n54_32 s) (sqK (evC (cx54 call) n54_51)) := xS _ _
@[simp] theorem n54_2_eq (call : Calling) (s : St) : evC (cx54 call) n54_2 s = bnd (evC (cx54 call) n54_3 s) (sqK (evC (cx54 call) n54_31)) := xS _ _
@[simp] theorem n54_1_eq (call : Calling) (env : Env) (h : Heap) : evC (cx54 call) n54_1 ⟨env, h⟩ = (bnd (mNew (.arr 255 (.int .i64)) (.ints .i64 (List.replicate 255 0)) h) fun r0 => evC (cx54 call) n54_2 ⟨(Env.put env 5 r0.1), r0.2⟩) := (xSR 1 (cOps (cL n54_1)) (cR n54_1)).trans (by
  refine opsK_0 ?_
  refine oP 5 fun r0 => ?_
  exact oE)
@[simp] theorem n54_0_eq (call : Calling) (env : Env) (h : Heap) : evC (cx54 call) n54_0 ⟨env, h⟩ = (bnd (mNew (.arr 128 (.int .i64)) (env.get 0) h) fun r0 => bnd (mNew (.arr 128 (.int .i64)) (env.get 1) r0.2) fun r1 => bnd (mNew (.arr 128 (.int .i64)) (.ints .i64 (List.replicate 128 0)) r1.2) fun r2 => evC (cx54 call) n54_1 ⟨(Env.put (Env.put (Env.put env 2 r0.1) 3 r1.1) 4 r2.1), r2.2⟩) := (xSR 0 (cOps (cL n54_0)) (cR n54_0)).trans (by
  refine opsK_0 ?_
  refine oP 2 fun r0 => ?_
  refine oP 3 fun r1 => ?_
  refine oP 4 fun r2 => ?_
  exact oE)
theorem b54 (call : Calling) (a0 a1 : AV) (h : Heap) : evBody (cx54 call) Try.f54 n54_0 [a0, a1] h = bnd (evC (cx54 call) n54_0 ⟨[(0, a0), (1, a1), (2, .junk), (3, .junk), (4, .junk), (5, .junk), (6, .junk), (7, .junk), (8, .junk), (9, .junk), (10, .junk), (12, .junk), (18, .junk), (20, .junk), (37, .junk), (43, .junk), (79, .junk)], h⟩) (retK fun s => bnd (bnd (mLoad (.arr 128 (.int .i64)) (s.env.get 4) s.heap) fun v => bnd (some []) fun vs => some (v :: vs)) fun vs => some (oneOrTuple vs)) := by kernel_rfl
theorem fn54 : Try.prog.funcs[54]? = some Try.f54 := by kernel_rfl
theorem k54 : Callable Try.prog 54 := ⟨Try.f54, fn54, by kernel_rfl, by kernel_rfl⟩
theorem s54 {call : Calling} (hc : CallOK Try.prog call) {args : List AV} {h h' : Heap} {v : AV} (he : evBody (cx54 call) Try.f54 n54_0 args h = some (v, h')) : Spec Try.prog 54 args h v h' := body_sound (C := cx54 call) TT_ok hc mixed_ok fn54 (by kernel_rfl) (by kernel_rfl) he
end Go.Vab
