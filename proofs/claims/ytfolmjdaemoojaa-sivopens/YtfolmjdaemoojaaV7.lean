/-
  The document's filling up and POLYVAL, walked.
-/
import Derived.Test.YtfolmjdaemoojaaV6
import Derived.Test.YtfolmjdaemoojaaV3
set_option linter.all false
set_option linter.unusedSectionVars false
namespace Go.Vab
open Go Go.Proofs

@[simp] theorem fillRow_nil (t : Ty) (r : AV) : fillRow t r [] = some r := rfl
@[simp] theorem fillRow_cons (n i : Nat) (f : Nat → BitVec 8) (x : BitVec 8) (ps : List (Nat × AV)) : fillRow (.arr n (.int .u8)) (arr n f) ((i, u8 x) :: ps) = if i < n then fillRow (.arr n (.int .u8)) (arr n (upd f i x)) ps else none := by
  simp only [fillRow, arr_put]
  by_cases h : i < n
  · simp [h]
  · simp [h]
theorem zeroRow_u8 (n : Nat) : zeroRow n (u8 0#8) = arr n fun _ => 0#8 := repl_arr n
@[simp] theorem mBuildSlice_u8 (n : Nat) (ps : List (Nat × AV)) (h : Heap) (hn : n ≤ 16777216) : mBuildSlice (.int .u8) (u8 0#8) n ps h = bnd (fillRow (.arr n (.int .u8)) (arr n fun _ => 0#8) ps) fun r => some (.slice h.length 0 [] (.int .u8) 0 n (some n), h ++ [⟨r, 0, .own⟩]) := by
  unfold mBuildSlice
  rw [zeroRow_u8]
  congr 1
  funext r
  rw [if_pos (by simp [Ty.size, hn])]

/-- The number of bytes, filled up; the bytes. -/
def upN (n : Nat) : Nat := 16 * ((n + 15) / 16)
def fullF (n : Nat) (g : Nat → BitVec 8) : Nat → BitVec 8 := fun j => if j < n then g j else 0#8
theorem fullF_congr {n : Nat} {g f : Nat → BitVec 8} (h : ∀ i, i < n → g i = f i) : ∀ j, fullF n g j = fullF n f j := fun j => by
  unfold fullF
  split
  · exact h j (by assumption)
  · rfl

def H58 (h : Heap) (m : Nat) (f : Nat → BitVec 8) (tr : Heap) : Heap := h ++ (⟨arr 0 fun _ => 0#8, 0, .own⟩ :: ⟨arr m f, m, .open⟩ :: tr)

theorem walk58 (call : Calling) (h : Heap) (b : AV) (n : Nat) (g : Nat → BitVec 8) (hb : Byt h b n g) (hn : n < 100000000) :
    ∃ tr, evBody (cx58 call) Try.f58 n58_0 [b] h = some (.slice (h.length + 1) (upN n) [] (.int .u8) 0 (upN n) none, h ++ tr) ∧ tr[1]? = some ⟨arr (upN n) (fullF n g), upN n, .open⟩ := by
  have lb := hb.len
  have eb := hb.elems
  have e00 : ∀ m, upN n = n + m → m < 16 := fun m q => by unfold upN at q; omega
  obtain ⟨p, hp⟩ : ∃ p, upN n = n + p := ⟨upN n - n, by unfold upN; omega⟩
  have hp16 := e00 p hp
  have hp0 : (n + p) % 16 = 0 := by rw [← hp]; unfold upN; omega
  rw [b58]
  have main : Evs (evC (cx58 call) n58_0 ⟨[(0, b), (1, .junk), (2, .junk), (3, .junk), (10, .junk)], h⟩) (fun r => ∃ env tr, r = (.ret, ⟨env, h ++ tr⟩) ∧ env.get 2 = .slice (h.length + 1) (upN n) [] (.int .u8) 0 (upN n) none ∧ tr[1]? = some ⟨arr (upN n) (fullF n g), upN n, .open⟩) := by
    obtain ⟨env, he⟩ : ∃ env : Env, env = [(0, b), (1, .junk), (2, .junk), (3, .junk), (10, .junk)] := ⟨_, rfl⟩
    rw [← he]
    have g0 : env.get 0 = b := by rw [he]; rfl
    clear he
    repeat (first | (with_reducible refine Evs.assoc ?_) | ((with_reducible refine Evs.some_bnd ?_); try dsimp only [sqK_nrm, sqK_exit, sqK_ret]) | ((with_reducible apply Evs.bcndT); (focus (simp (disch := omega) [g0, lb, eb] <;> omega))) | ((with_reducible apply Evs.bcndF); (focus (simp (disch := omega) [g0, lb, eb] <;> omega))) | ((with_reducible apply Evs.step); (focus ((conv => lhs; simp (disch := omega) [g0, lb, eb]); done)); try dsimp only) | (simp only [sn58, snB]))
    refine Evs.bnd (Q := fun r => ∃ env' tr f, r = (.exit 0, ⟨env', H58 h (n + p) f tr⟩) ∧ env'.get 3 = .slice (h.length + 1) (n + p) [] (.int .u8) 0 (n + p) none ∧ ∀ j, j < n + p → f j = fullF n g j) ?_ ?_
    · refine Evs.up p (fun i s => ∃ env' tr f, s = ⟨env', H58 h (n + i) f tr⟩ ∧ env'.get 3 = .slice (h.length + 1) (n + i) [] (.int .u8) 0 (n + i) none ∧ ∀ j, j < n + i → f j = fullF n g j) ?_ ?_
        ⟨_, [], _, rfl, by simp, fun j hj => by simp [fullF, show j < n by omega]⟩
      · rintro i s hi ⟨env', tr, f, rfl, e3, hf⟩
        unfold H58
        have q : ¬ (n + i) % 16 = 0 := by omega
        have e1 : mBin .rem (nat (n + i)) (nat 16) = some (nat ((n + i) % 16)) := nat_rem (by decide)
        repeat (first | (with_reducible refine Evs.assoc ?_) | ((with_reducible refine Evs.some_bnd ?_); try dsimp only [sqK_nrm, sqK_exit, sqK_ret]) | ((with_reducible apply Evs.bcndT); (focus (simp (disch := omega) [e3, e1, q] <;> omega))) | ((with_reducible apply Evs.bcndF); (focus (simp (disch := omega) [e3, e1, q] <;> omega))) | ((with_reducible apply Evs.step); (focus ((conv => lhs; simp (disch := omega) [e3, e1, q]); done)); try dsimp only) | (simp only [sn58, snB]))
        refine Evs.ret ⟨rfl, _, _, _, rfl, by simp; rfl, fun j hj => ?_⟩
        by_cases hlt : j < n + i
        · simp only [hlt, if_true]; exact hf j hlt
        · simp [hlt, fullF, show ¬ j < n by omega, upd]
      · rintro s ⟨env', tr, f, rfl, e3, hf⟩
        have e1 : mBin .rem (nat (n + p)) (nat 16) = some (nat 0) := by rw [nat_rem (by decide), hp0]
        repeat (first | (with_reducible refine Evs.assoc ?_) | ((with_reducible refine Evs.some_bnd ?_); try dsimp only [sqK_nrm, sqK_exit, sqK_ret]) | ((with_reducible apply Evs.bcndT); (focus (simp (disch := omega) [e3, e1] <;> omega))) | ((with_reducible apply Evs.bcndF); (focus (simp (disch := omega) [e3, e1] <;> omega))) | ((with_reducible apply Evs.step); (focus ((conv => lhs; simp (disch := omega) [e3, e1]); done)); try dsimp only) | (simp only [sn58, snB]))
        exact Evs.ret ⟨by simp, _, _, _, rfl, by simp [e3], hf⟩
    · rintro r ⟨env', tr, f, rfl, e3, hf⟩
      unfold H58
      repeat (first | (with_reducible refine Evs.assoc ?_) | ((with_reducible refine Evs.some_bnd ?_); try dsimp only [sqK_nrm, sqK_exit, sqK_ret]) | ((with_reducible apply Evs.bcndT); (focus (simp (disch := omega) [e3] <;> omega))) | ((with_reducible apply Evs.bcndF); (focus (simp (disch := omega) [e3] <;> omega))) | ((with_reducible apply Evs.step); (focus ((conv => lhs; simp (disch := omega) [e3]); done)); try dsimp only) | (simp only [sn58, snB]))
      refine Evs.ret ⟨_, _, rfl, by simp [e3, hp], ?_⟩
      simp only [List.getElem?_cons_succ, List.getElem?_cons_zero]
      rw [hp, arr_congr hf]
  obtain ⟨r, hr, env, tr, rfl, e0, e1⟩ := main
  refine ⟨tr, ?_, e1⟩
  rw [hr]
  simp [e0, oneOrTuple]

noncomputable def c58 := conC (fun x : (AV) × (Nat) × (Nat → BitVec 8) => [x.1]) (fun (x : (AV) × (Nat) × (Nat → BitVec 8)) h => Byt h x.1 x.2.1 x.2.2 ∧ x.2.1 < 100000000) (fun (x : (AV) × (Nat) × (Nat → BitVec 8)) h => (.slice h.length (upN x.2.1) [] (.int .u8) 0 (upN x.2.1) none, h ++ [(⟨arr (upN x.2.1) (fullF x.2.1 x.2.2), upN x.2.1, .open⟩ : Blk)]))
noncomputable def callS21 : Calling := addC callS20 58 c58
theorem c58_eq (b : AV) (n : Nat) (g : Nat → BitVec 8) (h : Heap) (hc : Byt h b n g ∧ n < 100000000) : c58 [b] h = some (.slice h.length (upN n) [] (.int .u8) 0 (upN n) none, h ++ [(⟨arr (upN n) (fullF n g), upN n, .open⟩ : Blk)]) :=
  conC_eqP (enc := fun x : (AV) × (Nat) × (Nat → BitVec 8) => [x.1]) (P := fun (x : (AV) × (Nat) × (Nat → BitVec 8)) h => Byt h x.1 x.2.1 x.2.2 ∧ x.2.1 < 100000000) (a := (b, n, g)) (f := fun (x : (AV) × (Nat) × (Nat → BitVec 8)) h => (.slice h.length (upN x.2.1) [] (.int .u8) 0 (upN x.2.1) none, h ++ [(⟨arr (upN x.2.1) (fullF x.2.1 x.2.2), upN x.2.1, .open⟩ : Blk)])) (fun x y h hp hq e => by
    have e3 := (List.cons.inj e).1
    rw [e3] at hp
    obtain ⟨e4, e5⟩ := hp.1.det hq.1
    rw [← e4, arr_congr fun i _ => fullF_congr e5 i]
    ) hc
theorem callS21_ok : CallOK Try.prog callS21 := addC_con callS20_ok k58 fun x h hx => by
  obtain ⟨t, ht, h1⟩ := walk58 callS20 h _ _ _ hx.1 hx.2
  exact (s58 callS20_ok ht).pull t 1 _ h1 ⟨_, _, rfl⟩
@[simp] theorem callS21_ne {f : Nat} (args : List AV) (h : Heap) (hf : f ≠ 58) : callS21 f args h = callS20 f args h := addC_ne _ _ _ args h hf
@[simp] theorem callS21_sne {f : Nat} (args : List AV) (h : Heap) (hf : f ≠ 58) : still callS21 f args h = still callS20 f args h := still_ne _ _ _ args h hf
theorem callS21_58 (b : AV) (n : Nat) (g : Nat → BitVec 8) (h : Heap) (hc : Byt h b n g ∧ n < 100000000) : callS21 58 [b] h = some (.slice h.length (upN n) [] (.int .u8) 0 (upN n) none, h ++ [(⟨arr (upN n) (fullF n g), upN n, .open⟩ : Blk)]) := by
  unfold callS21; rw [addC_same]; exact c58_eq b n g h hc

def H36 (h : Heap) (y s : Nat → BitVec 8) (n : Nat) (g : Nat → BitVec 8) : Heap := h ++ [⟨arr 16 y, 0, .own⟩, ⟨arr 16 fun _ => 0#8, 0, .own⟩, ⟨arr 16 s, 0, .own⟩, ⟨arr (upN n) (fullF n g), upN n, .open⟩]
def B36 (L N : Nat) (env : Env) : Prop := env.get 2 = .ptr L 0 [] (.arr 16 (.int .u8)) ∧ env.get 4 = .ptr (L + 1) 0 [] (.arr 16 (.int .u8)) ∧ env.get 5 = .ptr (L + 2) 0 [] (.arr 16 (.int .u8)) ∧ env.get 6 = .slice (L + 3) N [] (.int .u8) 0 N none
theorem B36.same {L N : Nat} {env env' : Env} (h : B36 L N env) (hs : Same [2, 4, 5, 6] env env') : B36 L N env' :=
  ⟨by rw [hs.get 2 rfl]; exact h.1, by rw [hs.get 4 rfl]; exact h.2.1, by rw [hs.get 5 rfl]; exact h.2.2.1, by rw [hs.get 6 rfl]; exact h.2.2.2⟩

theorem walk36 (h : Heap) (y : Nat → BitVec 8) (b : AV) (n : Nat) (g : Nat → BitVec 8) (hb : Byt h b n g) (hn : n < 100000000) : ∃ t, evBody (cx36 callS21) Try.f36 n36_0 [arr 16 y, b] h = some (arr 16 (bytesX (polyX 0#128 (val16 y) n g)), h ++ t) := by
  have k58 : ∀ l, callS21 58 [b] (h ++ l) = some (.slice (h ++ l).length (upN n) [] (.int .u8) 0 (upN n) none, h ++ l ++ [⟨arr (upN n) (fullF n g), upN n, .open⟩]) := fun l => callS21_58 b n g (h ++ l) ⟨hb.app l, hn⟩
  have hN : upN n = 16 * ((n + 15) / 16) := rfl
  have hN2 : upN n < 100000020 := by unfold upN; omega
  rw [b36]
  have main : Evs (evC (cx36 callS21) n36_0 ⟨[(0, arr 16 y), (1, b), (2, .junk), (3, .junk), (4, .junk), (5, .junk), (6, .junk), (7, .junk), (8, .junk), (14, .junk), (18, .junk)], h⟩) (fun r => ∃ env t, r = (.ret, ⟨env, h ++ t⟩) ∧ mLoad (.arr 16 (.int .u8)) (env.get 4) (h ++ t) = some (arr 16 (bytesX (polyX 0#128 (val16 y) n g)))) := by
    obtain ⟨env, he⟩ : ∃ env : Env, env = [(0, arr 16 y), (1, b), (2, .junk), (3, .junk), (4, .junk), (5, .junk), (6, .junk), (7, .junk), (8, .junk), (14, .junk), (18, .junk)] := ⟨_, rfl⟩
    rw [← he]
    have g0 : env.get 0 = arr 16 y := by rw [he]; rfl
    have g1 : env.get 1 = b := by rw [he]; rfl
    clear he
    repeat (first | (with_reducible refine Evs.assoc ?_) | ((with_reducible refine Evs.some_bnd ?_); try dsimp only [sqK_nrm, sqK_exit, sqK_ret]) | ((with_reducible apply Evs.bcndT); (focus (simp (disch := omega) [g0, g1, k58] <;> omega))) | ((with_reducible apply Evs.bcndF); (focus (simp (disch := omega) [g0, g1, k58] <;> omega))) | ((with_reducible apply Evs.step); (focus ((conv => lhs; simp (disch := omega) [g0, g1, k58]); done)); try dsimp only) | (simp only [sn36, snB]))
    refine Evs.bnd (Q := fun r => ∃ env' s, r = (.exit 0, ⟨env', H36 h y s n g⟩) ∧ B36 h.length (upN n) env' ∧ ∀ j, j < 16 → s j = bytesX (polyX 0#128 (val16 y) n g) j) ?_ ?_
    · refine Evs.up ((n + 15) / 16) (fun i st => ∃ env' s, st = ⟨env', H36 h y s n g⟩ ∧ B36 h.length (upN n) env' ∧ env'.get 7 = nat (16 * i) ∧ ∀ j, j < 16 → s j = bytesX (onX 0#128 (val16 y) n g i) j) ?_ ?_
        ⟨_, _, rfl, ⟨by simp, by simp, by simp, by simp⟩, by simp, fun j _ => by simp [onX, bytesX]⟩
      · rintro i st hi ⟨env', s, rfl, ⟨e2, e4, e5, e6⟩, e7, hs⟩
        have hlt : 16 * i < upN n := by omega
        unfold H36
        repeat (first | (with_reducible refine Evs.assoc ?_) | ((with_reducible refine Evs.some_bnd ?_); try dsimp only [sqK_nrm, sqK_exit, sqK_ret]) | ((with_reducible apply Evs.bcndT); (focus (simp (disch := omega) [e2, e4, e5, e6, e7] <;> omega))) | ((with_reducible apply Evs.bcndF); (focus (simp (disch := omega) [e2, e4, e5, e6, e7] <;> omega))) | ((with_reducible apply Evs.step); (focus ((conv => lhs; simp (disch := omega) [e2, e4, e5, e6, e7]); done)); try dsimp only) | (simp only [sn36, snB]))
        refine Evs.bnd (Q := fun r => ∃ env2 f, r = (.exit 2, ⟨env2, H36 h y f n g⟩) ∧ Same [2, 4, 5, 6, 7] env' env2 ∧ ∀ j, j < 16 → f j = s j ^^^ fullF n g (16 * i + j)) ?_ ?_
        · refine Evs.up 16 (fun k st => ∃ env2 f, st = ⟨env2, H36 h y f n g⟩ ∧ Same [2, 4, 5, 6, 7] env' env2 ∧ env2.get 8 = nat k ∧ ∀ j, j < 16 → f j = if j < k then s j ^^^ fullF n g (16 * i + j) else s j) ?_ ?_
            ⟨_, _, rfl, by repeat (first | exact Same.refl _ _ | refine Same.put rfl ?_), by simp, fun j _ => by simp⟩
          · rintro k st hk ⟨env2, f, rfl, hs2, c8, hf⟩
            have c5 := (hs2.get 5 rfl).trans e5
            have c6 := (hs2.get 6 rfl).trans e6
            have c7 := (hs2.get 7 rfl).trans e7
            have hik : 16 * i + k < upN n := by omega
            unfold H36
            repeat (first | (with_reducible refine Evs.assoc ?_) | ((with_reducible refine Evs.some_bnd ?_); try dsimp only [sqK_nrm, sqK_exit, sqK_ret]) | ((with_reducible apply Evs.bcndT); (focus (simp (disch := omega) [c5, c6, c7, c8] <;> omega))) | ((with_reducible apply Evs.bcndF); (focus (simp (disch := omega) [c5, c6, c7, c8] <;> omega))) | ((with_reducible apply Evs.step); (focus ((conv => lhs; simp (disch := omega) [c5, c6, c7, c8]); done)); try dsimp only) | (simp only [sn36, snB]))
            refine Evs.ret ⟨rfl, _, _, rfl, by repeat (first | exact hs2 | refine Same.put rfl ?_), by simp, fun j hj => ?_⟩
            by_cases hjk : j = k
            · subst hjk
              rw [upd_same, hf j hj, if_neg (Nat.lt_irrefl _), if_pos (Nat.lt_succ_self _)]
            · rw [upd_ne _ _ hjk, hf j hj]
              by_cases hlt : j < k
              · rw [if_pos hlt, if_pos (by omega)]
              · rw [if_neg hlt, if_neg (by omega)]
          · rintro st ⟨env2, f, rfl, hs2, c8, hf⟩
            repeat (first | (with_reducible refine Evs.assoc ?_) | ((with_reducible refine Evs.some_bnd ?_); try dsimp only [sqK_nrm, sqK_exit, sqK_ret]) | ((with_reducible apply Evs.bcndT); (focus (simp (disch := omega) [c8] <;> omega))) | ((with_reducible apply Evs.bcndF); (focus (simp (disch := omega) [c8] <;> omega))) | ((with_reducible apply Evs.step); (focus ((conv => lhs; simp (disch := omega) [c8]); done)); try dsimp only) | (simp only [sn36, snB]))
            exact Evs.ret ⟨by simp, _, _, rfl, by repeat (first | exact hs2 | refine Same.put rfl ?_), fun j hj => by rw [hf j hj, if_pos hj]⟩
        · rintro r ⟨env2, f, rfl, hs2, hf⟩
          have c2 := (hs2.get 2 rfl).trans e2
          have c4 := (hs2.get 4 rfl).trans e4
          have c5 := (hs2.get 5 rfl).trans e5
          have c6 := (hs2.get 6 rfl).trans e6
          have c7 := (hs2.get 7 rfl).trans e7
          unfold H36
          repeat (first | (with_reducible refine Evs.assoc ?_) | ((with_reducible refine Evs.some_bnd ?_); try dsimp only [sqK_nrm, sqK_exit, sqK_ret]) | ((with_reducible apply Evs.bcndT); (focus (simp (disch := omega) [c2, c4, c5, c6, c7] <;> omega))) | ((with_reducible apply Evs.bcndF); (focus (simp (disch := omega) [c2, c4, c5, c6, c7] <;> omega))) | ((with_reducible apply Evs.step); (focus ((conv => lhs; simp (disch := omega) [c2, c4, c5, c6, c7]); done)); try dsimp only) | (simp only [sn36, snB]))
          refine Evs.ret ⟨rfl, _, _, rfl, ⟨by simp [c2], by simp [c4], by simp [c5], by simp [c6]⟩, by rw [show 16 * (i + 1) = 16 * i + 16 by omega]; simp, fun j hj => ?_⟩
          have ev : val16 f = onX 0#128 (val16 y) n g i ^^^ val16 (blkF n g i) := by
            rw [val16_congr (f := fun j => bytesX (onX 0#128 (val16 y) n g i) j ^^^ blkF n g i j) (fun j hj => by rw [hf j hj, hs j hj]; rfl), val16_xor, val_bytes]
          unfold dotB
          rw [ev]
          rfl
      · rintro st ⟨env', s, rfl, hB, e7, hs⟩
        have e6 := hB.2.2.2
        rw [← hN] at e7
        repeat (first | (with_reducible refine Evs.assoc ?_) | ((with_reducible refine Evs.some_bnd ?_); try dsimp only [sqK_nrm, sqK_exit, sqK_ret]) | ((with_reducible apply Evs.bcndT); (focus (simp (disch := omega) [e6, e7] <;> omega))) | ((with_reducible apply Evs.bcndF); (focus (simp (disch := omega) [e6, e7] <;> omega))) | ((with_reducible apply Evs.step); (focus ((conv => lhs; simp (disch := omega) [e6, e7]); done)); try dsimp only) | (simp only [sn36, snB]))
        exact Evs.ret ⟨by simp, _, _, rfl, hB.same (by repeat (first | exact Same.refl _ _ | refine Same.put rfl ?_)), hs⟩
    · rintro r ⟨env', s, rfl, ⟨e2, e4, e5, e6⟩, hs⟩
      unfold H36
      repeat (first | (with_reducible refine Evs.assoc ?_) | ((with_reducible refine Evs.some_bnd ?_); try dsimp only [sqK_nrm, sqK_exit, sqK_ret]) | ((with_reducible apply Evs.bcndT); (focus (simp (disch := omega) [e4, e5] <;> omega))) | ((with_reducible apply Evs.bcndF); (focus (simp (disch := omega) [e4, e5] <;> omega))) | ((with_reducible apply Evs.step); (focus ((conv => lhs; simp (disch := omega) [e4, e5]); done)); try dsimp only) | (simp only [sn36, snB]))
      refine Evs.ret ⟨_, _, rfl, ?_⟩
      simp [e4]
      exact arr_congr hs
  obtain ⟨r, hr, env, t, rfl, e0⟩ := main
  refine ⟨t, ?_⟩
  rw [hr]
  simp [e0, oneOrTuple]

noncomputable def c36 := conC (fun x : (Nat → BitVec 8) × (AV) × (Nat) × (Nat → BitVec 8) => [arr 16 x.1, x.2.1]) (fun (x : (Nat → BitVec 8) × (AV) × (Nat) × (Nat → BitVec 8)) h => Byt h x.2.1 x.2.2.1 x.2.2.2 ∧ x.2.2.1 < 100000000) (fun (x : (Nat → BitVec 8) × (AV) × (Nat) × (Nat → BitVec 8)) h => (arr 16 (bytesX (polyX 0#128 (val16 x.1) x.2.2.1 x.2.2.2)), h))
noncomputable def callS22 : Calling := addC callS21 36 c36
theorem c36_eq (y : Nat → BitVec 8) (b : AV) (n : Nat) (g : Nat → BitVec 8) (h : Heap) (hc : Byt h b n g ∧ n < 100000000) : c36 [arr 16 y, b] h = some (arr 16 (bytesX (polyX 0#128 (val16 y) n g)), h) :=
  conC_eqP (enc := fun x : (Nat → BitVec 8) × (AV) × (Nat) × (Nat → BitVec 8) => [arr 16 x.1, x.2.1]) (P := fun (x : (Nat → BitVec 8) × (AV) × (Nat) × (Nat → BitVec 8)) h => Byt h x.2.1 x.2.2.1 x.2.2.2 ∧ x.2.2.1 < 100000000) (a := (y, b, n, g)) (f := fun (x : (Nat → BitVec 8) × (AV) × (Nat) × (Nat → BitVec 8)) h => (arr 16 (bytesX (polyX 0#128 (val16 x.1) x.2.2.1 x.2.2.2)), h)) (fun x y h hp hq e => by
    have e1 := arr_inj.1 (List.cons.inj e).1
    have e3 := (List.cons.inj (List.cons.inj e).2).1
    rw [e3] at hp
    obtain ⟨e4, e5⟩ := hp.1.det hq.1
    rw [val16_congr e1, e4]
    rw [polyX_congr (by rw [← e4]; exact e5)]
    ) hc
theorem callS22_ok : CallOK Try.prog callS22 := addC_con callS21_ok k36 fun x h hx => by
  obtain ⟨t, ht⟩ := walk36 h _ _ _ _ hx.1 hx.2
  exact (s36 callS21_ok ht).drop0 t rfl
@[simp] theorem callS22_ne {f : Nat} (args : List AV) (h : Heap) (hf : f ≠ 36) : callS22 f args h = callS21 f args h := addC_ne _ _ _ args h hf
@[simp] theorem callS22_sne {f : Nat} (args : List AV) (h : Heap) (hf : f ≠ 36) : still callS22 f args h = still callS21 f args h := still_ne _ _ _ args h hf
theorem callS22_36 (y : Nat → BitVec 8) (b : AV) (n : Nat) (g : Nat → BitVec 8) (h : Heap) (hc : Byt h b n g ∧ n < 100000000) : callS22 36 [arr 16 y, b] h = some (arr 16 (bytesX (polyX 0#128 (val16 y) n g)), h) := by
  unfold callS22; rw [addC_same]; exact c36_eq y b n g h hc
theorem callS22_36s (y : Nat → BitVec 8) (b : AV) (n : Nat) (g : Nat → BitVec 8) (h : Heap) (hc : Byt h b n g ∧ n < 100000000) : still callS22 36 [arr 16 y, b] h = some (arr 16 (bytesX (polyX 0#128 (val16 y) n g)), h) := still_of fun tt => callS22_36 y b n g (h ++ tt) (⟨hc.1.app tt, hc.2⟩)

end Go.Vab

/- How the evaluator reads the functions of a seat. Printed by wip/tools/gen.py (own work). -/
namespace Go.Vab
open Go Go.Proofs
noncomputable section
variable (call : Calling) (env : Env) (h : Heap) (s : St)
/-! vestry/vestryref09.first -/
def cx57 (call : Calling) : Ctx := ⟨call, TT, 45, [11, 12, 13, 14, 16, 17, 18, 19, 20, 21, 22, 23, 24, 25, 26, 27, 28, 29, 30, 31, 32, 33, 34, 35, 36, 37, 38, 39, 40, 41, 42, 43, 44]⟩
def n57_0 : Code := bodyOf Try.f57
def n57_1 : Code := cR n57_0
def n57_2 : Code := cR n57_1
def n57_3 : Code := cL n57_2
def n57_4 : Code := cR n57_3
def n57_5 : Code := cB n57_4
def n57_6 : Code := cB n57_5
def n57_7 : Code := cL n57_6
def n57_8 : Code := cR n57_7
def n57_9 : Code := cL n57_8
def n57_10 : Code := cR n57_8
def n57_11 : Code := cR n57_6
def n57_12 : Code := cL n57_11
def n57_13 : Code := cB n57_12
def n57_14 : Code := cR n57_11
def n57_15 : Code := cR n57_2
def n57_16 : Code := cR n57_15
def n57_17 : Code := cR n57_16
@[simp] theorem n57_9_eq : evC (cx57 call) n57_9 s = some (.nrm, s) := xK
@[simp] theorem n57_10_eq : evC (cx57 call) n57_10 s = some (.exit 0, s) := xX 0
@[simp] theorem n57_8_eq : evC (cx57 call) n57_8 s = cnd (s.env.get 15) (evC (cx57 call) n57_9 s) (evC (cx57 call) n57_10 s) := xC 15 _ _
@[simp] theorem n57_7_eq : evC (cx57 call) n57_7 ⟨env, h⟩ = (bnd (pureV h (mBin .lss (env.get 10) (nat 12))) fun r1 => evC (cx57 call) n57_8 ⟨(Env.put env 15 r1.1), r1.2⟩) := (xSR 3 (cOps (cL n57_7)) (cR n57_7)).trans (by
  refine opsK_0 ?_
  refine oT 14 (env.get 10) ?_
  refine oP 15 fun r1 => ?_
  exact oE)
@[simp] theorem n57_13_eq : evC (cx57 call) n57_13 ⟨env, h⟩ = (bnd (pureV h (mBin .add (nat 4) (env.get 10))) fun r1 => bnd (pureV r1.2 (mIdxA (.arr 12 (.int .u8)) (env.get 5) (env.get 10))) fun r3 => bnd (pureV r3.2 (mLoad (.int .u8) r3.1 r3.2)) fun r4 => bnd (pureV r4.2 (mIdxA (.arr 16 (.int .u8)) (env.get 9) r1.1)) fun r5 => bnd (stU (.int .u8) r5.1 r4.1 r5.2) fun r6 => some (.nrm, ⟨env, r6.2⟩)) := (xR 5 (cOps n57_13)).trans (by
  refine opsK_0 ?_
  refine oT 18 (env.get 10) ?_
  refine oP 19 fun r1 => ?_
  refine oT 20 (env.get 10) ?_
  refine oP 21 fun r3 => ?_
  refine oP 22 fun r4 => ?_
  refine oP 23 fun r5 => ?_
  refine oN fun r6 => ?_
  exact oE)
@[simp] theorem n57_12_eq : evC (cx57 call) n57_12 s = bnd (evC (cx57 call) n57_13 s) fun r => some (inBlk 1 r) := xB 1 _
@[simp] theorem n57_14_eq : evC (cx57 call) n57_14 ⟨env, h⟩ = (bnd (pureV h (mBin .add (env.get 10) (nat 1))) fun r1 => some (.nrm, ⟨(Env.put env 10 r1.1), r1.2⟩)) := (xR 4 (cOps n57_14)).trans (by
  refine opsK_0 ?_
  refine oT 16 (env.get 10) ?_
  refine oP 17 fun r1 => ?_
  refine oT 10 r1.1 ?_
  exact oE)
@[simp] theorem n57_11_eq : evC (cx57 call) n57_11 s = bnd (evC (cx57 call) n57_12 s) (sqK (evC (cx57 call) n57_14)) := xS _ _
@[simp] theorem n57_6_eq : evC (cx57 call) n57_6 s = bnd (evC (cx57 call) n57_7 s) (sqK (evC (cx57 call) n57_11)) := xS _ _
@[simp] theorem n57_5_eq : evC (cx57 call) n57_5 s = evLoop (evC (cx57 call) n57_6) s := xL _
@[simp] theorem n57_4_eq : evC (cx57 call) n57_4 s = bnd (evC (cx57 call) n57_5 s) fun r => some (inBlk 0 r) := xB 0 _
@[simp] theorem n57_3_eq : evC (cx57 call) n57_3 ⟨env, h⟩ = ( evC (cx57 call) n57_4 ⟨(Env.put env 10 (nat 0)), h⟩) := (xSR 2 (cOps (cL n57_3)) (cR n57_3)).trans (by
  refine opsK_0 ?_
  refine oT 10 (nat 0) ?_
  exact oE)
@[simp] theorem n57_17_eq : evC (cx57 call) n57_17 s = some (.ret, s) := xE
@[simp] theorem n57_16_eq : evC (cx57 call) n57_16 ⟨env, h⟩ = (bnd (pureV h (mIdxA (.arr 16 (.int .u8)) (env.get 9) (nat 0))) fun r0 => bnd (pureV r0.2 (mLoad (.int .u8) r0.1 r0.2)) fun r1 => bnd (pureV r1.2 (mIdxA (.arr 16 (.int .u8)) (env.get 9) (nat 1))) fun r2 => bnd (pureV r2.2 (mLoad (.int .u8) r2.1 r2.2)) fun r3 => bnd (pureV r3.2 (mIdxA (.arr 16 (.int .u8)) (env.get 9) (nat 2))) fun r4 => bnd (pureV r4.2 (mLoad (.int .u8) r4.1 r4.2)) fun r5 => bnd (pureV r5.2 (mIdxA (.arr 16 (.int .u8)) (env.get 9) (nat 3))) fun r6 => bnd (pureV r6.2 (mLoad (.int .u8) r6.1 r6.2)) fun r7 => bnd (pureV r7.2 (mIdxA (.arr 16 (.int .u8)) (env.get 9) (nat 4))) fun r8 => bnd (pureV r8.2 (mLoad (.int .u8) r8.1 r8.2)) fun r9 => bnd (pureV r9.2 (mIdxA (.arr 16 (.int .u8)) (env.get 9) (nat 5))) fun r10 => bnd (pureV r10.2 (mLoad (.int .u8) r10.1 r10.2)) fun r11 => bnd (pureV r11.2 (mIdxA (.arr 16 (.int .u8)) (env.get 9) (nat 6))) fun r12 => bnd (pureV r12.2 (mLoad (.int .u8) r12.1 r12.2)) fun r13 => bnd (pureV r13.2 (mIdxA (.arr 16 (.int .u8)) (env.get 9) (nat 7))) fun r14 => bnd (pureV r14.2 (mLoad (.int .u8) r14.1 r14.2)) fun r15 => bnd (mBuildSlice (.int .u8) (u8 0#8) 8 [(0, r1.1), (1, r3.1), (2, r5.1), (3, r7.1), (4, r9.1), (5, r11.1), (6, r13.1), (7, r15.1)] r15.2) fun r16 => evC (cx57 call) n57_17 ⟨(Env.put env 8 r16.1), r16.2⟩) := (xSR 7 (cOps (cL n57_16)) (cR n57_16)).trans (by
  refine opsK_0 ?_
  refine oP 28 fun r0 => ?_
  refine oP 29 fun r1 => ?_
  refine oP 30 fun r2 => ?_
  refine oP 31 fun r3 => ?_
  refine oP 32 fun r4 => ?_
  refine oP 33 fun r5 => ?_
  refine oP 34 fun r6 => ?_
  refine oP 35 fun r7 => ?_
  refine oP 36 fun r8 => ?_
  refine oP 37 fun r9 => ?_
  refine oP 38 fun r10 => ?_
  refine oP 39 fun r11 => ?_
  refine oP 40 fun r12 => ?_
  refine oP 41 fun r13 => ?_
  refine oP 42 fun r14 => ?_
  refine oP 43 fun r15 => ?_
  refine oP 44 fun r16 => ?_
  refine oT 8 r16.1 ?_
  exact oE)
@[simp] theorem n57_15_eq : evC (cx57 call) n57_15 ⟨env, h⟩ = (bnd (pureV h (mLoad (.arr 32 (.int .u8)) (env.get 4) h)) fun r0 => bnd (pureV r0.2 (mLoad (.arr 16 (.int .u8)) (env.get 9) r0.2)) fun r1 => bnd (pureV r1.2 (mLoad (.arr 256 (.int .u8)) (env.get 7) r1.2)) fun r2 => bnd (call 42 [r0.1, r1.1, r2.1] r2.2) fun r3 => bnd (stU (.arr 16 (.int .u8)) (env.get 9) r3.1 r3.2) fun r4 => evC (cx57 call) n57_16 ⟨env, r4.2⟩) := (xSR 6 (cOps (cL n57_15)) (cR n57_15)).trans (by
  refine opsK_0 ?_
  refine oP 24 fun r0 => ?_
  refine oP 25 fun r1 => ?_
  refine oP 26 fun r2 => ?_
  refine oP 27 fun r3 => ?_
  refine oN fun r4 => ?_
  exact oE)
@[simp] theorem n57_2_eq : evC (cx57 call) n57_2 s = bnd (evC (cx57 call) n57_3 s) (sqK (evC (cx57 call) n57_15)) := xS _ _
@[simp] theorem n57_1_eq : evC (cx57 call) n57_1 ⟨env, h⟩ = (bnd (pureV h (mConv .u8 (env.get 2))) fun r1 => bnd (pureV r1.2 (fillRow (.arr 16 (.int .u8)) (arr 16 fun _ => 0#8) [(0, r1.1)])) fun r2 => bnd (mNew (.arr 16 (.int .u8)) (arr 16 fun _ => 0#8) r2.2) fun r3 => bnd (stU (.arr 16 (.int .u8)) r3.1 r2.1 r3.2) fun r4 => evC (cx57 call) n57_2 ⟨(Env.put env 9 r3.1), r4.2⟩) := (xSR 1 (cOps (cL n57_1)) (cR n57_1)).trans (by
  refine opsK_0 ?_
  refine oT 11 (env.get 2) ?_
  refine oP 12 fun r1 => ?_
  refine oP 13 fun r2 => ?_
  refine oP 9 fun r3 => ?_
  refine oN fun r4 => ?_
  exact oE)
@[simp] theorem n57_0_eq : evC (cx57 call) n57_0 ⟨env, h⟩ = (bnd (mNew (.arr 32 (.int .u8)) (env.get 0) h) fun r0 => bnd (mNew (.arr 12 (.int .u8)) (env.get 1) r0.2) fun r1 => bnd (mNew (.arr 256 (.int .u8)) (env.get 3) r1.2) fun r2 => evC (cx57 call) n57_1 ⟨(Env.put (Env.put (Env.put (Env.put env 4 r0.1) 5 r1.1) 7 r2.1) 8 .nilslice), r2.2⟩) := (xSR 0 (cOps (cL n57_0)) (cR n57_0)).trans (by
  refine opsK_0 ?_
  refine oP 4 fun r0 => ?_
  refine oP 5 fun r1 => ?_
  refine oP 7 fun r2 => ?_
  refine oT 8 .nilslice ?_
  exact oE)
theorem b57 (call : Calling) (a0 a1 a2 a3 : AV) (h : Heap) : evBody (cx57 call) Try.f57 n57_0 [a0, a1, a2, a3] h = bnd (evC (cx57 call) n57_0 ⟨[(0, a0), (1, a1), (2, a2), (3, a3), (4, .junk), (5, .junk), (6, .junk), (7, .junk), (8, .junk), (9, .junk), (10, .junk), (15, .junk)], h⟩) (retK fun s => bnd (bnd (some (s.env.get 8)) fun v => bnd (some []) fun vs => some (v :: vs)) fun vs => some (oneOrTuple vs)) := by kernel_rfl
theorem fn57 : Try.prog.funcs[57]? = some Try.f57 := by kernel_rfl
theorem k57 : Callable Try.prog 57 := ⟨Try.f57, fn57, by kernel_rfl, by kernel_rfl⟩
theorem s57 {call : Calling} (hc : CallOK Try.prog call) {args : List AV} {h h' : Heap} {v : AV} (he : evBody (cx57 call) Try.f57 n57_0 args h = some (v, h')) : Spec Try.prog 57 args h v h' := body_sound (C := cx57 call) TT_ok hc mixed_ok fn57 (by kernel_rfl) (by kernel_rfl) he
def sn57 := Y n57_9_eq (Y n57_10_eq (Y n57_8_eq (Y n57_7_eq (Y n57_13_eq (Y n57_12_eq (Y n57_14_eq (Y n57_11_eq (Y n57_6_eq (Y n57_5_eq (Y n57_4_eq (Y n57_3_eq (Y n57_17_eq (Y n57_16_eq (Y n57_15_eq (Y n57_2_eq (Y n57_1_eq (n57_0_eq)))))))))))))))))
end
end Go.Vab

/- How the evaluator reads the functions of a seat. Printed by wip/tools/gen.py (own work). -/
namespace Go.Vab
open Go Go.Proofs
noncomputable section
variable (call : Calling) (env : Env) (h : Heap) (s : St)
/-! vestry/vestryref09.Keys -/
def cx35 (call : Calling) : Ctx := ⟨call, TT, 48, [13, 14, 16, 17, 18, 19, 20, 21, 22, 23, 24, 25, 27, 28, 29, 30, 31, 32, 33, 34, 35, 37, 38, 39, 40, 41, 42, 43, 44, 45, 46, 47]⟩
def n35_0 : Code := bodyOf Try.f35
def n35_1 : Code := cR n35_0
def n35_2 : Code := cR n35_1
def n35_3 : Code := cR n35_2
def n35_4 : Code := cL n35_3
def n35_5 : Code := cR n35_4
def n35_6 : Code := cB n35_5
def n35_7 : Code := cB n35_6
def n35_8 : Code := cL n35_7
def n35_9 : Code := cR n35_8
def n35_10 : Code := cL n35_9
def n35_11 : Code := cR n35_9
def n35_12 : Code := cR n35_7
def n35_13 : Code := cL n35_12
def n35_14 : Code := cB n35_13
def n35_15 : Code := cR n35_12
def n35_16 : Code := cR n35_3
def n35_17 : Code := cR n35_16
def n35_18 : Code := cR n35_17
def n35_19 : Code := cL n35_18
def n35_20 : Code := cR n35_19
def n35_21 : Code := cB n35_20
def n35_22 : Code := cB n35_21
def n35_23 : Code := cL n35_22
def n35_24 : Code := cR n35_23
def n35_25 : Code := cL n35_24
def n35_26 : Code := cR n35_24
def n35_27 : Code := cR n35_22
def n35_28 : Code := cL n35_27
def n35_29 : Code := cB n35_28
def n35_30 : Code := cR n35_27
def n35_31 : Code := cR n35_18
def n35_32 : Code := cL n35_31
def n35_33 : Code := cR n35_32
def n35_34 : Code := cB n35_33
def n35_35 : Code := cB n35_34
def n35_36 : Code := cL n35_35
def n35_37 : Code := cR n35_36
def n35_38 : Code := cL n35_37
def n35_39 : Code := cR n35_37
def n35_40 : Code := cR n35_35
def n35_41 : Code := cL n35_40
def n35_42 : Code := cB n35_41
def n35_43 : Code := cR n35_40
def n35_44 : Code := cR n35_31
def n35_45 : Code := cR n35_44
@[simp] theorem n35_10_eq : evC (cx35 call) n35_10 s = some (.nrm, s) := xK
@[simp] theorem n35_11_eq : evC (cx35 call) n35_11 s = some (.exit 0, s) := xX 0
@[simp] theorem n35_9_eq : evC (cx35 call) n35_9 s = cnd (s.env.get 15) (evC (cx35 call) n35_10 s) (evC (cx35 call) n35_11 s) := xC 15 _ _
@[simp] theorem n35_8_eq : evC (cx35 call) n35_8 ⟨env, h⟩ = (bnd (pureV h (mBin .lss (env.get 8) (nat 6))) fun r1 => evC (cx35 call) n35_9 ⟨(Env.put env 15 r1.1), r1.2⟩) := (xSR 4 (cOps (cL n35_8)) (cR n35_8)).trans (by
  refine opsK_0 ?_
  refine oT 14 (env.get 8) ?_
  refine oP 15 fun r1 => ?_
  exact oE)
@[simp] theorem n35_14_eq : evC (cx35 call) n35_14 ⟨env, h⟩ = (bnd (pureV h (mLoad (.arr 32 (.int .u8)) (env.get 2) h)) fun r1 => bnd (pureV r1.2 (mLoad (.arr 12 (.int .u8)) (env.get 3) r1.2)) fun r2 => bnd (pureV r2.2 (mLoad (.arr 256 (.int .u8)) (env.get 6) r2.2)) fun r4 => bnd (call 57 [r1.1, r2.1, (env.get 8), r4.1] r4.2) fun r5 => bnd (mApp (.int .u8) 1 (env.get 7) r5.1 r5.2) fun r6 => some (.nrm, ⟨(Env.put env 7 r6.1), r6.2⟩)) := (xR 6 (cOps n35_14)).trans (by
  refine opsK_0 ?_
  refine oT 18 (env.get 7) ?_
  refine oP 19 fun r1 => ?_
  refine oP 20 fun r2 => ?_
  refine oT 21 (env.get 8) ?_
  refine oP 22 fun r4 => ?_
  refine oP 23 fun r5 => ?_
  refine oP 24 fun r6 => ?_
  refine oT 7 r6.1 ?_
  exact oE)
@[simp] theorem n35_13_eq : evC (cx35 call) n35_13 s = bnd (evC (cx35 call) n35_14 s) fun r => some (inBlk 1 r) := xB 1 _
@[simp] theorem n35_15_eq : evC (cx35 call) n35_15 ⟨env, h⟩ = (bnd (pureV h (mBin .add (env.get 8) (nat 1))) fun r1 => some (.nrm, ⟨(Env.put env 8 r1.1), r1.2⟩)) := (xR 5 (cOps n35_15)).trans (by
  refine opsK_0 ?_
  refine oT 16 (env.get 8) ?_
  refine oP 17 fun r1 => ?_
  refine oT 8 r1.1 ?_
  exact oE)
@[simp] theorem n35_12_eq : evC (cx35 call) n35_12 s = bnd (evC (cx35 call) n35_13 s) (sqK (evC (cx35 call) n35_15)) := xS _ _
@[simp] theorem n35_7_eq : evC (cx35 call) n35_7 s = bnd (evC (cx35 call) n35_8 s) (sqK (evC (cx35 call) n35_12)) := xS _ _
@[simp] theorem n35_6_eq : evC (cx35 call) n35_6 s = evLoop (evC (cx35 call) n35_7) s := xL _
@[simp] theorem n35_5_eq : evC (cx35 call) n35_5 s = bnd (evC (cx35 call) n35_6 s) fun r => some (inBlk 0 r) := xB 0 _
@[simp] theorem n35_4_eq : evC (cx35 call) n35_4 ⟨env, h⟩ = ( evC (cx35 call) n35_5 ⟨(Env.put env 8 (nat 0)), h⟩) := (xSR 3 (cOps (cL n35_4)) (cR n35_4)).trans (by
  refine opsK_0 ?_
  refine oT 8 (nat 0) ?_
  exact oE)
@[simp] theorem n35_25_eq : evC (cx35 call) n35_25 s = some (.nrm, s) := xK
@[simp] theorem n35_26_eq : evC (cx35 call) n35_26 s = some (.exit 2, s) := xX 2
@[simp] theorem n35_24_eq : evC (cx35 call) n35_24 s = cnd (s.env.get 26) (evC (cx35 call) n35_25 s) (evC (cx35 call) n35_26 s) := xC 26 _ _
@[simp] theorem n35_23_eq : evC (cx35 call) n35_23 ⟨env, h⟩ = (bnd (pureV h (mBin .lss (env.get 11) (nat 16))) fun r1 => evC (cx35 call) n35_24 ⟨(Env.put env 26 r1.1), r1.2⟩) := (xSR 10 (cOps (cL n35_23)) (cR n35_23)).trans (by
  refine opsK_0 ?_
  refine oT 25 (env.get 11) ?_
  refine oP 26 fun r1 => ?_
  exact oE)
@[simp] theorem n35_29_eq : evC (cx35 call) n35_29 ⟨env, h⟩ = (bnd (pureV h (mIdxS (.int .u8) (env.get 7) (env.get 11))) fun r3 => bnd (pureV r3.2 (mLoad (.int .u8) r3.1 r3.2)) fun r4 => bnd (pureV r4.2 (mIdxA (.arr 16 (.int .u8)) (env.get 9) (env.get 11))) fun r5 => bnd (stU (.int .u8) r5.1 r4.1 r5.2) fun r6 => some (.nrm, ⟨env, r6.2⟩)) := (xR 12 (cOps n35_29)).trans (by
  refine opsK_0 ?_
  refine oT 29 (env.get 11) ?_
  refine oT 30 (env.get 7) ?_
  refine oT 31 (env.get 11) ?_
  refine oP 32 fun r3 => ?_
  refine oP 33 fun r4 => ?_
  refine oP 34 fun r5 => ?_
  refine oN fun r6 => ?_
  exact oE)
@[simp] theorem n35_28_eq : evC (cx35 call) n35_28 s = bnd (evC (cx35 call) n35_29 s) fun r => some (inBlk 3 r) := xB 3 _
@[simp] theorem n35_30_eq : evC (cx35 call) n35_30 ⟨env, h⟩ = (bnd (pureV h (mBin .add (env.get 11) (nat 1))) fun r1 => some (.nrm, ⟨(Env.put env 11 r1.1), r1.2⟩)) := (xR 11 (cOps n35_30)).trans (by
  refine opsK_0 ?_
  refine oT 27 (env.get 11) ?_
  refine oP 28 fun r1 => ?_
  refine oT 11 r1.1 ?_
  exact oE)
@[simp] theorem n35_27_eq : evC (cx35 call) n35_27 s = bnd (evC (cx35 call) n35_28 s) (sqK (evC (cx35 call) n35_30)) := xS _ _
@[simp] theorem n35_22_eq : evC (cx35 call) n35_22 s = bnd (evC (cx35 call) n35_23 s) (sqK (evC (cx35 call) n35_27)) := xS _ _
@[simp] theorem n35_21_eq : evC (cx35 call) n35_21 s = evLoop (evC (cx35 call) n35_22) s := xL _
@[simp] theorem n35_20_eq : evC (cx35 call) n35_20 s = bnd (evC (cx35 call) n35_21 s) fun r => some (inBlk 2 r) := xB 2 _
@[simp] theorem n35_19_eq : evC (cx35 call) n35_19 ⟨env, h⟩ = ( evC (cx35 call) n35_20 ⟨(Env.put env 11 (nat 0)), h⟩) := (xSR 9 (cOps (cL n35_19)) (cR n35_19)).trans (by
  refine opsK_0 ?_
  refine oT 11 (nat 0) ?_
  exact oE)
@[simp] theorem n35_38_eq : evC (cx35 call) n35_38 s = some (.nrm, s) := xK
@[simp] theorem n35_39_eq : evC (cx35 call) n35_39 s = some (.exit 4, s) := xX 4
@[simp] theorem n35_37_eq : evC (cx35 call) n35_37 s = cnd (s.env.get 36) (evC (cx35 call) n35_38 s) (evC (cx35 call) n35_39 s) := xC 36 _ _
@[simp] theorem n35_36_eq : evC (cx35 call) n35_36 ⟨env, h⟩ = (bnd (pureV h (mBin .lss (env.get 12) (nat 32))) fun r1 => evC (cx35 call) n35_37 ⟨(Env.put env 36 r1.1), r1.2⟩) := (xSR 14 (cOps (cL n35_36)) (cR n35_36)).trans (by
  refine opsK_0 ?_
  refine oT 35 (env.get 12) ?_
  refine oP 36 fun r1 => ?_
  exact oE)
@[simp] theorem n35_42_eq : evC (cx35 call) n35_42 ⟨env, h⟩ = (bnd (pureV h (mBin .add (nat 16) (env.get 12))) fun r3 => bnd (pureV r3.2 (mIdxS (.int .u8) (env.get 7) r3.1)) fun r4 => bnd (pureV r4.2 (mLoad (.int .u8) r4.1 r4.2)) fun r5 => bnd (pureV r5.2 (mIdxA (.arr 32 (.int .u8)) (env.get 10) (env.get 12))) fun r6 => bnd (stU (.int .u8) r6.1 r5.1 r6.2) fun r7 => some (.nrm, ⟨env, r7.2⟩)) := (xR 16 (cOps n35_42)).trans (by
  refine opsK_0 ?_
  refine oT 39 (env.get 12) ?_
  refine oT 40 (env.get 7) ?_
  refine oT 41 (env.get 12) ?_
  refine oP 42 fun r3 => ?_
  refine oP 43 fun r4 => ?_
  refine oP 44 fun r5 => ?_
  refine oP 45 fun r6 => ?_
  refine oN fun r7 => ?_
  exact oE)
@[simp] theorem n35_41_eq : evC (cx35 call) n35_41 s = bnd (evC (cx35 call) n35_42 s) fun r => some (inBlk 5 r) := xB 5 _
@[simp] theorem n35_43_eq : evC (cx35 call) n35_43 ⟨env, h⟩ = (bnd (pureV h (mBin .add (env.get 12) (nat 1))) fun r1 => some (.nrm, ⟨(Env.put env 12 r1.1), r1.2⟩)) := (xR 15 (cOps n35_43)).trans (by
  refine opsK_0 ?_
  refine oT 37 (env.get 12) ?_
  refine oP 38 fun r1 => ?_
  refine oT 12 r1.1 ?_
  exact oE)
@[simp] theorem n35_40_eq : evC (cx35 call) n35_40 s = bnd (evC (cx35 call) n35_41 s) (sqK (evC (cx35 call) n35_43)) := xS _ _
@[simp] theorem n35_35_eq : evC (cx35 call) n35_35 s = bnd (evC (cx35 call) n35_36 s) (sqK (evC (cx35 call) n35_40)) := xS _ _
@[simp] theorem n35_34_eq : evC (cx35 call) n35_34 s = evLoop (evC (cx35 call) n35_35) s := xL _
@[simp] theorem n35_33_eq : evC (cx35 call) n35_33 s = bnd (evC (cx35 call) n35_34 s) fun r => some (inBlk 4 r) := xB 4 _
@[simp] theorem n35_32_eq : evC (cx35 call) n35_32 ⟨env, h⟩ = ( evC (cx35 call) n35_33 ⟨(Env.put env 12 (nat 0)), h⟩) := (xSR 13 (cOps (cL n35_32)) (cR n35_32)).trans (by
  refine opsK_0 ?_
  refine oT 12 (nat 0) ?_
  exact oE)
@[simp] theorem n35_45_eq : evC (cx35 call) n35_45 s = some (.ret, s) := xE
theorem n35_44_ok : drawOkQ true (cOps (cL n35_44)).toList = false := by kernel_rfl
@[simp] theorem n35_44_eq : evC (cx35 call) n35_44 ⟨env, h⟩ = (bnd (pureV h (mLoad (.arr 16 (.int .u8)) (env.get 9) h)) fun r0 => bnd (pureV r0.2 (mLoad (.arr 32 (.int .u8)) (env.get 10) r0.2)) fun r1 => bnd (stU (.arr 16 (.int .u8)) (env.get 4) r0.1 r1.2) fun r2 => bnd (stU (.arr 32 (.int .u8)) (env.get 5) r1.1 r2.2) fun r3 => bnd (anyK (cx35 call) (cOps (cL n35_44)) ⟨env, h⟩ env r3.2) (sqK (evC (cx35 call) n35_45))) := (ev_seqdrawany 17 (cOps (cL n35_44)) (cR n35_44) (by kernel_rfl) n35_44_ok (by kernel_rfl)).trans (by
  refine opsK_0 ?_
  refine oP 46 fun r0 => ?_
  refine oP 47 fun r1 => ?_
  refine oN fun r2 => ?_
  refine oN fun r3 => ?_
  exact oE)
@[simp] theorem n35_31_eq : evC (cx35 call) n35_31 s = bnd (evC (cx35 call) n35_32 s) (sqK (evC (cx35 call) n35_44)) := xS _ _
@[simp] theorem n35_18_eq : evC (cx35 call) n35_18 s = bnd (evC (cx35 call) n35_19 s) (sqK (evC (cx35 call) n35_31)) := xS _ _
@[simp] theorem n35_17_eq : evC (cx35 call) n35_17 ⟨env, h⟩ = (bnd (mNew (.arr 32 (.int .u8)) (arr 32 fun _ => 0#8) h) fun r0 => evC (cx35 call) n35_18 ⟨(Env.put env 10 r0.1), r0.2⟩) := (xSR 8 (cOps (cL n35_17)) (cR n35_17)).trans (by
  refine opsK_0 ?_
  refine oP 10 fun r0 => ?_
  exact oE)
@[simp] theorem n35_16_eq : evC (cx35 call) n35_16 ⟨env, h⟩ = (bnd (mNew (.arr 16 (.int .u8)) (arr 16 fun _ => 0#8) h) fun r0 => evC (cx35 call) n35_17 ⟨(Env.put env 9 r0.1), r0.2⟩) := (xSR 7 (cOps (cL n35_16)) (cR n35_16)).trans (by
  refine opsK_0 ?_
  refine oP 9 fun r0 => ?_
  exact oE)
@[simp] theorem n35_3_eq : evC (cx35 call) n35_3 s = bnd (evC (cx35 call) n35_4 s) (sqK (evC (cx35 call) n35_16)) := xS _ _
@[simp] theorem n35_2_eq : evC (cx35 call) n35_2 ⟨env, h⟩ = ( evC (cx35 call) n35_3 ⟨(Env.put env 7 .nilslice), h⟩) := (xSR 2 (cOps (cL n35_2)) (cR n35_2)).trans (by
  refine opsK_0 ?_
  refine oT 7 .nilslice ?_
  exact oE)
@[simp] theorem n35_1_eq : evC (cx35 call) n35_1 ⟨env, h⟩ = (bnd (call 43 [] h) fun r0 => bnd (mNew (.arr 256 (.int .u8)) (arr 256 fun _ => 0#8) r0.2) fun r1 => bnd (stU (.arr 256 (.int .u8)) r1.1 r0.1 r1.2) fun r2 => evC (cx35 call) n35_2 ⟨(Env.put env 6 r1.1), r2.2⟩) := (xSR 1 (cOps (cL n35_1)) (cR n35_1)).trans (by
  refine opsK_0 ?_
  refine oP 13 fun r0 => ?_
  refine oP 6 fun r1 => ?_
  refine oN fun r2 => ?_
  exact oE)
@[simp] theorem n35_0_eq : evC (cx35 call) n35_0 ⟨env, h⟩ = (bnd (mNew (.arr 32 (.int .u8)) (env.get 0) h) fun r0 => bnd (mNew (.arr 12 (.int .u8)) (env.get 1) r0.2) fun r1 => bnd (mNew (.arr 16 (.int .u8)) (arr 16 fun _ => 0#8) r1.2) fun r2 => bnd (mNew (.arr 32 (.int .u8)) (arr 32 fun _ => 0#8) r2.2) fun r3 => evC (cx35 call) n35_1 ⟨(Env.put (Env.put (Env.put (Env.put env 2 r0.1) 3 r1.1) 4 r2.1) 5 r3.1), r3.2⟩) := (xSR 0 (cOps (cL n35_0)) (cR n35_0)).trans (by
  refine opsK_0 ?_
  refine oP 2 fun r0 => ?_
  refine oP 3 fun r1 => ?_
  refine oP 4 fun r2 => ?_
  refine oP 5 fun r3 => ?_
  exact oE)
theorem b35 (call : Calling) (a0 a1 : AV) (h : Heap) : evBody (cx35 call) Try.f35 n35_0 [a0, a1] h = bnd (evC (cx35 call) n35_0 ⟨[(0, a0), (1, a1), (2, .junk), (3, .junk), (4, .junk), (5, .junk), (6, .junk), (7, .junk), (8, .junk), (9, .junk), (10, .junk), (11, .junk), (12, .junk), (15, .junk), (26, .junk), (36, .junk)], h⟩) (retK fun s => bnd (bnd (mLoad (.arr 16 (.int .u8)) (s.env.get 4) s.heap) fun v => bnd (bnd (mLoad (.arr 32 (.int .u8)) (s.env.get 5) s.heap) fun v => bnd (some []) fun vs => some (v :: vs)) fun vs => some (v :: vs)) fun vs => some (oneOrTuple vs)) := by kernel_rfl
theorem fn35 : Try.prog.funcs[35]? = some Try.f35 := by kernel_rfl
theorem k35 : Callable Try.prog 35 := ⟨Try.f35, fn35, by kernel_rfl, by kernel_rfl⟩
theorem s35 {call : Calling} (hc : CallOK Try.prog call) {args : List AV} {h h' : Heap} {v : AV} (he : evBody (cx35 call) Try.f35 n35_0 args h = some (v, h')) : Spec Try.prog 35 args h v h' := body_sound (C := cx35 call) TT_ok hc mixed_ok fn35 (by kernel_rfl) (by kernel_rfl) he
def sn35 := Y n35_10_eq (Y n35_11_eq (Y n35_9_eq (Y n35_8_eq (Y n35_14_eq (Y n35_13_eq (Y n35_15_eq (Y n35_12_eq (Y n35_7_eq (Y n35_6_eq (Y n35_5_eq (Y n35_4_eq (Y n35_25_eq (Y n35_26_eq (Y n35_24_eq (Y n35_23_eq (Y n35_29_eq (Y n35_28_eq (Y n35_30_eq (Y n35_27_eq (Y n35_22_eq (Y n35_21_eq (Y n35_20_eq (Y n35_19_eq (Y n35_38_eq (Y n35_39_eq (Y n35_37_eq (Y n35_36_eq (Y n35_42_eq (Y n35_41_eq (Y n35_43_eq (Y n35_40_eq (Y n35_35_eq (Y n35_34_eq (Y n35_33_eq (Y n35_32_eq (Y n35_45_eq (Y n35_44_eq (Y n35_31_eq (Y n35_18_eq (Y n35_17_eq (Y n35_16_eq (Y n35_3_eq (Y n35_2_eq (Y n35_1_eq (n35_0_eq)))))))))))))))))))))))))))))))))))))))))))))
end
end Go.Vab

/-
  The document's keys, walked.
-/
namespace Go.Vab
open Go Go.Proofs

theorem arr8 (f : Nat → BitVec 8) : arr 8 (upd (upd (upd (upd (upd (upd (upd (upd (fun _ => 0#8) 0 (f 0)) 1 (f 1)) 2 (f 2)) 3 (f 3)) 4 (f 4)) 5 (f 5)) 6 (f 6)) 7 (f 7)) = arr 8 f := arr_congr fun j hj => by
  rcases (by omega : j = 0 ∨ j = 1 ∨ j = 2 ∨ j = 3 ∨ j = 4 ∨ j = 5 ∨ j = 6 ∨ j = 7) with rfl | rfl | rfl | rfl | rfl | rfl | rfl | rfl <;> simp [upd]

theorem walk57 (h : Heap) (key nonce : Nat → BitVec 8) (n : Nat) : ∃ tr, evBody (cx57 callS22) Try.f57 n57_0 [arr 32 key, arr 12 nonce, nat n, arr 256 sbF] h = some (.slice (h.length + 4) 0 [] (.int .u8) 0 8 (some 8), h ++ tr) ∧ tr[4]? = some ⟨arr 8 (kF key nonce n), 0, .own⟩ := by
  rw [b57]
  have main : Evs (evC (cx57 callS22) n57_0 ⟨[(0, arr 32 key), (1, arr 12 nonce), (2, nat n), (3, arr 256 sbF), (4, .junk), (5, .junk), (6, .junk), (7, .junk), (8, .junk), (9, .junk), (10, .junk), (15, .junk)], h⟩) (fun r => ∃ env tr, r = (.ret, ⟨env, h ++ tr⟩) ∧ env.get 8 = .slice (h.length + 4) 0 [] (.int .u8) 0 8 (some 8) ∧ tr[4]? = some ⟨arr 8 (kF key nonce n), 0, .own⟩) := by
    obtain ⟨env, he⟩ : ∃ env : Env, env = [(0, arr 32 key), (1, arr 12 nonce), (2, nat n), (3, arr 256 sbF), (4, .junk), (5, .junk), (6, .junk), (7, .junk), (8, .junk), (9, .junk), (10, .junk), (15, .junk)] := ⟨_, rfl⟩
    rw [← he]
    have g0 : env.get 0 = arr 32 key := by rw [he]; rfl
    have g1 : env.get 1 = arr 12 nonce := by rw [he]; rfl
    have g2 : env.get 2 = nat n := by rw [he]; rfl
    have g3 : env.get 3 = arr 256 sbF := by rw [he]; rfl
    clear he
    repeat (first | (with_reducible refine Evs.assoc ?_) | ((with_reducible refine Evs.some_bnd ?_); try dsimp only [sqK_nrm, sqK_exit, sqK_ret]) | ((with_reducible apply Evs.bcndT); (focus (simp (disch := omega) [g0, g1, g2, g3] <;> omega))) | ((with_reducible apply Evs.bcndF); (focus (simp (disch := omega) [g0, g1, g2, g3] <;> omega))) | ((with_reducible apply Evs.step); (focus ((conv => lhs; simp (disch := omega) [g0, g1, g2, g3]); done)); try dsimp only) | (simp only [sn57, snB]))
    refine Evs.bnd (Q := fun r => ∃ env' f, r = (.exit 0, ⟨env', h ++ [⟨arr 32 key, 0, .own⟩, ⟨arr 12 nonce, 0, .own⟩, ⟨arr 256 sbF, 0, .own⟩, ⟨arr 16 f, 0, .own⟩]⟩) ∧ env'.get 4 = .ptr h.length 0 [] (.arr 32 (.int .u8)) ∧ env'.get 7 = .ptr (h.length + 2) 0 [] (.arr 256 (.int .u8)) ∧ env'.get 9 = .ptr (h.length + 3) 0 [] (.arr 16 (.int .u8)) ∧ ∀ j, j < 16 → f j = kblk nonce n j) ?_ ?_
    · refine Evs.up 12 (fun i s => ∃ env' f, s = ⟨env', h ++ [⟨arr 32 key, 0, .own⟩, ⟨arr 12 nonce, 0, .own⟩, ⟨arr 256 sbF, 0, .own⟩, ⟨arr 16 f, 0, .own⟩]⟩ ∧ env'.get 4 = .ptr h.length 0 [] (.arr 32 (.int .u8)) ∧ env'.get 5 = .ptr (h.length + 1) 0 [] (.arr 12 (.int .u8)) ∧ env'.get 7 = .ptr (h.length + 2) 0 [] (.arr 256 (.int .u8)) ∧ env'.get 9 = .ptr (h.length + 3) 0 [] (.arr 16 (.int .u8)) ∧ env'.get 10 = nat i ∧ ∀ j, j < 16 → f j = if 4 ≤ j ∧ j < 4 + i then nonce (j - 4) else upd (fun _ => 0#8) 0 (BitVec.ofNat 8 n) j) ?_ ?_
        ⟨_, _, rfl, by simp, by simp, by simp, by simp, by simp, fun j _ => by rw [if_neg (by omega)]⟩
      · rintro i s hi ⟨env', f, rfl, e4, e5, e7, e9, e10, hf⟩
        repeat (first | (with_reducible refine Evs.assoc ?_) | ((with_reducible refine Evs.some_bnd ?_); try dsimp only [sqK_nrm, sqK_exit, sqK_ret]) | ((with_reducible apply Evs.bcndT); (focus (simp (disch := omega) [e4, e5, e7, e9, e10] <;> omega))) | ((with_reducible apply Evs.bcndF); (focus (simp (disch := omega) [e4, e5, e7, e9, e10] <;> omega))) | ((with_reducible apply Evs.step); (focus ((conv => lhs; simp (disch := omega) [e4, e5, e7, e9, e10]); done)); try dsimp only) | (simp only [sn57, snB]))
        refine Evs.ret ⟨rfl, _, _, rfl, by simp [e4], by simp [e5], by simp [e7], by simp [e9], by simp, fun j hj => ?_⟩
        by_cases hji : j = 4 + i
        · subst hji
          rw [upd_same, if_pos (by omega)]
          congr 1; omega
        · rw [upd_ne _ _ hji, hf j hj]
          by_cases hlt : 4 ≤ j ∧ j < 4 + i
          · rw [if_pos hlt, if_pos (by omega)]
          · rw [if_neg hlt, if_neg (by omega)]
      · rintro s ⟨env', f, rfl, e4, e5, e7, e9, e10, hf⟩
        repeat (first | (with_reducible refine Evs.assoc ?_) | ((with_reducible refine Evs.some_bnd ?_); try dsimp only [sqK_nrm, sqK_exit, sqK_ret]) | ((with_reducible apply Evs.bcndT); (focus (simp (disch := omega) [e10] <;> omega))) | ((with_reducible apply Evs.bcndF); (focus (simp (disch := omega) [e10] <;> omega))) | ((with_reducible apply Evs.step); (focus ((conv => lhs; simp (disch := omega) [e10]); done)); try dsimp only) | (simp only [sn57, snB]))
        exact Evs.ret ⟨by simp, _, _, rfl, by simp [e4], by simp [e7], by simp [e9], hf⟩
    · rintro r ⟨env', f, rfl, e4, e7, e9, hf⟩
      repeat (first | (with_reducible refine Evs.assoc ?_) | ((with_reducible refine Evs.some_bnd ?_); try dsimp only [sqK_nrm, sqK_exit, sqK_ret]) | ((with_reducible apply Evs.bcndT); (focus (simp (disch := omega) [e4, e7, e9] <;> omega))) | ((with_reducible apply Evs.bcndF); (focus (simp (disch := omega) [e4, e7, e9] <;> omega))) | ((with_reducible apply Evs.step); (focus ((conv => lhs; simp (disch := omega) [e4, e7, e9]); done)); try dsimp only) | (simp only [sn57, snB]))
      refine Evs.ret ⟨_, _, rfl, by simp, ?_⟩
      simp only [List.getElem?_cons_succ, List.getElem?_cons_zero]
      rw [arr8 (encF (wd key) f)]
      refine congrArg some (congrArg (fun v => Blk.mk v 0 .own) (arr_congr fun i hi => ?_))
      exact encF_congr (fun i _ p hp => rfl) hf i (by omega)
  obtain ⟨r, hr, env, tr, rfl, e0, e1⟩ := main
  refine ⟨tr, ?_, e1⟩
  rw [hr]
  simp [e0, oneOrTuple]

noncomputable def c57 := conC (fun x : (Nat → BitVec 8) × (Nat → BitVec 8) × (Nat) => [arr 32 x.1, arr 12 x.2.1, nat x.2.2, arr 256 sbF]) (fun (x : (Nat → BitVec 8) × (Nat → BitVec 8) × (Nat)) h => True) (fun (x : (Nat → BitVec 8) × (Nat → BitVec 8) × (Nat)) h => (.slice h.length 0 [] (.int .u8) 0 8 (some 8), h ++ [(⟨arr 8 (kF x.1 x.2.1 x.2.2), 0, .own⟩ : Blk)]))
noncomputable def callS23 : Calling := addC callS22 57 c57
theorem c57_eq (k : Nat → BitVec 8) (n : Nat → BitVec 8) (i : Nat) (h : Heap) : c57 [arr 32 k, arr 12 n, nat i, arr 256 sbF] h = some (.slice h.length 0 [] (.int .u8) 0 8 (some 8), h ++ [(⟨arr 8 (kF k n i), 0, .own⟩ : Blk)]) :=
  conC_eq (enc := fun x : (Nat → BitVec 8) × (Nat → BitVec 8) × (Nat) => [arr 32 x.1, arr 12 x.2.1, nat x.2.2, arr 256 sbF]) (P := fun (x : (Nat → BitVec 8) × (Nat → BitVec 8) × (Nat)) h => True) (a := (k, n, i)) (f := fun (x : (Nat → BitVec 8) × (Nat → BitVec 8) × (Nat)) h => (.slice h.length 0 [] (.int .u8) 0 8 (some 8), h ++ [(⟨arr 8 (kF x.1 x.2.1 x.2.2), 0, .own⟩ : Blk)])) (fun x y h e => by
    have e1 := arr_inj.1 (List.cons.inj e).1
    have e2 := arr_inj.1 (List.cons.inj (List.cons.inj e).2).1
    have e3 := nat_inj.1 (List.cons.inj (List.cons.inj (List.cons.inj e).2).2).1
    rw [e3, arr_congr (fun j hj => kF_congr e1 e2 y.2.2 j (by omega))]
    ) trivial
theorem callS23_ok : CallOK Try.prog callS23 := addC_con callS22_ok k57 fun x h hx => by
  obtain ⟨t, ht, h4⟩ := walk57 h x.1 x.2.1 x.2.2
  exact (s57 callS22_ok ht).pull t 4 _ h4 ⟨_, _, rfl⟩
@[simp] theorem callS23_ne {f : Nat} (args : List AV) (h : Heap) (hf : f ≠ 57) : callS23 f args h = callS22 f args h := addC_ne _ _ _ args h hf
@[simp] theorem callS23_sne {f : Nat} (args : List AV) (h : Heap) (hf : f ≠ 57) : still callS23 f args h = still callS22 f args h := still_ne _ _ _ args h hf
@[simp] theorem callS23_57 (k : Nat → BitVec 8) (n : Nat → BitVec 8) (i : Nat) (h : Heap) : callS23 57 [arr 32 k, arr 12 n, nat i, arr 256 sbF] h = some (.slice h.length 0 [] (.int .u8) 0 8 (some 8), h ++ [(⟨arr 8 (kF k n i), 0, .own⟩ : Blk)]) := by
  unfold callS23; rw [addC_same]; exact c57_eq k n i h

end Go.Vab

/-
  The document's keys: the last statement in every order.
-/
namespace Go.Vab
open Go Go.Proofs

theorem AnyRun.more {C : Ctx} {q : Bool} {ops : Array Oper} {Q : (Nat → AV) × Heap → Prop} {n : Nat} {listed : Array Bool} {s : (Nat → AV) × Heap} (l : List Nat) (hl : readyF ops listed = l) (hne : l ≠ [])
    (h : ∀ i ∈ l, ∃ o, ops[i]? = some o ∧ ∃ s', stepF C q ops.toList o s = some s' ∧ AnyRun C q ops Q n (listed.setIfInBounds i true) s') : AnyRun C q ops Q (n + 1) listed s :=
  ⟨fun h0 => absurd (hl.symm.trans h0) hne, fun i hi o ho => by
    rw [hl] at hi
    obtain ⟨o', h1, h2⟩ := h i hi
    rw [ho] at h1
    cases h1
    exact h2⟩

noncomputable def op35 (i : Nat) : Oper := opAt (cOps (cL n35_44)).toList i

section
variable (call : Calling) {σ : Nat → AV} {H H' : Heap} {a : AV}
theorem st35_0 (ha : mLoad (.arr 16 (.int .u8)) (σ 9) H = some a) : stepF (cx35 call) true (cOps (cL n35_44)).toList (op35 0) (σ, H) = some (updF σ 46 a, H) := by
  have e : evOneF (cx35 call) true (cOps (cL n35_44)).toList (op35 0) σ H = pureV H (mLoad (.arr 16 (.int .u8)) (σ 9) H) := by kernel_rfl
  have hd : (op35 0).dst = some 46 := by kernel_rfl
  refine stepF_some.2 ⟨a, by rw [e, ha]; rfl, fun d h => ?_, by rw [hd]; rfl⟩
  rw [hd] at h; cases h; exact of_decide_eq_true (by kernel_rfl)
theorem st35_1 (ha : mLoad (.arr 32 (.int .u8)) (σ 10) H = some a) : stepF (cx35 call) true (cOps (cL n35_44)).toList (op35 1) (σ, H) = some (updF σ 47 a, H) := by
  have e : evOneF (cx35 call) true (cOps (cL n35_44)).toList (op35 1) σ H = pureV H (mLoad (.arr 32 (.int .u8)) (σ 10) H) := by kernel_rfl
  have hd : (op35 1).dst = some 47 := by kernel_rfl
  refine stepF_some.2 ⟨a, by rw [e, ha]; rfl, fun d h => ?_, by rw [hd]; rfl⟩
  rw [hd] at h; cases h; exact of_decide_eq_true (by kernel_rfl)
theorem st35_2 (hs : stU (.arr 16 (.int .u8)) (σ 4) (σ 46) H = some (.undef, H')) : stepF (cx35 call) true (cOps (cL n35_44)).toList (op35 2) (σ, H) = some (σ, H') := by
  have e : evOneF (cx35 call) true (cOps (cL n35_44)).toList (op35 2) σ H = stU (.arr 16 (.int .u8)) (σ 4) (σ 46) H := by kernel_rfl
  have hd : (op35 2).dst = none := by kernel_rfl
  exact stepF_some.2 ⟨.undef, by rw [e, hs], fun d h => (by rw [hd] at h; cases h), by rw [hd]; rfl⟩
theorem st35_3 (hs : stU (.arr 32 (.int .u8)) (σ 5) (σ 47) H = some (.undef, H')) : stepF (cx35 call) true (cOps (cL n35_44)).toList (op35 3) (σ, H) = some (σ, H') := by
  have e : evOneF (cx35 call) true (cOps (cL n35_44)).toList (op35 3) σ H = stU (.arr 32 (.int .u8)) (σ 5) (σ 47) H := by kernel_rfl
  have hd : (op35 3).dst = none := by kernel_rfl
  exact stepF_some.2 ⟨.undef, by rw [e, hs], fun d h => (by rw [hd] at h; cases h), by rw [hd]; rfl⟩
end

theorem any35 (call : Calling) {env : Env} {H H1 H2 : Heap} {a e : AV} (l9 : mLoad (.arr 16 (.int .u8)) (env.get 9) H = some a) (l10 : mLoad (.arr 32 (.int .u8)) (env.get 10) H = some e)
    (s4 : stU (.arr 16 (.int .u8)) (env.get 4) a H = some (.undef, H1)) (l10' : mLoad (.arr 32 (.int .u8)) (env.get 10) H1 = some e) (s5 : stU (.arr 32 (.int .u8)) (env.get 5) e H1 = some (.undef, H2)) :
    AnyTo (cx35 call) true (cOps (cL n35_44)) ⟨env, H⟩ ⟨env, H2⟩ := by
  unfold AnyTo
  rw [show (cOps (cL n35_44)).size = 4 by kernel_rfl]
  have fin : ∀ σ : Nat → AV, (∀ t, t ≠ 46 → t ≠ 47 → σ t = env.get t) → Ends (cx35 call) ⟨env, H2⟩ (σ, H2) := fun σ hσ => by
    refine ⟨fun t ht => hσ t ?_ ?_, rfl⟩
    · rintro rfl; have q : (cx35 call).vol.contains 46 = true := rfl; rw [q] at ht; cases ht
    · rintro rfl; have q : (cx35 call).vol.contains 47 = true := rfl; rw [q] at ht; cases ht
  have u : ∀ (σ : Nat → AV) (d t : Nat) (v : AV), t ≠ d → updF σ d v t = σ t := fun σ d t v h => if_neg h
  have us : ∀ (σ : Nat → AV) (d : Nat) (v : AV), updF σ d v d = v := fun σ d v => if_pos rfl
  refine AnyRun.more [0, 1] (by kernel_rfl) (by simp) fun i hi => ?_
  rcases List.mem_cons.1 hi with rfl | hi
  · refine ⟨op35 0, by kernel_rfl, _, st35_0 call l9, ?_⟩
    refine AnyRun.more [1, 2] (by kernel_rfl) (by simp) fun i hi => ?_
    rcases List.mem_cons.1 hi with rfl | hi
    · refine ⟨op35 1, by kernel_rfl, _, st35_1 call (by rw [u _ _ _ _ (by decide)]; exact l10), ?_⟩
      refine AnyRun.more [2] (by kernel_rfl) (by simp) fun i hi => ?_
      obtain rfl := List.mem_singleton.1 hi
      refine ⟨op35 2, by kernel_rfl, _, st35_2 call (by rw [u _ _ _ _ (by decide), u _ _ _ _ (by decide), u _ _ _ _ (by decide), us]; exact s4), ?_⟩
      refine AnyRun.more [3] (by kernel_rfl) (by simp) fun i hi => ?_
      obtain rfl := List.mem_singleton.1 hi
      refine ⟨op35 3, by kernel_rfl, _, st35_3 call (by rw [u _ _ _ _ (by decide), u _ _ _ _ (by decide), us]; exact s5), by kernel_rfl, fin _ fun t h1 h2 => ?_⟩
      rw [u _ _ _ _ h2, u _ _ _ _ h1]
    · obtain rfl := List.mem_singleton.1 hi
      refine ⟨op35 2, by kernel_rfl, _, st35_2 call (by rw [u _ _ _ _ (by decide), us]; exact s4), ?_⟩
      refine AnyRun.more [1] (by kernel_rfl) (by simp) fun i hi => ?_
      obtain rfl := List.mem_singleton.1 hi
      refine ⟨op35 1, by kernel_rfl, _, st35_1 call (by rw [u _ _ _ _ (by decide)]; exact l10'), ?_⟩
      refine AnyRun.more [3] (by kernel_rfl) (by simp) fun i hi => ?_
      obtain rfl := List.mem_singleton.1 hi
      refine ⟨op35 3, by kernel_rfl, _, st35_3 call (by rw [u _ _ _ _ (by decide), u _ _ _ _ (by decide), us]; exact s5), by kernel_rfl, fin _ fun t h1 h2 => ?_⟩
      rw [u _ _ _ _ h2, u _ _ _ _ h1]
  · obtain rfl := List.mem_singleton.1 hi
    refine ⟨op35 1, by kernel_rfl, _, st35_1 call l10, ?_⟩
    refine AnyRun.more [0] (by kernel_rfl) (by simp) fun i hi => ?_
    obtain rfl := List.mem_singleton.1 hi
    refine ⟨op35 0, by kernel_rfl, _, st35_0 call (by rw [u _ _ _ _ (by decide)]; exact l9), ?_⟩
    refine AnyRun.more [2] (by kernel_rfl) (by simp) fun i hi => ?_
    obtain rfl := List.mem_singleton.1 hi
    refine ⟨op35 2, by kernel_rfl, _, st35_2 call (by rw [u _ _ _ _ (by decide), u _ _ _ _ (by decide), us]; exact s4), ?_⟩
    refine AnyRun.more [3] (by kernel_rfl) (by simp) fun i hi => ?_
    obtain rfl := List.mem_singleton.1 hi
    refine ⟨op35 3, by kernel_rfl, _, st35_3 call (by rw [u _ _ _ _ (by decide), u _ _ _ _ (by decide), u _ _ _ _ (by decide), us]; exact s5), by kernel_rfl, fin _ fun t h1 h2 => ?_⟩
    rw [u _ _ _ _ h1, u _ _ _ _ h2]

end Go.Vab

/-
  The document's keys, walked to their end.
-/
namespace Go.Vab
open Go Go.Proofs

/-- The bytes of the blocks' first halves, in a row. -/
def rowK (key nonce : Nat → BitVec 8) : Nat → BitVec 8 := fun j => kF key nonce (j / 8) (j % 8)
def H35 (h : Heap) (key nonce a e : Nat → BitVec 8) (x : Blk) (m : Nat) (f : Nat → BitVec 8) (tr : Heap) : Heap :=
  h ++ (⟨arr 32 key, 0, .own⟩ :: ⟨arr 12 nonce, 0, .own⟩ :: ⟨arr 16 a, 0, .own⟩ :: ⟨arr 32 e, 0, .own⟩ :: ⟨arr 256 sbF, 0, .own⟩ :: x :: ⟨arr m f, m, .open⟩ :: tr)
def B35 (L : Nat) (env : Env) : Prop := env.get 2 = .ptr L 0 [] (.arr 32 (.int .u8)) ∧ env.get 3 = .ptr (L + 1) 0 [] (.arr 12 (.int .u8)) ∧ env.get 4 = .ptr (L + 2) 0 [] (.arr 16 (.int .u8)) ∧ env.get 5 = .ptr (L + 3) 0 [] (.arr 32 (.int .u8)) ∧ env.get 6 = .ptr (L + 4) 0 [] (.arr 256 (.int .u8))
theorem B35.same {L : Nat} {env env' : Env} (h : B35 L env) (hs : Same [2, 3, 4, 5, 6] env env') : B35 L env' :=
  ⟨by rw [hs.get 2 rfl]; exact h.1, by rw [hs.get 3 rfl]; exact h.2.1, by rw [hs.get 4 rfl]; exact h.2.2.1, by rw [hs.get 5 rfl]; exact h.2.2.2.1, by rw [hs.get 6 rfl]; exact h.2.2.2.2⟩

def zF16 : Nat → BitVec 8 := fun _ => 0#8

set_option maxHeartbeats 1000000 in
theorem rows35 (h : Heap) (key nonce : Nat → BitVec 8) (env : Env) (hB : B35 h.length env) (e7 : env.get 7 = .nilslice) (e8 : env.get 8 = nat 0) :
    Evs (evLoop (evC (cx35 callS23) n35_7) ⟨env, h ++ [⟨arr 32 key, 0, .own⟩, ⟨arr 12 nonce, 0, .own⟩, ⟨arr 16 zF16, 0, .own⟩, ⟨arr 32 zF16, 0, .own⟩, ⟨arr 256 sbF, 0, .own⟩]⟩) (fun r => ∃ env' x f tr, r = (.exit 0, ⟨env', H35 h key nonce zF16 zF16 x 48 f tr⟩) ∧ B35 h.length env' ∧ env'.get 7 = .slice (h.length + 6) 48 [] (.int .u8) 0 48 none ∧ ∀ j, j < 48 → f j = rowK key nonce j) := by
  refine Evs.up 6 (fun i s => ∃ env', Same [2, 3, 4, 5, 6] env env' ∧ env'.get 8 = nat i ∧ ((i = 0 ∧ s = ⟨env', h ++ [⟨arr 32 key, 0, .own⟩, ⟨arr 12 nonce, 0, .own⟩, ⟨arr 16 zF16, 0, .own⟩, ⟨arr 32 zF16, 0, .own⟩, ⟨arr 256 sbF, 0, .own⟩]⟩ ∧ env'.get 7 = .nilslice) ∨
      (0 < i ∧ ∃ x f tr, s = ⟨env', H35 h key nonce zF16 zF16 x (8 * i) f tr⟩ ∧ env'.get 7 = .slice (h.length + 6) (8 * i) [] (.int .u8) 0 (8 * i) none ∧ ∀ j, j < 8 * i → f j = rowK key nonce j))) ?_ ?_
    ⟨env, Same.refl _ _, e8, .inl ⟨rfl, rfl, e7⟩⟩
  · rintro i s hi ⟨env', hs, f8, hor⟩
    obtain ⟨b2, b3, b4, b5, b6⟩ := hB.same hs
    rcases hor with ⟨rfl, rfl, f7⟩ | ⟨hpos, x, f, tr, rfl, f7, hf⟩
    · repeat (first | (with_reducible refine Evs.assoc ?_) | ((with_reducible refine Evs.some_bnd ?_); try dsimp only [sqK_nrm, sqK_exit, sqK_ret]) | ((with_reducible apply Evs.bcndT); (focus (simp (disch := omega) [b2, b3, b6, f7, f8] <;> omega))) | ((with_reducible apply Evs.bcndF); (focus (simp (disch := omega) [b2, b3, b6, f7, f8] <;> omega))) | ((with_reducible apply Evs.step); (focus ((conv => lhs; simp (disch := omega) [b2, b3, b6, f7, f8]); done)); try dsimp only) | (simp only [sn35, snB]))
      refine Evs.ret ⟨rfl, _, by repeat (first | exact hs | refine Same.put rfl ?_), by simp, .inr ⟨by omega, _, _, [], rfl, by simp, fun j hj => ?_⟩⟩
      unfold rowK
      rw [show j / 8 = 0 by omega, show j % 8 = j by omega]
    · unfold H35
      repeat (first | (with_reducible refine Evs.assoc ?_) | ((with_reducible refine Evs.some_bnd ?_); try dsimp only [sqK_nrm, sqK_exit, sqK_ret]) | ((with_reducible apply Evs.bcndT); (focus (simp (disch := omega) [b2, b3, b6, f7, f8] <;> omega))) | ((with_reducible apply Evs.bcndF); (focus (simp (disch := omega) [b2, b3, b6, f7, f8] <;> omega))) | ((with_reducible apply Evs.step); (focus ((conv => lhs; simp (disch := omega) [b2, b3, b6, f7, f8]); done)); try dsimp only) | (simp only [sn35, snB]))
      refine Evs.ret ⟨rfl, _, by repeat (first | exact hs | refine Same.put rfl ?_), by simp, .inr ⟨by omega, _, _, _, rfl, by simp; rfl, fun j hj => ?_⟩⟩
      by_cases hlt : j < 8 * i
      · simp only [hlt, if_true]; exact hf j hlt
      · simp only [hlt, if_false]
        unfold rowK
        rw [show j / 8 = i by omega, show j % 8 = j - 8 * i by omega]
  · rintro s ⟨env', hs, f8, hor⟩
    rcases hor with ⟨h0, _, _⟩ | ⟨hpos, x, f, tr, rfl, f7, hf⟩
    · omega
    · repeat (first | (with_reducible refine Evs.assoc ?_) | ((with_reducible refine Evs.some_bnd ?_); try dsimp only [sqK_nrm, sqK_exit, sqK_ret]) | ((with_reducible apply Evs.bcndT); (focus (simp (disch := omega) [f8] <;> omega))) | ((with_reducible apply Evs.bcndF); (focus (simp (disch := omega) [f8] <;> omega))) | ((with_reducible apply Evs.step); (focus ((conv => lhs; simp (disch := omega) [f8]); done)); try dsimp only) | (simp only [sn35, snB]))
      exact Evs.ret ⟨by simp, _, x, f, tr, rfl, (hB.same hs).same (by repeat (first | exact Same.refl _ _ | refine Same.put rfl ?_)), by simp [f7], hf⟩

def G35 (h : Heap) (key nonce : Nat → BitVec 8) (x : Blk) (f : Nat → BitVec 8) (tr : Heap) (a e : Nat → BitVec 8) : Heap :=
  h ++ (⟨arr 32 key, 0, .own⟩ :: ⟨arr 12 nonce, 0, .own⟩ :: ⟨arr 16 zF16, 0, .own⟩ :: ⟨arr 32 zF16, 0, .own⟩ :: ⟨arr 256 sbF, 0, .own⟩ :: x :: ⟨arr 48 f, 48, .open⟩ :: (tr ++ [⟨arr 16 a, 0, .own⟩, ⟨arr 32 e, 0, .own⟩]))
def C35 (L T : Nat) (env : Env) : Prop := env.get 4 = .ptr (L + 2) 0 [] (.arr 16 (.int .u8)) ∧ env.get 5 = .ptr (L + 3) 0 [] (.arr 32 (.int .u8)) ∧ env.get 7 = .slice (L + 6) 48 [] (.int .u8) 0 48 none ∧ env.get 9 = .ptr (L + (T + 1 + 1 + 1 + 1 + 1 + 1 + 1)) 0 [] (.arr 16 (.int .u8)) ∧ env.get 10 = .ptr (L + (T + 1 + 1 + 1 + 1 + 1 + 1 + 1 + 1)) 0 [] (.arr 32 (.int .u8))

set_option maxHeartbeats 1000000 in
theorem walk35 (h : Heap) (key nonce : Nat → BitVec 8) : ∃ t, evBody (cx35 callS23) Try.f35 n35_0 [arr 32 key, arr 12 nonce] h = some (.tuple [arr 16 (keyA key nonce), arr 32 (keyE key nonce)], h ++ t) := by
  rw [b35]
  have main : Evs (evC (cx35 callS23) n35_0 ⟨[(0, arr 32 key), (1, arr 12 nonce), (2, .junk), (3, .junk), (4, .junk), (5, .junk), (6, .junk), (7, .junk), (8, .junk), (9, .junk), (10, .junk), (11, .junk), (12, .junk), (15, .junk), (26, .junk), (36, .junk)], h⟩) (fun r => ∃ env t, r = (.ret, ⟨env, h ++ t⟩) ∧ mLoad (.arr 16 (.int .u8)) (env.get 4) (h ++ t) = some (arr 16 (keyA key nonce)) ∧ mLoad (.arr 32 (.int .u8)) (env.get 5) (h ++ t) = some (arr 32 (keyE key nonce))) := by
    obtain ⟨env, he⟩ : ∃ env : Env, env = [(0, arr 32 key), (1, arr 12 nonce), (2, .junk), (3, .junk), (4, .junk), (5, .junk), (6, .junk), (7, .junk), (8, .junk), (9, .junk), (10, .junk), (11, .junk), (12, .junk), (15, .junk), (26, .junk), (36, .junk)] := ⟨_, rfl⟩
    rw [← he]
    have g0 : env.get 0 = arr 32 key := by rw [he]; rfl
    have g1 : env.get 1 = arr 12 nonce := by rw [he]; rfl
    clear he
    repeat (first | (with_reducible refine Evs.assoc ?_) | ((with_reducible refine Evs.some_bnd ?_); try dsimp only [sqK_nrm, sqK_exit, sqK_ret]) | ((with_reducible apply Evs.bcndT); (focus (simp (disch := omega) [g0, g1] <;> omega))) | ((with_reducible apply Evs.bcndF); (focus (simp (disch := omega) [g0, g1] <;> omega))) | ((with_reducible apply Evs.step); (focus ((conv => lhs; simp (disch := omega) [g0, g1]); done)); try dsimp only) | (simp only [sn35, snB]))
    refine Evs.bnd (rows35 h key nonce _ ?_ ?_ ?_) ?_
    · exact ⟨by simp, by simp, by simp, by simp, by simp⟩
    · simp
    · simp
    rintro r ⟨env1, x, f, tr, rfl, hB, e7, hf⟩
    unfold H35
    repeat (first | (with_reducible refine Evs.assoc ?_) | ((with_reducible refine Evs.some_bnd ?_); try dsimp only [sqK_nrm, sqK_exit, sqK_ret]) | ((with_reducible apply Evs.bcndT); (focus (simp (disch := omega) <;> omega))) | ((with_reducible apply Evs.bcndF); (focus (simp (disch := omega) <;> omega))) | ((with_reducible apply Evs.step); (focus ((conv => lhs; simp (disch := omega)); done)); try dsimp only) | (simp only [sn35, snB]))
    refine Evs.bnd (Q := fun r => ∃ env2 a, r = (.exit 2, ⟨env2, G35 h key nonce x f tr a zF16⟩) ∧ C35 h.length tr.length env2 ∧ ∀ j, j < 16 → a j = keyA key nonce j) ?_ ?_
    · refine Evs.up 16 (fun i s => ∃ env2 a, s = ⟨env2, G35 h key nonce x f tr a zF16⟩ ∧ C35 h.length tr.length env2 ∧ env2.get 11 = nat i ∧ ∀ j, j < i → a j = keyA key nonce j) ?_ ?_
        ⟨_, _, rfl, ⟨by simp [hB.2.2.1], by simp [hB.2.2.2.1], by simp [e7], by simp, by simp⟩, by simp, fun j hj => absurd hj (by omega)⟩
      · rintro i s hi ⟨env2, a, rfl, ⟨c4, c5, c7, c9, c10⟩, c11, ha⟩
        have hi48 : i < 48 := by omega
        unfold G35
        repeat (first | (with_reducible refine Evs.assoc ?_) | ((with_reducible refine Evs.some_bnd ?_); try dsimp only [sqK_nrm, sqK_exit, sqK_ret]) | ((with_reducible apply Evs.bcndT); (focus (simp (disch := omega) [c7, c9, c11] <;> omega))) | ((with_reducible apply Evs.bcndF); (focus (simp (disch := omega) [c7, c9, c11] <;> omega))) | ((with_reducible apply Evs.step); (focus ((conv => lhs; simp (disch := omega) [c7, c9, c11]); done)); try dsimp only) | (simp only [sn35, snB]))
        refine Evs.ret ⟨rfl, _, _, rfl, ⟨by simp [c4], by simp [c5], by simp [c7], by simp [c9], by simp [c10]⟩, by simp, fun j hj => ?_⟩
        by_cases hji : j = i
        · subst hji
          rw [upd_same, hf j hi48]; rfl
        · rw [upd_ne _ _ hji]; exact ha j (by omega)
      · rintro s ⟨env2, a, rfl, ⟨c4, c5, c7, c9, c10⟩, c11, ha⟩
        repeat (first | (with_reducible refine Evs.assoc ?_) | ((with_reducible refine Evs.some_bnd ?_); try dsimp only [sqK_nrm, sqK_exit, sqK_ret]) | ((with_reducible apply Evs.bcndT); (focus (simp (disch := omega) [c11] <;> omega))) | ((with_reducible apply Evs.bcndF); (focus (simp (disch := omega) [c11] <;> omega))) | ((with_reducible apply Evs.step); (focus ((conv => lhs; simp (disch := omega) [c11]); done)); try dsimp only) | (simp only [sn35, snB]))
        exact Evs.ret ⟨by simp, _, a, rfl, ⟨by simp [c4], by simp [c5], by simp [c7], by simp [c9], by simp [c10]⟩, ha⟩
    rintro r ⟨env2, a, rfl, ⟨c4, c5, c7, c9, c10⟩, ha⟩
    repeat (first | (with_reducible refine Evs.assoc ?_) | ((with_reducible refine Evs.some_bnd ?_); try dsimp only [sqK_nrm, sqK_exit, sqK_ret]) | ((with_reducible apply Evs.bcndT); (focus (simp (disch := omega) <;> omega))) | ((with_reducible apply Evs.bcndF); (focus (simp (disch := omega) <;> omega))) | ((with_reducible apply Evs.step); (focus ((conv => lhs; simp (disch := omega)); done)); try dsimp only) | (simp only [sn35, snB]))
    refine Evs.bnd (Q := fun r => ∃ env3 e, r = (.exit 4, ⟨env3, G35 h key nonce x f tr a e⟩) ∧ C35 h.length tr.length env3 ∧ ∀ j, j < 32 → e j = keyE key nonce j) ?_ ?_
    · refine Evs.up 32 (fun i s => ∃ env3 e, s = ⟨env3, G35 h key nonce x f tr a e⟩ ∧ C35 h.length tr.length env3 ∧ env3.get 12 = nat i ∧ ∀ j, j < i → e j = keyE key nonce j) ?_ ?_
        ⟨_, _, rfl, ⟨by simp [c4], by simp [c5], by simp [c7], by simp [c9], by simp [c10]⟩, by simp, fun j hj => absurd hj (by omega)⟩
      · rintro i s hi ⟨env3, e, rfl, ⟨d4, d5, d7, d9, d10⟩, d12, he⟩
        have hi48 : 16 + i < 48 := by omega
        unfold G35
        repeat (first | (with_reducible refine Evs.assoc ?_) | ((with_reducible refine Evs.some_bnd ?_); try dsimp only [sqK_nrm, sqK_exit, sqK_ret]) | ((with_reducible apply Evs.bcndT); (focus (simp (disch := omega) [d7, d10, d12] <;> omega))) | ((with_reducible apply Evs.bcndF); (focus (simp (disch := omega) [d7, d10, d12] <;> omega))) | ((with_reducible apply Evs.step); (focus ((conv => lhs; simp (disch := omega) [d7, d10, d12]); done)); try dsimp only) | (simp only [sn35, snB]))
        refine Evs.ret ⟨rfl, _, _, rfl, ⟨by simp [d4], by simp [d5], by simp [d7], by simp [d9], by simp [d10]⟩, by simp, fun j hj => ?_⟩
        by_cases hji : j = i
        · subst hji
          rw [upd_same, hf (16 + j) hi48]
          unfold rowK keyE
          rw [show (16 + j) / 8 = 2 + j / 8 by omega, show (16 + j) % 8 = j % 8 by omega]
        · rw [upd_ne _ _ hji]; exact he j (by omega)
      · rintro s ⟨env3, e, rfl, ⟨d4, d5, d7, d9, d10⟩, d12, he⟩
        repeat (first | (with_reducible refine Evs.assoc ?_) | ((with_reducible refine Evs.some_bnd ?_); try dsimp only [sqK_nrm, sqK_exit, sqK_ret]) | ((with_reducible apply Evs.bcndT); (focus (simp (disch := omega) [d12] <;> omega))) | ((with_reducible apply Evs.bcndF); (focus (simp (disch := omega) [d12] <;> omega))) | ((with_reducible apply Evs.step); (focus ((conv => lhs; simp (disch := omega) [d12]); done)); try dsimp only) | (simp only [sn35, snB]))
        exact Evs.ret ⟨by simp, _, e, rfl, ⟨by simp [d4], by simp [d5], by simp [d7], by simp [d9], by simp [d10]⟩, he⟩
    rintro r ⟨env3, e, rfl, ⟨d4, d5, d7, d9, d10⟩, he⟩
    unfold G35
    repeat (first | (with_reducible refine Evs.assoc ?_) | ((with_reducible refine Evs.some_bnd ?_); try dsimp only [sqK_nrm, sqK_exit, sqK_ret]) | ((with_reducible apply Evs.bcndT); (focus (simp (disch := omega) [d4, d5, d9, d10] <;> omega))) | ((with_reducible apply Evs.bcndF); (focus (simp (disch := omega) [d4, d5, d9, d10] <;> omega))) | ((with_reducible apply Evs.step); (focus ((conv => lhs; simp (disch := omega) [d4, d5, d9, d10]); done)); try dsimp only) | (simp only [sn35, snB]))
    have hany := any35 callS23 (env := env3) (H := G35 h key nonce x f tr a e) (a := arr 16 a) (e := arr 32 e)
      (H1 := h ++ (⟨arr 32 key, 0, .own⟩ :: ⟨arr 12 nonce, 0, .own⟩ :: ⟨arr 16 a, 0, .own⟩ :: ⟨arr 32 zF16, 0, .own⟩ :: ⟨arr 256 sbF, 0, .own⟩ :: x :: ⟨arr 48 f, 48, .open⟩ :: (tr ++ [⟨arr 16 a, 0, .own⟩, ⟨arr 32 e, 0, .own⟩])))
      (H2 := h ++ (⟨arr 32 key, 0, .own⟩ :: ⟨arr 12 nonce, 0, .own⟩ :: ⟨arr 16 a, 0, .own⟩ :: ⟨arr 32 e, 0, .own⟩ :: ⟨arr 256 sbF, 0, .own⟩ :: x :: ⟨arr 48 f, 48, .open⟩ :: (tr ++ [⟨arr 16 a, 0, .own⟩, ⟨arr 32 e, 0, .own⟩])))
      (by simp [d9, G35]) (by simp [d10, G35]) (by simp [d4, G35]) (by simp [d10]) (by simp [d5])
    refine Evs.step (a := (.nrm, ⟨env3, h ++ (⟨arr 32 key, 0, .own⟩ :: ⟨arr 12 nonce, 0, .own⟩ :: ⟨arr 16 a, 0, .own⟩ :: ⟨arr 32 e, 0, .own⟩ :: ⟨arr 256 sbF, 0, .own⟩ :: x :: ⟨arr 48 f, 48, .open⟩ :: (tr ++ [⟨arr 16 a, 0, .own⟩, ⟨arr 32 e, 0, .own⟩]))⟩)) (by unfold anyK; exact if_pos hany) ?_
    repeat (first | (with_reducible refine Evs.assoc ?_) | ((with_reducible refine Evs.some_bnd ?_); try dsimp only [sqK_nrm, sqK_exit, sqK_ret]) | ((with_reducible apply Evs.bcndT); (focus (simp (disch := omega) <;> omega))) | ((with_reducible apply Evs.bcndF); (focus (simp (disch := omega) <;> omega))) | ((with_reducible apply Evs.step); (focus ((conv => lhs; simp (disch := omega)); done)); try dsimp only) | (simp only [sn35, snB]))
    refine Evs.ret ⟨_, _, rfl, ?_, ?_⟩
    · simp [d4]; exact arr_congr ha
    · simp [d5]; exact arr_congr he
  obtain ⟨r, hr, env, t, rfl, e0, e1⟩ := main
  refine ⟨t, ?_⟩
  rw [hr]
  simp [e0, e1, oneOrTuple]

noncomputable def c35 := conC (fun x : (Nat → BitVec 8) × (Nat → BitVec 8) => [arr 32 x.1, arr 12 x.2]) (fun (x : (Nat → BitVec 8) × (Nat → BitVec 8)) h => True) (fun (x : (Nat → BitVec 8) × (Nat → BitVec 8)) h => (.tuple [arr 16 (keyA x.1 x.2), arr 32 (keyE x.1 x.2)], h))
noncomputable def callS24 : Calling := addC callS23 35 c35
theorem c35_eq (k : Nat → BitVec 8) (n : Nat → BitVec 8) (h : Heap) : c35 [arr 32 k, arr 12 n] h = some (.tuple [arr 16 (keyA k n), arr 32 (keyE k n)], h) :=
  conC_eq (enc := fun x : (Nat → BitVec 8) × (Nat → BitVec 8) => [arr 32 x.1, arr 12 x.2]) (P := fun (x : (Nat → BitVec 8) × (Nat → BitVec 8)) h => True) (a := (k, n)) (f := fun (x : (Nat → BitVec 8) × (Nat → BitVec 8)) h => (.tuple [arr 16 (keyA x.1 x.2), arr 32 (keyE x.1 x.2)], h)) (fun x y h e => by
    have e1 := arr_inj.1 (List.cons.inj e).1
    have e2 := arr_inj.1 (List.cons.inj (List.cons.inj e).2).1
    show (AV.tuple [_, _], _) = (AV.tuple [_, _], _)
    rw [arr_congr (keyA_congr e1 e2), arr_congr (keyE_congr e1 e2)]
    ) trivial
theorem callS24_ok : CallOK Try.prog callS24 := addC_con callS23_ok k35 fun x h hx => by
  obtain ⟨t, ht⟩ := walk35 h x.1 x.2
  exact (s35 callS23_ok ht).drop0 t rfl
@[simp] theorem callS24_ne {f : Nat} (args : List AV) (h : Heap) (hf : f ≠ 35) : callS24 f args h = callS23 f args h := addC_ne _ _ _ args h hf
@[simp] theorem callS24_sne {f : Nat} (args : List AV) (h : Heap) (hf : f ≠ 35) : still callS24 f args h = still callS23 f args h := still_ne _ _ _ args h hf
@[simp] theorem callS24_35 (k : Nat → BitVec 8) (n : Nat → BitVec 8) (h : Heap) : callS24 35 [arr 32 k, arr 12 n] h = some (.tuple [arr 16 (keyA k n), arr 32 (keyE k n)], h) := by
  unfold callS24; rw [addC_same]; exact c35_eq k n h
@[simp] theorem callS24_35s (k : Nat → BitVec 8) (n : Nat → BitVec 8) (h : Heap) : still callS24 35 [arr 32 k, arr 12 n] h = some (.tuple [arr 16 (keyA k n), arr 32 (keyE k n)], h) := still_of fun t => by simp

end Go.Vab

/- How the evaluator reads the functions of a seat. Printed by wip/tools/gen.py (own work). -/
namespace Go.Vab
open Go Go.Proofs
noncomputable section
variable (call : Calling) (env : Env) (h : Heap) (s : St)
/-! vestry/vestryref09.length -/
def cx61 (call : Calling) : Ctx := ⟨call, TT, 22, [6, 7, 8, 9, 11, 12, 13, 14, 15, 16, 17, 18, 19, 20, 21]⟩
def n61_0 : Code := bodyOf Try.f61
def n61_1 : Code := cR n61_0
def n61_2 : Code := cR n61_1
def n61_3 : Code := cR n61_2
def n61_4 : Code := cL n61_3
def n61_5 : Code := cR n61_4
def n61_6 : Code := cB n61_5
def n61_7 : Code := cB n61_6
def n61_8 : Code := cL n61_7
def n61_9 : Code := cR n61_8
def n61_10 : Code := cL n61_9
def n61_11 : Code := cR n61_9
def n61_12 : Code := cR n61_7
def n61_13 : Code := cL n61_12
def n61_14 : Code := cB n61_13
def n61_15 : Code := cR n61_14
def n61_16 : Code := cR n61_12
def n61_17 : Code := cR n61_3
def n61_18 : Code := cR n61_17
@[simp] theorem n61_10_eq : evC (cx61 call) n61_10 s = some (.nrm, s) := xK
@[simp] theorem n61_11_eq : evC (cx61 call) n61_11 s = some (.exit 0, s) := xX 0
@[simp] theorem n61_9_eq : evC (cx61 call) n61_9 s = cnd (s.env.get 10) (evC (cx61 call) n61_10 s) (evC (cx61 call) n61_11 s) := xC 10 _ _
@[simp] theorem n61_8_eq : evC (cx61 call) n61_8 ⟨env, h⟩ = (bnd (pureV h (mBin .lss (env.get 5) (nat 8))) fun r1 => evC (cx61 call) n61_9 ⟨(Env.put env 10 r1.1), r1.2⟩) := (xSR 4 (cOps (cL n61_8)) (cR n61_8)).trans (by
  refine opsK_0 ?_
  refine oT 9 (env.get 5) ?_
  refine oP 10 fun r1 => ?_
  exact oE)
@[simp] theorem n61_15_eq : evC (cx61 call) n61_15 ⟨env, h⟩ = (bnd (pureV h (mBin .quo (env.get 4) (u64 256#64))) fun r1 => some (.nrm, ⟨(Env.put env 4 r1.1), r1.2⟩)) := (xR 7 (cOps n61_15)).trans (by
  refine opsK_0 ?_
  refine oT 19 (env.get 4) ?_
  refine oP 20 fun r1 => ?_
  refine oT 4 r1.1 ?_
  exact oE)
@[simp] theorem n61_14_eq : evC (cx61 call) n61_14 ⟨env, h⟩ = (bnd (pureV h (mBin .rem (env.get 4) (u64 256#64))) fun r2 => bnd (pureV r2.2 (mConv .u8 r2.1)) fun r3 => bnd (mBuildSlice (.int .u8) (u8 0#8) 1 [(0, r3.1)] r3.2) fun r4 => bnd (mApp (.int .u8) 1 (env.get 3) r4.1 r4.2) fun r5 => evC (cx61 call) n61_15 ⟨(Env.put env 3 r5.1), r5.2⟩) := (xSR 6 (cOps (cL n61_14)) (cR n61_14)).trans (by
  refine opsK_0 ?_
  refine oT 13 (env.get 3) ?_
  refine oT 14 (env.get 4) ?_
  refine oP 15 fun r2 => ?_
  refine oP 16 fun r3 => ?_
  refine oP 17 fun r4 => ?_
  refine oP 18 fun r5 => ?_
  refine oT 3 r5.1 ?_
  exact oE)
@[simp] theorem n61_13_eq : evC (cx61 call) n61_13 s = bnd (evC (cx61 call) n61_14 s) fun r => some (inBlk 1 r) := xB 1 _
@[simp] theorem n61_16_eq : evC (cx61 call) n61_16 ⟨env, h⟩ = (bnd (pureV h (mBin .add (env.get 5) (nat 1))) fun r1 => some (.nrm, ⟨(Env.put env 5 r1.1), r1.2⟩)) := (xR 5 (cOps n61_16)).trans (by
  refine opsK_0 ?_
  refine oT 11 (env.get 5) ?_
  refine oP 12 fun r1 => ?_
  refine oT 5 r1.1 ?_
  exact oE)
@[simp] theorem n61_12_eq : evC (cx61 call) n61_12 s = bnd (evC (cx61 call) n61_13 s) (sqK (evC (cx61 call) n61_16)) := xS _ _
@[simp] theorem n61_7_eq : evC (cx61 call) n61_7 s = bnd (evC (cx61 call) n61_8 s) (sqK (evC (cx61 call) n61_12)) := xS _ _
@[simp] theorem n61_6_eq : evC (cx61 call) n61_6 s = evLoop (evC (cx61 call) n61_7) s := xL _
@[simp] theorem n61_5_eq : evC (cx61 call) n61_5 s = bnd (evC (cx61 call) n61_6 s) fun r => some (inBlk 0 r) := xB 0 _
@[simp] theorem n61_4_eq : evC (cx61 call) n61_4 ⟨env, h⟩ = ( evC (cx61 call) n61_5 ⟨(Env.put env 5 (nat 0)), h⟩) := (xSR 3 (cOps (cL n61_4)) (cR n61_4)).trans (by
  refine opsK_0 ?_
  refine oT 5 (nat 0) ?_
  exact oE)
@[simp] theorem n61_18_eq : evC (cx61 call) n61_18 s = some (.ret, s) := xE
@[simp] theorem n61_17_eq : evC (cx61 call) n61_17 ⟨env, h⟩ = ( evC (cx61 call) n61_18 ⟨(Env.put env 2 (env.get 3)), h⟩) := (xSR 8 (cOps (cL n61_17)) (cR n61_17)).trans (by
  refine opsK_0 ?_
  refine oT 21 (env.get 3) ?_
  refine oT 2 (env.get 3) ?_
  exact oE)
@[simp] theorem n61_3_eq : evC (cx61 call) n61_3 s = bnd (evC (cx61 call) n61_4 s) (sqK (evC (cx61 call) n61_17)) := xS _ _
@[simp] theorem n61_2_eq : evC (cx61 call) n61_2 ⟨env, h⟩ = (bnd (pureV h (mConv .u64 (env.get 0))) fun r1 => bnd (pureV r1.2 (mBin .mul r1.1 (u64 8#64))) fun r2 => evC (cx61 call) n61_3 ⟨(Env.put env 4 r2.1), r2.2⟩) := (xSR 2 (cOps (cL n61_2)) (cR n61_2)).trans (by
  refine opsK_0 ?_
  refine oT 6 (env.get 0) ?_
  refine oP 7 fun r1 => ?_
  refine oP 8 fun r2 => ?_
  refine oT 4 r2.1 ?_
  exact oE)
@[simp] theorem n61_1_eq : evC (cx61 call) n61_1 ⟨env, h⟩ = ( evC (cx61 call) n61_2 ⟨(Env.put env 3 .nilslice), h⟩) := (xSR 1 (cOps (cL n61_1)) (cR n61_1)).trans (by
  refine opsK_0 ?_
  refine oT 3 .nilslice ?_
  exact oE)
@[simp] theorem n61_0_eq : evC (cx61 call) n61_0 ⟨env, h⟩ = ( evC (cx61 call) n61_1 ⟨(Env.put env 2 .nilslice), h⟩) := (xSR 0 (cOps (cL n61_0)) (cR n61_0)).trans (by
  refine opsK_0 ?_
  refine oT 2 .nilslice ?_
  exact oE)
theorem b61 (call : Calling) (a0 : AV) (h : Heap) : evBody (cx61 call) Try.f61 n61_0 [a0] h = bnd (evC (cx61 call) n61_0 ⟨[(0, a0), (1, .junk), (2, .junk), (3, .junk), (4, .junk), (5, .junk), (10, .junk)], h⟩) (retK fun s => bnd (bnd (some (s.env.get 2)) fun v => bnd (some []) fun vs => some (v :: vs)) fun vs => some (oneOrTuple vs)) := by kernel_rfl
theorem fn61 : Try.prog.funcs[61]? = some Try.f61 := by kernel_rfl
theorem k61 : Callable Try.prog 61 := ⟨Try.f61, fn61, by kernel_rfl, by kernel_rfl⟩
theorem s61 {call : Calling} (hc : CallOK Try.prog call) {args : List AV} {h h' : Heap} {v : AV} (he : evBody (cx61 call) Try.f61 n61_0 args h = some (v, h')) : Spec Try.prog 61 args h v h' := body_sound (C := cx61 call) TT_ok hc mixed_ok fn61 (by kernel_rfl) (by kernel_rfl) he
def sn61 := Y n61_10_eq (Y n61_11_eq (Y n61_9_eq (Y n61_8_eq (Y n61_15_eq (Y n61_14_eq (Y n61_13_eq (Y n61_16_eq (Y n61_12_eq (Y n61_7_eq (Y n61_6_eq (Y n61_5_eq (Y n61_4_eq (Y n61_18_eq (Y n61_17_eq (Y n61_3_eq (Y n61_2_eq (Y n61_1_eq (n61_0_eq))))))))))))))))))
end
end Go.Vab

/- How the evaluator reads the functions of a seat. Printed by wip/tools/gen.py (own work). -/
namespace Go.Vab
open Go Go.Proofs
noncomputable section
variable (call : Calling) (env : Env) (h : Heap) (s : St)
/-! vestry/vestryref09.Tag -/
def cx47 (call : Calling) : Ctx := ⟨call, TT, 59, [14, 15, 16, 17, 18, 19, 20, 21, 22, 23, 24, 25, 26, 27, 28, 29, 30, 31, 32, 33, 34, 35, 36, 37, 38, 39, 41, 42, 43, 44, 45, 46, 47, 48, 49, 50, 51, 52, 53, 54, 55, 56, 57, 58]⟩
def n47_0 : Code := bodyOf Try.f47
def n47_1 : Code := cR n47_0
def n47_2 : Code := cR n47_1
def n47_3 : Code := cR n47_2
def n47_4 : Code := cR n47_3
def n47_5 : Code := cR n47_4
def n47_6 : Code := cR n47_5
def n47_7 : Code := cR n47_6
def n47_8 : Code := cL n47_7
def n47_9 : Code := cR n47_8
def n47_10 : Code := cB n47_9
def n47_11 : Code := cB n47_10
def n47_12 : Code := cL n47_11
def n47_13 : Code := cR n47_12
def n47_14 : Code := cL n47_13
def n47_15 : Code := cR n47_13
def n47_16 : Code := cR n47_11
def n47_17 : Code := cL n47_16
def n47_18 : Code := cB n47_17
def n47_19 : Code := cR n47_16
def n47_20 : Code := cR n47_7
def n47_21 : Code := cR n47_20
def n47_22 : Code := cR n47_21
@[simp] theorem n47_14_eq : evC (cx47 call) n47_14 s = some (.nrm, s) := xK
@[simp] theorem n47_15_eq : evC (cx47 call) n47_15 s = some (.exit 0, s) := xX 0
@[simp] theorem n47_13_eq : evC (cx47 call) n47_13 s = cnd (s.env.get 40) (evC (cx47 call) n47_14 s) (evC (cx47 call) n47_15 s) := xC 40 _ _
@[simp] theorem n47_12_eq : evC (cx47 call) n47_12 ⟨env, h⟩ = (bnd (pureV h (mBin .lss (env.get 13) (nat 12))) fun r1 => evC (cx47 call) n47_13 ⟨(Env.put env 40 r1.1), r1.2⟩) := (xSR 8 (cOps (cL n47_12)) (cR n47_12)).trans (by
  refine opsK_0 ?_
  refine oT 39 (env.get 13) ?_
  refine oP 40 fun r1 => ?_
  exact oE)
theorem n47_18_ok : drawOk (cOps n47_18).toList = true := by kernel_rfl
@[simp] theorem n47_18_eq : evC (cx47 call) n47_18 ⟨env, h⟩ = (bnd (pureV h (mIdxA (.arr 16 (.int .u8)) (env.get 12) (env.get 13))) fun r2 => bnd (pureV r2.2 (mLoad (.int .u8) r2.1 r2.2)) fun r3 => bnd (pureV r3.2 (mIdxA (.arr 12 (.int .u8)) (env.get 5) (env.get 13))) fun r5 => bnd (pureV r5.2 (mLoad (.int .u8) r5.1 r5.2)) fun r6 => bnd (pureV r6.2 (mBin .xor r3.1 r6.1)) fun r7 => bnd (pureV r7.2 (mIdxA (.arr 16 (.int .u8)) (env.get 12) (env.get 13))) fun r8 => bnd (stU (.int .u8) r8.1 r7.1 r8.2) fun r9 => some (.nrm, ⟨env, r9.2⟩)) := (xD 10 (cOps n47_18) n47_18_ok).trans (by
  refine opsK_0 ?_
  refine oT 43 (env.get 13) ?_
  refine oT 44 (env.get 13) ?_
  refine oP 45 fun r2 => ?_
  refine oP 46 fun r3 => ?_
  refine oT 47 (env.get 13) ?_
  refine oP 48 fun r5 => ?_
  refine oP 49 fun r6 => ?_
  refine oP 50 fun r7 => ?_
  refine oP 51 fun r8 => ?_
  refine oN fun r9 => ?_
  exact oE)
@[simp] theorem n47_17_eq : evC (cx47 call) n47_17 s = bnd (evC (cx47 call) n47_18 s) fun r => some (inBlk 1 r) := xB 1 _
@[simp] theorem n47_19_eq : evC (cx47 call) n47_19 ⟨env, h⟩ = (bnd (pureV h (mBin .add (env.get 13) (nat 1))) fun r1 => some (.nrm, ⟨(Env.put env 13 r1.1), r1.2⟩)) := (xR 9 (cOps n47_19)).trans (by
  refine opsK_0 ?_
  refine oT 41 (env.get 13) ?_
  refine oP 42 fun r1 => ?_
  refine oT 13 r1.1 ?_
  exact oE)
@[simp] theorem n47_16_eq : evC (cx47 call) n47_16 s = bnd (evC (cx47 call) n47_17 s) (sqK (evC (cx47 call) n47_19)) := xS _ _
@[simp] theorem n47_11_eq : evC (cx47 call) n47_11 s = bnd (evC (cx47 call) n47_12 s) (sqK (evC (cx47 call) n47_16)) := xS _ _
@[simp] theorem n47_10_eq : evC (cx47 call) n47_10 s = evLoop (evC (cx47 call) n47_11) s := xL _
@[simp] theorem n47_9_eq : evC (cx47 call) n47_9 s = bnd (evC (cx47 call) n47_10 s) fun r => some (inBlk 0 r) := xB 0 _
@[simp] theorem n47_8_eq : evC (cx47 call) n47_8 ⟨env, h⟩ = ( evC (cx47 call) n47_9 ⟨(Env.put env 13 (nat 0)), h⟩) := (xSR 7 (cOps (cL n47_8)) (cR n47_8)).trans (by
  refine opsK_0 ?_
  refine oT 13 (nat 0) ?_
  exact oE)
@[simp] theorem n47_22_eq : evC (cx47 call) n47_22 s = some (.ret, s) := xE
@[simp] theorem n47_21_eq : evC (cx47 call) n47_21 ⟨env, h⟩ = (bnd (pureV h (mLoad (.arr 32 (.int .u8)) (env.get 10) h)) fun r0 => bnd (pureV r0.2 (mLoad (.arr 16 (.int .u8)) (env.get 12) r0.2)) fun r1 => bnd (call 20 [r0.1, r1.1] r1.2) fun r2 => bnd (stU (.arr 16 (.int .u8)) (env.get 8) r2.1 r2.2) fun r3 => evC (cx47 call) n47_22 ⟨env, r3.2⟩) := (xSR 12 (cOps (cL n47_21)) (cR n47_21)).trans (by
  refine opsK_0 ?_
  refine oP 56 fun r0 => ?_
  refine oP 57 fun r1 => ?_
  refine oP 58 fun r2 => ?_
  refine oN fun r3 => ?_
  exact oE)
@[simp] theorem n47_20_eq : evC (cx47 call) n47_20 ⟨env, h⟩ = (bnd (pureV h (mIdxA (.arr 16 (.int .u8)) (env.get 12) (nat 15))) fun r0 => bnd (pureV r0.2 (mLoad (.int .u8) r0.1 r0.2)) fun r1 => bnd (pureV r1.2 (mBin .rem r1.1 (u8 128#8))) fun r2 => bnd (pureV r2.2 (mIdxA (.arr 16 (.int .u8)) (env.get 12) (nat 15))) fun r3 => bnd (stU (.int .u8) r3.1 r2.1 r3.2) fun r4 => evC (cx47 call) n47_21 ⟨env, r4.2⟩) := (xSR 11 (cOps (cL n47_20)) (cR n47_20)).trans (by
  refine opsK_0 ?_
  refine oP 52 fun r0 => ?_
  refine oP 53 fun r1 => ?_
  refine oP 54 fun r2 => ?_
  refine oP 55 fun r3 => ?_
  refine oN fun r4 => ?_
  exact oE)
@[simp] theorem n47_7_eq : evC (cx47 call) n47_7 s = bnd (evC (cx47 call) n47_8 s) (sqK (evC (cx47 call) n47_20)) := xS _ _
@[simp] theorem n47_6_eq : evC (cx47 call) n47_6 ⟨env, h⟩ = (bnd (pureV h (mLoad (.arr 16 (.int .u8)) (env.get 9) h)) fun r0 => bnd (call 36 [r0.1, (env.get 11)] r0.2) fun r2 => bnd (mNew (.arr 16 (.int .u8)) (arr 16 fun _ => 0#8) r2.2) fun r3 => bnd (stU (.arr 16 (.int .u8)) r3.1 r2.1 r3.2) fun r4 => evC (cx47 call) n47_7 ⟨(Env.put env 12 r3.1), r4.2⟩) := (xSR 6 (cOps (cL n47_6)) (cR n47_6)).trans (by
  refine opsK_0 ?_
  refine oP 36 fun r0 => ?_
  refine oT 37 (env.get 11) ?_
  refine oP 38 fun r2 => ?_
  refine oP 12 fun r3 => ?_
  refine oN fun r4 => ?_
  exact oE)
@[simp] theorem n47_5_eq : evC (cx47 call) n47_5 ⟨env, h⟩ = (bnd (pureV h (mLenS (env.get 3))) fun r2 => bnd (call 61 [r2.1] r2.2) fun r3 => bnd (mApp (.int .u8) 1 (env.get 11) r3.1 r3.2) fun r4 => evC (cx47 call) n47_6 ⟨(Env.put env 11 r4.1), r4.2⟩) := (xSR 5 (cOps (cL n47_5)) (cR n47_5)).trans (by
  refine opsK_0 ?_
  refine oT 31 (env.get 11) ?_
  refine oT 32 (env.get 3) ?_
  refine oP 33 fun r2 => ?_
  refine oP 34 fun r3 => ?_
  refine oP 35 fun r4 => ?_
  refine oT 11 r4.1 ?_
  exact oE)
@[simp] theorem n47_4_eq : evC (cx47 call) n47_4 ⟨env, h⟩ = (bnd (pureV h (mLenS (env.get 2))) fun r2 => bnd (call 61 [r2.1] r2.2) fun r3 => bnd (mApp (.int .u8) 1 (env.get 11) r3.1 r3.2) fun r4 => evC (cx47 call) n47_5 ⟨(Env.put env 11 r4.1), r4.2⟩) := (xSR 4 (cOps (cL n47_4)) (cR n47_4)).trans (by
  refine opsK_0 ?_
  refine oT 26 (env.get 11) ?_
  refine oT 27 (env.get 2) ?_
  refine oP 28 fun r2 => ?_
  refine oP 29 fun r3 => ?_
  refine oP 30 fun r4 => ?_
  refine oT 11 r4.1 ?_
  exact oE)
@[simp] theorem n47_3_eq : evC (cx47 call) n47_3 ⟨env, h⟩ = (bnd (call 58 [(env.get 3)] h) fun r2 => bnd (mApp (.int .u8) 1 (env.get 11) r2.1 r2.2) fun r3 => evC (cx47 call) n47_4 ⟨(Env.put env 11 r3.1), r3.2⟩) := (xSR 3 (cOps (cL n47_3)) (cR n47_3)).trans (by
  refine opsK_0 ?_
  refine oT 22 (env.get 11) ?_
  refine oT 23 (env.get 3) ?_
  refine oP 24 fun r2 => ?_
  refine oP 25 fun r3 => ?_
  refine oT 11 r3.1 ?_
  exact oE)
@[simp] theorem n47_2_eq : evC (cx47 call) n47_2 ⟨env, h⟩ = (bnd (call 58 [(env.get 2)] h) fun r1 => evC (cx47 call) n47_3 ⟨(Env.put env 11 r1.1), r1.2⟩) := (xSR 2 (cOps (cL n47_2)) (cR n47_2)).trans (by
  refine opsK_0 ?_
  refine oT 20 (env.get 2) ?_
  refine oP 21 fun r1 => ?_
  refine oT 11 r1.1 ?_
  exact oE)
@[simp] theorem n47_1_eq : evC (cx47 call) n47_1 ⟨env, h⟩ = (bnd (pureV h (mLoad (.arr 32 (.int .u8)) (env.get 4) h)) fun r0 => bnd (pureV r0.2 (mLoad (.arr 12 (.int .u8)) (env.get 5) r0.2)) fun r1 => bnd (call 35 [r0.1, r1.1] r1.2) fun r2 => bnd (pureV r2.2 (mExtract r2.1 0)) fun r4 => bnd (pureV r4.2 (mExtract r2.1 1)) fun r5 => bnd (mNew (.arr 16 (.int .u8)) (arr 16 fun _ => 0#8) r5.2) fun r6 => bnd (mNew (.arr 32 (.int .u8)) (arr 32 fun _ => 0#8) r6.2) fun r7 => bnd (stU (.arr 16 (.int .u8)) r6.1 r4.1 r7.2) fun r8 => bnd (stU (.arr 32 (.int .u8)) r7.1 r5.1 r8.2) fun r9 => evC (cx47 call) n47_2 ⟨(Env.put (Env.put env 9 r6.1) 10 r7.1), r9.2⟩) := (xSR 1 (cOps (cL n47_1)) (cR n47_1)).trans (by
  refine opsK_0 ?_
  refine oP 15 fun r0 => ?_
  refine oP 16 fun r1 => ?_
  refine oP 17 fun r2 => ?_
  refine oT 14 r2.1 ?_
  refine oP 18 fun r4 => ?_
  refine oP 19 fun r5 => ?_
  refine oP 9 fun r6 => ?_
  refine oP 10 fun r7 => ?_
  refine oN fun r8 => ?_
  refine oN fun r9 => ?_
  exact oE)
@[simp] theorem n47_0_eq : evC (cx47 call) n47_0 ⟨env, h⟩ = (bnd (mNew (.arr 32 (.int .u8)) (env.get 0) h) fun r0 => bnd (mNew (.arr 12 (.int .u8)) (env.get 1) r0.2) fun r1 => bnd (mNew (.arr 16 (.int .u8)) (arr 16 fun _ => 0#8) r1.2) fun r2 => evC (cx47 call) n47_1 ⟨(Env.put (Env.put (Env.put env 4 r0.1) 5 r1.1) 8 r2.1), r2.2⟩) := (xSR 0 (cOps (cL n47_0)) (cR n47_0)).trans (by
  refine opsK_0 ?_
  refine oP 4 fun r0 => ?_
  refine oP 5 fun r1 => ?_
  refine oP 8 fun r2 => ?_
  exact oE)
theorem b47 (call : Calling) (a0 a1 a2 a3 : AV) (h : Heap) : evBody (cx47 call) Try.f47 n47_0 [a0, a1, a2, a3] h = bnd (evC (cx47 call) n47_0 ⟨[(0, a0), (1, a1), (2, a2), (3, a3), (4, .junk), (5, .junk), (6, .junk), (7, .junk), (8, .junk), (9, .junk), (10, .junk), (11, .junk), (12, .junk), (13, .junk), (40, .junk)], h⟩) (retK fun s => bnd (bnd (mLoad (.arr 16 (.int .u8)) (s.env.get 8) s.heap) fun v => bnd (some []) fun vs => some (v :: vs)) fun vs => some (oneOrTuple vs)) := by kernel_rfl
theorem fn47 : Try.prog.funcs[47]? = some Try.f47 := by kernel_rfl
theorem k47 : Callable Try.prog 47 := ⟨Try.f47, fn47, by kernel_rfl, by kernel_rfl⟩
theorem s47 {call : Calling} (hc : CallOK Try.prog call) {args : List AV} {h h' : Heap} {v : AV} (he : evBody (cx47 call) Try.f47 n47_0 args h = some (v, h')) : Spec Try.prog 47 args h v h' := body_sound (C := cx47 call) TT_ok hc mixed_ok fn47 (by kernel_rfl) (by kernel_rfl) he
def sn47 := Y n47_14_eq (Y n47_15_eq (Y n47_13_eq (Y n47_12_eq (Y n47_18_eq (Y n47_17_eq (Y n47_19_eq (Y n47_16_eq (Y n47_11_eq (Y n47_10_eq (Y n47_9_eq (Y n47_8_eq (Y n47_22_eq (Y n47_21_eq (Y n47_20_eq (Y n47_7_eq (Y n47_6_eq (Y n47_5_eq (Y n47_4_eq (Y n47_3_eq (Y n47_2_eq (Y n47_1_eq (n47_0_eq))))))))))))))))))))))
end
end Go.Vab

/-
  The document's tag, walked.
-/
namespace Go.Vab
open Go Go.Proofs

def lenB (n : Nat) : Nat → BitVec 8 := fun j => ((8#64 * BitVec.ofNat 64 n) >>> (8 * j)).setWidth 8
theorem quo256 (x : BitVec 64) (i : Nat) : (x >>> (8 * i)) / 256#64 = x >>> (8 * (i + 1)) := by
  apply BitVec.eq_of_toNat_eq
  rw [BitVec.toNat_udiv, BitVec.toNat_ushiftRight, BitVec.toNat_ushiftRight, Nat.shiftRight_eq_div_pow, Nat.shiftRight_eq_div_pow, show 8 * (i + 1) = 8 * i + 8 by omega, Nat.pow_add, ← Nat.div_div_eq_div_mul]
  rfl
theorem rem256 (x : BitVec 64) : (x % 256#64).setWidth 8 = x.setWidth 8 := by
  apply BitVec.eq_of_toNat_eq
  rw [BitVec.toNat_setWidth, BitVec.toNat_setWidth, BitVec.toNat_umod]
  show x.toNat % 256 % 256 = x.toNat % 256
  omega

theorem walk61 (call : Calling) (h : Heap) (n : Nat) : ∃ tr, evBody (cx61 call) Try.f61 n61_0 [nat n] h = some (.slice (h.length + 1) 8 [] (.int .u8) 0 8 none, h ++ tr) ∧ tr[1]? = some ⟨arr 8 (lenB n), 8, .open⟩ := by
  rw [b61]
  have main : Evs (evC (cx61 call) n61_0 ⟨[(0, nat n), (1, .junk), (2, .junk), (3, .junk), (4, .junk), (5, .junk), (10, .junk)], h⟩) (fun r => ∃ env tr, r = (.ret, ⟨env, h ++ tr⟩) ∧ env.get 2 = .slice (h.length + 1) 8 [] (.int .u8) 0 8 none ∧ tr[1]? = some ⟨arr 8 (lenB n), 8, .open⟩) := by
    obtain ⟨env, he⟩ : ∃ env : Env, env = [(0, nat n), (1, .junk), (2, .junk), (3, .junk), (4, .junk), (5, .junk), (10, .junk)] := ⟨_, rfl⟩
    rw [← he]
    have g0 : env.get 0 = nat n := by rw [he]; rfl
    clear he
    repeat (first | (with_reducible refine Evs.assoc ?_) | ((with_reducible refine Evs.some_bnd ?_); try dsimp only [sqK_nrm, sqK_exit, sqK_ret]) | ((with_reducible apply Evs.bcndT); (focus (simp (disch := omega) [g0] <;> omega))) | ((with_reducible apply Evs.bcndF); (focus (simp (disch := omega) [g0] <;> omega))) | ((with_reducible apply Evs.step); (focus ((conv => lhs; simp (disch := omega) [g0]); done)); try dsimp only) | (simp only [sn61, snB]))
    refine Evs.bnd (Q := fun r => ∃ env' x f tr, r = (.exit 0, ⟨env', h ++ (x :: ⟨arr 8 f, 8, .open⟩ :: tr)⟩) ∧ env'.get 3 = .slice (h.length + 1) 8 [] (.int .u8) 0 8 none ∧ ∀ j, j < 8 → f j = lenB n j) ?_ ?_
    · refine Evs.up 8 (fun i s => ∃ env', env'.get 4 = u64 ((8#64 * BitVec.ofNat 64 n) >>> (8 * i)) ∧ env'.get 5 = nat i ∧ ((i = 0 ∧ s = ⟨env', h⟩ ∧ env'.get 3 = .nilslice) ∨
          (0 < i ∧ ∃ x f tr, s = ⟨env', h ++ (x :: ⟨arr i f, i, .open⟩ :: tr)⟩ ∧ env'.get 3 = .slice (h.length + 1) i [] (.int .u8) 0 i none ∧ ∀ j, j < i → f j = lenB n j))) ?_ ?_
        ⟨_, by simp [BitVec.mul_comm], by simp, .inl ⟨rfl, rfl, by simp⟩⟩
      · rintro i s hi ⟨env', f4, f5, hor⟩
        have e1 : ∀ x, mBin .rem (u64 x) (u64 256#64) = some (u64 (x % 256#64)) := fun x => u64_rem _ _ (by decide)
        have e2 : ∀ x, mBin .quo (u64 x) (u64 256#64) = some (u64 (x / 256#64)) := fun x => u64_quo _ _ (by decide)
        rcases hor with ⟨rfl, rfl, f3⟩ | ⟨hpos, x, f, tr, rfl, f3, hf⟩
        · repeat (first | (with_reducible refine Evs.assoc ?_) | ((with_reducible refine Evs.some_bnd ?_); try dsimp only [sqK_nrm, sqK_exit, sqK_ret]) | ((with_reducible apply Evs.bcndT); (focus (simp (disch := omega) [f3, f4, f5, e1, e2] <;> omega))) | ((with_reducible apply Evs.bcndF); (focus (simp (disch := omega) [f3, f4, f5, e1, e2] <;> omega))) | ((with_reducible apply Evs.step); (focus ((conv => lhs; simp (disch := omega) [f3, f4, f5, e1, e2]); done)); try dsimp only) | (simp only [sn61, snB]))
          refine Evs.ret ⟨rfl, _, ?_, by simp, .inr ⟨by omega, _, _, [], rfl, by simp, fun j hj => ?_⟩⟩
          · have := quo256 (8#64 * BitVec.ofNat 64 n) 0
            simp at this ⊢
            rw [this]
          · have : j = 0 := by omega
            subst this
            have := rem256 (8#64 * BitVec.ofNat 64 n)
            simpa [lenB] using this
        · repeat (first | (with_reducible refine Evs.assoc ?_) | ((with_reducible refine Evs.some_bnd ?_); try dsimp only [sqK_nrm, sqK_exit, sqK_ret]) | ((with_reducible apply Evs.bcndT); (focus (simp (disch := omega) [f3, f4, f5, e1, e2] <;> omega))) | ((with_reducible apply Evs.bcndF); (focus (simp (disch := omega) [f3, f4, f5, e1, e2] <;> omega))) | ((with_reducible apply Evs.step); (focus ((conv => lhs; simp (disch := omega) [f3, f4, f5, e1, e2]); done)); try dsimp only) | (simp only [sn61, snB]))
          refine Evs.ret ⟨rfl, _, ?_, by simp, .inr ⟨by omega, _, _, _, rfl, by simp, fun j hj => ?_⟩⟩
          · rw [← quo256]; simp
          · by_cases hlt : j < i
            · simp only [hlt, if_true]; exact hf j hlt
            · have : j = i := by omega
              subst this
              have := rem256 ((8#64 * BitVec.ofNat 64 n) >>> (8 * j))
              simpa [lenB, upd] using this
      · rintro s ⟨env', f4, f5, hor⟩
        rcases hor with ⟨h0, _, _⟩ | ⟨hpos, x, f, tr, rfl, f3, hf⟩
        · omega
        · repeat (first | (with_reducible refine Evs.assoc ?_) | ((with_reducible refine Evs.some_bnd ?_); try dsimp only [sqK_nrm, sqK_exit, sqK_ret]) | ((with_reducible apply Evs.bcndT); (focus (simp (disch := omega) [f5] <;> omega))) | ((with_reducible apply Evs.bcndF); (focus (simp (disch := omega) [f5] <;> omega))) | ((with_reducible apply Evs.step); (focus ((conv => lhs; simp (disch := omega) [f5]); done)); try dsimp only) | (simp only [sn61, snB]))
          exact Evs.ret ⟨by simp, _, x, f, tr, rfl, by simp [f3], hf⟩
    · rintro r ⟨env', x, f, tr, rfl, f3, hf⟩
      repeat (first | (with_reducible refine Evs.assoc ?_) | ((with_reducible refine Evs.some_bnd ?_); try dsimp only [sqK_nrm, sqK_exit, sqK_ret]) | ((with_reducible apply Evs.bcndT); (focus (simp (disch := omega) [f3] <;> omega))) | ((with_reducible apply Evs.bcndF); (focus (simp (disch := omega) [f3] <;> omega))) | ((with_reducible apply Evs.step); (focus ((conv => lhs; simp (disch := omega) [f3]); done)); try dsimp only) | (simp only [sn61, snB]))
      refine Evs.ret ⟨_, _, rfl, by simp [f3], ?_⟩
      simp only [List.getElem?_cons_succ, List.getElem?_cons_zero]
      rw [arr_congr hf]
  obtain ⟨r, hr, env, tr, rfl, e0, e1⟩ := main
  refine ⟨tr, ?_, e1⟩
  rw [hr]
  simp [e0, oneOrTuple]

noncomputable def c61 := conC (fun x : (Nat) => [nat x]) (fun (x : (Nat)) h => True) (fun (x : (Nat)) h => (.slice h.length 8 [] (.int .u8) 0 8 none, h ++ [(⟨arr 8 (lenB x), 8, .open⟩ : Blk)]))
noncomputable def callS27 : Calling := addC callS24 61 c61
theorem c61_eq (n : Nat) (h : Heap) : c61 [nat n] h = some (.slice h.length 8 [] (.int .u8) 0 8 none, h ++ [(⟨arr 8 (lenB n), 8, .open⟩ : Blk)]) :=
  conC_eq (enc := fun x : (Nat) => [nat x]) (P := fun (x : (Nat)) h => True) (a := n) (f := fun (x : (Nat)) h => (.slice h.length 8 [] (.int .u8) 0 8 none, h ++ [(⟨arr 8 (lenB x), 8, .open⟩ : Blk)])) (fun x y h e => by
    rw [nat_inj.1 (List.cons.inj e).1]
    ) trivial
theorem callS27_ok : CallOK Try.prog callS27 := addC_con callS24_ok k61 fun x h hx => by
  obtain ⟨t, ht, h1⟩ := walk61 callS24 h x
  exact (s61 callS24_ok ht).pull t 1 _ h1 ⟨_, _, rfl⟩
@[simp] theorem callS27_ne {f : Nat} (args : List AV) (h : Heap) (hf : f ≠ 61) : callS27 f args h = callS24 f args h := addC_ne _ _ _ args h hf
@[simp] theorem callS27_sne {f : Nat} (args : List AV) (h : Heap) (hf : f ≠ 61) : still callS27 f args h = still callS24 f args h := still_ne _ _ _ args h hf
@[simp] theorem callS27_61 (n : Nat) (h : Heap) : callS27 61 [nat n] h = some (.slice h.length 8 [] (.int .u8) 0 8 none, h ++ [(⟨arr 8 (lenB n), 8, .open⟩ : Blk)]) := by
  unfold callS27; rw [addC_same]; exact c61_eq n h

theorem lenB_eq (na nt : Nat) : ∀ j, j < 16 → bytesX (lenX na nt) j = if j < 8 then lenB na j else lenB nt (j - 8) := by
  intro j hj
  have e1 : (lenX na nt).setWidth 64 = 8#64 * BitVec.ofNat 64 na := by
    have := elX_app (8#64 * BitVec.ofNat 64 na) (8#64 * BitVec.ofNat 64 nt)
    unfold elX at this
    exact u64_inj.1 (List.cons.inj (AV.node.inj this)).1
  have e2 : ((lenX na nt) >>> 64).setWidth 64 = 8#64 * BitVec.ofNat 64 nt := by
    have := elX_app (8#64 * BitVec.ofNat 64 na) (8#64 * BitVec.ofNat 64 nt)
    unfold elX at this
    exact u64_inj.1 (List.cons.inj (List.cons.inj (AV.node.inj this)).2).1
  by_cases h : j < 8
  · rw [if_pos h, ← byte_lo _ h, e1]; rfl
  · rw [if_neg h]
    have := byte_hi (lenX na nt) (i := j - 8) (by omega)
    rw [show j - 8 + 8 = j by omega] at this
    rw [← this, e2]; rfl

/-- All that the tag is over, in a row. -/
def allF (na : Nat) (a : Nat → BitVec 8) (nt : Nat) (t : Nat → BitVec 8) : Nat → BitVec 8 := fun j =>
  if j < upN na then fullF na a j else if j < upN na + upN nt then fullF nt t (j - upN na) else bytesX (lenX na nt) (j - (upN na + upN nt))
theorem onX_ext {x y : BitVec 128} {n m : Nat} {g f : Nat → BitVec 8} : ∀ i, (∀ k, k < i → ∀ j, j < 16 → blkF n g k j = blkF m f k j) → onX x y n g i = onX x y m f i
  | 0, _ => rfl
  | i + 1, h => by
    simp only [onX]
    rw [onX_ext i fun k hk => h k (by omega), val16_congr (h i (by omega))]
theorem onX_from {x y : BitVec 128} {n m : Nat} {g f : Nat → BitVec 8} (s : Nat) : ∀ i, (∀ k, k < i → ∀ j, j < 16 → blkF n g (s + k) j = blkF m f k j) → onX x y n g (s + i) = onX (onX x y n g s) y m f i
  | 0, _ => rfl
  | i + 1, h => by
    show onX x y n g (s + i + 1) = _
    simp only [onX]
    rw [onX_from s i fun k hk => h k (by omega), val16_congr (h i (by omega))]
theorem poly_all (y : BitVec 128) (na : Nat) (a : Nat → BitVec 8) (nt : Nat) (t : Nat → BitVec 8) : polyX 0#128 y (upN na + upN nt + 16) (allF na a nt t) = sumX y na a nt t := by
  have hA : upN na = 16 * ((na + 15) / 16) := rfl
  have hT : upN nt = 16 * ((nt + 15) / 16) := rfl
  generalize hma : (na + 15) / 16 = ma at *
  generalize hmt : (nt + 15) / 16 = mt at *
  unfold polyX sumX
  rw [show (upN na + upN nt + 16 + 15) / 16 = ma + mt + 1 by omega]
  simp only [onX]
  rw [onX_from ma mt (m := nt) (f := t), onX_ext ma (m := na) (f := a)]
  · unfold polyX
    rw [hma, hmt]
    have : val16 (blkF (upN na + upN nt + 16) (allF na a nt t) (ma + mt)) = lenX na nt := by
      rw [← val_bytes (lenX na nt)]
      refine val16_congr fun k hk => ?_
      unfold blkF allF
      rw [if_pos (by omega), if_neg (by omega), if_neg (by omega), show 16 * (ma + mt) + k - (upN na + upN nt) = k by omega]
    rw [this]
  · intro k hk j hj
    unfold blkF allF fullF
    rw [if_pos (show 16 * k + j < upN na + upN nt + 16 by omega), if_pos (show 16 * k + j < upN na by omega)]
  · intro k hk j hj
    unfold blkF allF fullF
    rw [if_pos (show 16 * (ma + k) + j < upN na + upN nt + 16 by omega), if_neg (show ¬ 16 * (ma + k) + j < upN na by omega), if_pos (show 16 * (ma + k) + j < upN na + upN nt by omega), show 16 * (ma + k) + j - upN na = 16 * k + j by omega]

theorem rem128 (x : BitVec 8) : x % 128#8 = x &&& 127#8 := by
  apply BitVec.eq_of_toNat_eq
  rw [BitVec.toNat_umod, BitVec.toNat_and]
  exact (Nat.and_two_pow_sub_one_eq_mod x.toNat 7).symm

def H47 (h : Heap) (key nonce : Nat → BitVec 8) (b1 b2 b3 b4 : Blk) (f : Nat → BitVec 8) : Heap := h ++ [⟨arr 32 key, 0, .own⟩, ⟨arr 12 nonce, 0, .own⟩, ⟨arr 16 fun _ => 0#8, 0, .own⟩, ⟨arr 16 (keyA key nonce), 0, .own⟩, ⟨arr 32 (keyE key nonce), 0, .own⟩, b1, b2, b3, b4, ⟨arr 16 f, 0, .own⟩]
def B47 (L : Nat) (env : Env) : Prop := env.get 5 = .ptr (L + 1) 0 [] (.arr 12 (.int .u8)) ∧ env.get 8 = .ptr (L + 2) 0 [] (.arr 16 (.int .u8)) ∧ env.get 10 = .ptr (L + 4) 0 [] (.arr 32 (.int .u8)) ∧ env.get 12 = .ptr (L + 9) 0 [] (.arr 16 (.int .u8))

set_option maxHeartbeats 1000000 in
theorem walk47 (h : Heap) (key nonce : Nat → BitVec 8) (xa xt : AV) (na nt : Nat) (a t : Nat → BitVec 8) (ha : Byt h xa na a) (ht : Byt h xt nt t) (hna : na < 40000000) (hnt : nt < 40000000) :
    ∃ tr, evBody (cx47 callS27) Try.f47 n47_0 [arr 32 key, arr 12 nonce, xa, xt] h = some (arr 16 (tagS key nonce na a nt t), h ++ tr) := by
  have la := ha.len
  have lt := ht.len
  have k58a : ∀ l, callS21 58 [xa] (h ++ l) = some (.slice (h ++ l).length (upN na) [] (.int .u8) 0 (upN na) none, h ++ l ++ [⟨arr (upN na) (fullF na a), upN na, .open⟩]) := fun l => callS21_58 xa na a (h ++ l) ⟨ha.app l, by omega⟩
  have k58t : ∀ l, callS21 58 [xt] (h ++ l) = some (.slice (h ++ l).length (upN nt) [] (.int .u8) 0 (upN nt) none, h ++ l ++ [⟨arr (upN nt) (fullF nt t), upN nt, .open⟩]) := fun l => callS21_58 xt nt t (h ++ l) ⟨ht.app l, by omega⟩
  have hua : upN na < 40000020 := by unfold upN; omega
  have hut : upN nt < 40000020 := by unfold upN; omega
  have k36 : ∀ (y : Nat → BitVec 8) (l : Heap) (i : Nat) (f : Nat → BitVec 8), l[i]? = some ⟨arr (upN na + upN nt + 8 + 8) f, upN na + upN nt + 8 + 8, .open⟩ → (∀ j, j < upN na + upN nt + 8 + 8 → f j = allF na a nt t j) →
      callS22 36 [arr 16 y, .slice (h.length + i) (upN na + upN nt + 8 + 8) [] (.int .u8) 0 (upN na + upN nt + 8 + 8) none] (h ++ l) = some (arr 16 (bytesX (sumX (val16 y) na a nt t)), h ++ l) := fun y l i f hi hf => by
    have hB : Byt (h ++ l) (.slice (h.length + i) (upN na + upN nt + 8 + 8) [] (.int .u8) 0 (upN na + upN nt + 8 + 8) none) (upN na + upN nt + 8 + 8) (allF na a nt t) :=
      (Byt.grown (b := ⟨arr (upN na + upN nt + 8 + 8) f, upN na + upN nt + 8 + 8, .open⟩) (m := upN na + upN nt + 8 + 8) (by rw [blkAt_new]; unfold blkAt; rw [hi]; simp) rfl (by omega) (by omega)).congr hf
    have := callS22_36 y _ _ _ (h ++ l) ⟨hB, by omega⟩
    rwa [Nat.add_assoc (upN na + upN nt) 8 8, poly_all] at this
  rw [b47]
  have main : Evs (evC (cx47 callS27) n47_0 ⟨[(0, arr 32 key), (1, arr 12 nonce), (2, xa), (3, xt), (4, .junk), (5, .junk), (6, .junk), (7, .junk), (8, .junk), (9, .junk), (10, .junk), (11, .junk), (12, .junk), (13, .junk), (40, .junk)], h⟩) (fun r => ∃ env tr, r = (.ret, ⟨env, h ++ tr⟩) ∧ mLoad (.arr 16 (.int .u8)) (env.get 8) (h ++ tr) = some (arr 16 (tagS key nonce na a nt t))) := by
    obtain ⟨env, he⟩ : ∃ env : Env, env = [(0, arr 32 key), (1, arr 12 nonce), (2, xa), (3, xt), (4, .junk), (5, .junk), (6, .junk), (7, .junk), (8, .junk), (9, .junk), (10, .junk), (11, .junk), (12, .junk), (13, .junk), (40, .junk)] := ⟨_, rfl⟩
    rw [← he]
    have g0 : env.get 0 = arr 32 key := by rw [he]; rfl
    have g1 : env.get 1 = arr 12 nonce := by rw [he]; rfl
    have g2 : env.get 2 = xa := by rw [he]; rfl
    have g3 : env.get 3 = xt := by rw [he]; rfl
    clear he
    repeat (first | (with_reducible refine Evs.assoc ?_) | ((with_reducible refine Evs.some_bnd ?_); try dsimp only [sqK_nrm, sqK_exit, sqK_ret]) | ((with_reducible apply Evs.bcndT); (focus (simp (disch := omega) [g0, g1, g2, g3, la, lt, k58a, k58t] <;> omega))) | ((with_reducible apply Evs.bcndF); (focus (simp (disch := omega) [g0, g1, g2, g3, la, lt, k58a, k58t] <;> omega))) | ((with_reducible apply Evs.step); (focus ((conv => lhs; simp (disch := omega) [g0, g1, g2, g3, la, lt, k58a, k58t]); done)); try dsimp only) | (simp only [sn47, snB]))
    with_reducible apply Evs.step
    · conv => lhs; simp (disch := omega)
      exact k36 _ _ 5 _ rfl fun j hj => by
        simp only [allF]
        by_cases c1 : j < upN na
        · simp [c1, show j < upN na + upN nt + 8 by omega, show j < upN na + upN nt by omega]
        · by_cases c2 : j < upN na + upN nt
          · simp [c1, c2, show j < upN na + upN nt + 8 by omega]
          · have e := lenB_eq na nt (j - (upN na + upN nt)) (by omega)
            simp only [c1, c2, if_false]
            rw [e]
            by_cases c3 : j < upN na + upN nt + 8
            · simp [c3, show j - (upN na + upN nt) < 8 by omega]
            · simp only [c3, show ¬ j - (upN na + upN nt) < 8 by omega, if_false]
              rw [show j - (upN na + upN nt + 8) = j - (upN na + upN nt) - 8 by omega]
    repeat (first | (with_reducible refine Evs.assoc ?_) | ((with_reducible refine Evs.some_bnd ?_); try dsimp only [sqK_nrm, sqK_exit, sqK_ret]) | ((with_reducible apply Evs.bcndT); (focus (simp (disch := omega) [g0, g1, g2, g3] <;> omega))) | ((with_reducible apply Evs.bcndF); (focus (simp (disch := omega) [g0, g1, g2, g3] <;> omega))) | ((with_reducible apply Evs.step); (focus ((conv => lhs; simp (disch := omega) [g0, g1, g2, g3]); done)); try dsimp only) | (simp only [sn47, snB]))
    refine Evs.bnd (Q := fun r => ∃ env' b1 b2 b3 b4 f, r = (.exit 0, ⟨env', H47 h key nonce b1 b2 b3 b4 f⟩) ∧ B47 h.length env' ∧ ∀ j, j < 16 → f j = if j < 12 then bytesX (sumX (val16 (keyA key nonce)) na a nt t) j ^^^ nonce j else bytesX (sumX (val16 (keyA key nonce)) na a nt t) j) ?_ ?_
    · refine Evs.up 12 (fun i s => ∃ env' b1 b2 b3 b4 f, s = ⟨env', H47 h key nonce b1 b2 b3 b4 f⟩ ∧ B47 h.length env' ∧ env'.get 13 = nat i ∧ ∀ j, j < 16 → f j = if j < i then bytesX (sumX (val16 (keyA key nonce)) na a nt t) j ^^^ nonce j else bytesX (sumX (val16 (keyA key nonce)) na a nt t) j) ?_ ?_
        ⟨_, _, _, _, _, _, rfl, ⟨by simp, by simp, by simp, by simp⟩, by simp, fun j _ => by simp⟩
      · rintro i s hi ⟨env', b1, b2, b3, b4, f, rfl, ⟨e5, e8, e10, e12⟩, e13, hf⟩
        unfold H47
        repeat (first | (with_reducible refine Evs.assoc ?_) | ((with_reducible refine Evs.some_bnd ?_); try dsimp only [sqK_nrm, sqK_exit, sqK_ret]) | ((with_reducible apply Evs.bcndT); (focus (simp (disch := omega) [e5, e12, e13] <;> omega))) | ((with_reducible apply Evs.bcndF); (focus (simp (disch := omega) [e5, e12, e13] <;> omega))) | ((with_reducible apply Evs.step); (focus ((conv => lhs; simp (disch := omega) [e5, e12, e13]); done)); try dsimp only) | (simp only [sn47, snB]))
        refine Evs.ret ⟨rfl, _, b1, b2, b3, b4, _, rfl, ⟨by simp [e5], by simp [e8], by simp [e10], by simp [e12]⟩, by simp, fun j hj => ?_⟩
        by_cases hji : j = i
        · subst hji
          rw [upd_same, hf j hj, if_neg (Nat.lt_irrefl _), if_pos (Nat.lt_succ_self _)]
        · rw [upd_ne _ _ hji, hf j hj]
          by_cases hlt : j < i
          · rw [if_pos hlt, if_pos (by omega)]
          · rw [if_neg hlt, if_neg (by omega)]
      · rintro s ⟨env', b1, b2, b3, b4, f, rfl, ⟨e5, e8, e10, e12⟩, e13, hf⟩
        repeat (first | (with_reducible refine Evs.assoc ?_) | ((with_reducible refine Evs.some_bnd ?_); try dsimp only [sqK_nrm, sqK_exit, sqK_ret]) | ((with_reducible apply Evs.bcndT); (focus (simp (disch := omega) [e13] <;> omega))) | ((with_reducible apply Evs.bcndF); (focus (simp (disch := omega) [e13] <;> omega))) | ((with_reducible apply Evs.step); (focus ((conv => lhs; simp (disch := omega) [e13]); done)); try dsimp only) | (simp only [sn47, snB]))
        exact Evs.ret ⟨by simp, _, b1, b2, b3, b4, f, rfl, ⟨by simp [e5], by simp [e8], by simp [e10], by simp [e12]⟩, hf⟩
    · rintro r ⟨env', b1, b2, b3, b4, f, rfl, ⟨e5, e8, e10, e12⟩, hf⟩
      have r128 : ∀ x, mBin .rem (u8 x) (u8 128#8) = some (u8 (x &&& 127#8)) := fun x => by rw [u8_rem _ _ (by decide), rem128]
      unfold H47
      repeat (first | (with_reducible refine Evs.assoc ?_) | ((with_reducible refine Evs.some_bnd ?_); try dsimp only [sqK_nrm, sqK_exit, sqK_ret]) | ((with_reducible apply Evs.bcndT); (focus (simp (disch := omega) [e8, e10, e12, r128] <;> omega))) | ((with_reducible apply Evs.bcndF); (focus (simp (disch := omega) [e8, e10, e12, r128] <;> omega))) | ((with_reducible apply Evs.step); (focus ((conv => lhs; simp (disch := omega) [e8, e10, e12, r128]); done)); try dsimp only) | (simp only [sn47, snB]))
      refine Evs.ret ⟨_, _, rfl, ?_⟩
      simp only [e8]
      simp
      refine arr_congr fun j hj => ?_
      unfold tagS tagF
      refine encF_congr (fun i _ p hp => rfl) (fun j hj => ?_) j hj
      unfold mixF
      by_cases h15 : j = 15
      · subst h15
        rw [upd_same, hf 15 (by omega)]; rfl
      · rw [upd_ne _ _ h15, hf j hj, if_neg h15]
  obtain ⟨r, hr, env, tr, rfl, e0⟩ := main
  refine ⟨tr, ?_⟩
  rw [hr]
  simp [e0, oneOrTuple]

noncomputable def c47 := conC (fun x : (Nat → BitVec 8) × (Nat → BitVec 8) × (AV) × (AV) × (Nat) × (Nat) × (Nat → BitVec 8) × (Nat → BitVec 8) => [arr 32 x.1, arr 12 x.2.1, x.2.2.1, x.2.2.2.1]) (fun (x : (Nat → BitVec 8) × (Nat → BitVec 8) × (AV) × (AV) × (Nat) × (Nat) × (Nat → BitVec 8) × (Nat → BitVec 8)) h => Byt h x.2.2.1 x.2.2.2.2.1 x.2.2.2.2.2.2.1 ∧ Byt h x.2.2.2.1 x.2.2.2.2.2.1 x.2.2.2.2.2.2.2 ∧ x.2.2.2.2.1 < 40000000 ∧ x.2.2.2.2.2.1 < 40000000) (fun (x : (Nat → BitVec 8) × (Nat → BitVec 8) × (AV) × (AV) × (Nat) × (Nat) × (Nat → BitVec 8) × (Nat → BitVec 8)) h => (arr 16 (tagS x.1 x.2.1 x.2.2.2.2.1 x.2.2.2.2.2.2.1 x.2.2.2.2.2.1 x.2.2.2.2.2.2.2), h))
noncomputable def callS28 : Calling := addC callS27 47 c47
theorem c47_eq (k : Nat → BitVec 8) (n : Nat → BitVec 8) (xa : AV) (xt : AV) (na : Nat) (nt : Nat) (a : Nat → BitVec 8) (t : Nat → BitVec 8) (h : Heap) (hc : Byt h xa na a ∧ Byt h xt nt t ∧ na < 40000000 ∧ nt < 40000000) : c47 [arr 32 k, arr 12 n, xa, xt] h = some (arr 16 (tagS k n na a nt t), h) :=
  conC_eqP (enc := fun x : (Nat → BitVec 8) × (Nat → BitVec 8) × (AV) × (AV) × (Nat) × (Nat) × (Nat → BitVec 8) × (Nat → BitVec 8) => [arr 32 x.1, arr 12 x.2.1, x.2.2.1, x.2.2.2.1]) (P := fun (x : (Nat → BitVec 8) × (Nat → BitVec 8) × (AV) × (AV) × (Nat) × (Nat) × (Nat → BitVec 8) × (Nat → BitVec 8)) h => Byt h x.2.2.1 x.2.2.2.2.1 x.2.2.2.2.2.2.1 ∧ Byt h x.2.2.2.1 x.2.2.2.2.2.1 x.2.2.2.2.2.2.2 ∧ x.2.2.2.2.1 < 40000000 ∧ x.2.2.2.2.2.1 < 40000000) (a := (k, n, xa, xt, na, nt, a, t)) (f := fun (x : (Nat → BitVec 8) × (Nat → BitVec 8) × (AV) × (AV) × (Nat) × (Nat) × (Nat → BitVec 8) × (Nat → BitVec 8)) h => (arr 16 (tagS x.1 x.2.1 x.2.2.2.2.1 x.2.2.2.2.2.2.1 x.2.2.2.2.2.1 x.2.2.2.2.2.2.2), h)) (fun x y h hp hq e => by
    have e1 := arr_inj.1 (List.cons.inj e).1
    have e2 := arr_inj.1 (List.cons.inj (List.cons.inj e).2).1
    have e4 := (List.cons.inj (List.cons.inj (List.cons.inj e).2).2).1
    have e5 := (List.cons.inj (List.cons.inj (List.cons.inj (List.cons.inj e).2).2).2).1
    rw [e4, e5] at hp
    obtain ⟨d1, d2⟩ := hp.1.det hq.1
    obtain ⟨d3, d4⟩ := hp.2.1.det hq.2.1
    rw [← d1, ← d3]
    simp only [Prod.mk.injEq, and_true]
    exact arr_congr (tagS_congr e1 e2 d2 d4)
    ) hc
theorem callS28_ok : CallOK Try.prog callS28 := addC_con callS27_ok k47 fun x h hx => by
  obtain ⟨t, ht⟩ := walk47 h _ _ _ _ _ _ _ _ hx.1 hx.2.1 hx.2.2.1 hx.2.2.2
  exact (s47 callS27_ok ht).drop0 t rfl
@[simp] theorem callS28_ne {f : Nat} (args : List AV) (h : Heap) (hf : f ≠ 47) : callS28 f args h = callS27 f args h := addC_ne _ _ _ args h hf
@[simp] theorem callS28_sne {f : Nat} (args : List AV) (h : Heap) (hf : f ≠ 47) : still callS28 f args h = still callS27 f args h := still_ne _ _ _ args h hf
theorem callS28_47 (k : Nat → BitVec 8) (n : Nat → BitVec 8) (xa : AV) (xt : AV) (na : Nat) (nt : Nat) (a : Nat → BitVec 8) (t : Nat → BitVec 8) (h : Heap) (hc : Byt h xa na a ∧ Byt h xt nt t ∧ na < 40000000 ∧ nt < 40000000) : callS28 47 [arr 32 k, arr 12 n, xa, xt] h = some (arr 16 (tagS k n na a nt t), h) := by
  unfold callS28; rw [addC_same]; exact c47_eq k n xa xt na nt a t h hc
theorem callS28_47s (k : Nat → BitVec 8) (n : Nat → BitVec 8) (xa : AV) (xt : AV) (na : Nat) (nt : Nat) (a : Nat → BitVec 8) (t : Nat → BitVec 8) (h : Heap) (hc : Byt h xa na a ∧ Byt h xt nt t ∧ na < 40000000 ∧ nt < 40000000) : still callS28 47 [arr 32 k, arr 12 n, xa, xt] h = some (arr 16 (tagS k n na a nt t), h) := still_of fun tt => callS28_47 k n xa xt na nt a t (h ++ tt) (⟨hc.1.app tt, hc.2.1.app tt, hc.2.2⟩)

end Go.Vab

/-
  A row that is built by append, from nil on.
-/
namespace Go.Vab
open Go

/-- What was appended so far: nothing, or a row of its own. -/
def OutS (h u : Heap) (o : AV) (m : Nat) (F : Nat → BitVec 8) : Prop := (m = 0 ∧ o = .nilslice) ∨
  (0 < m ∧ ∃ jo f, u[jo]? = some ⟨arr m f, m, .open⟩ ∧ o = .slice (h.length + jo) m [] (.int .u8) 0 m none ∧ ∀ j, j < m → f j = F j)
def outV (m L : Nat) : AV := if m = 0 then .nilslice else .slice L m [] (.int .u8) 0 m none
def outH (m : Nat) (h : Heap) (F : Nat → BitVec 8) : Heap := if m = 0 then h else h ++ [⟨arr m F, m, .open⟩]

theorem OutS.app {h u : Heap} {o : AV} {m : Nat} {F : Nat → BitVec 8} (hO : OutS h u o m F) (l : Heap) : OutS h (u ++ l) o m F := by
  rcases hO with h1 | ⟨h1, jo, f, h2, h3, h4⟩
  · exact .inl h1
  · exact .inr ⟨h1, jo, f, by rw [List.getElem?_append_left (List.getElem?_eq_some_iff.1 h2).1]; exact h2, h3, h4⟩
theorem at_blk {t : Heap} {j ver : Nat} {v : AV} {m : Mode} (h : t[j]? = some ⟨v, ver, m⟩) : blkAt t j ver = some ⟨v, ver, m⟩ := by
  unfold blkAt
  rw [h]
  simp

theorem appK {h u : Heap} {o x : AV} {m k : Nat} {F f' : Nat → BitVec 8} (hx : mElems (.int .u8) x (h ++ u) = some (arr k f')) (hk : 0 < k) (hm : m + k ≤ 140737488355328) (hO : OutS h u o m F) (hF : ∀ j, j < k → f' j = F (m + j)) :
    ∃ o' u', mApp (.int .u8) 1 o x (h ++ u) = some (o', h ++ u') ∧ OutS h u' o' (m + k) F ∧ ∀ (j : Nat) (b : Blk), u[j]? = some b → b.mode ≠ .open → u'[j]? = some b := by
  rcases hO with ⟨rfl, rfl⟩ | ⟨h1, jo, f, h2, rfl, h4⟩
  · refine ⟨.slice (h ++ u).length k [] (.int .u8) 0 k none, u ++ [⟨arr k f', k, .open⟩], ?_, .inr ⟨by omega, u.length, f', ?_, ?_, fun j hj => ?_⟩, fun j b hb _ => ?_⟩
    · rw [mApp_nil, hx]
      simp only [bnd_some, arr_rowLen]
      rw [if_neg (by omega), if_pos (by omega), List.append_assoc]
    · rw [Nat.zero_add]; simp
    · rw [Nat.zero_add, List.length_append]
    · have := hF j (by omega)
      rwa [Nat.zero_add] at this
    · rw [List.getElem?_append_left (List.getElem?_eq_some_iff.1 hb).1]; exact hb
  · have hlt := (List.getElem?_eq_some_iff.1 h2).1
    refine ⟨.slice (h.length + jo) (m + k) [] (.int .u8) 0 (m + k) none, u.set jo ⟨arr (m + k) fun i => if i < m then f i else f' (i - m), m + k, .open⟩, ?_, .inr ⟨by omega, jo, (fun i => if i < m then f i else f' (i - m)), ?_, rfl, fun j hj => ?_⟩, fun j b hb hne => ?_⟩
    · rw [mApp_open, hx]
      simp only [bnd_some, arr_rowLen]
      rw [blkAt_new, at_blk h2]
      simp only [bnd_some, arr_cut, Nat.zero_add, Nat.le_refl, if_true, arr_join]
      rw [if_pos (by omega)]
      simp
    · simp [hlt]
    · by_cases hj' : j < m
      · simp only [hj', if_true]; exact h4 j hj'
      · simp only [hj', if_false]
        rw [hF (j - m) (by omega), show m + (j - m) = j by omega]
    · have : jo ≠ j := by
        rintro rfl
        rw [h2] at hb
        cases hb
        exact hne rfl
      rw [List.getElem?_set_ne this]; exact hb

/-- One byte more. -/
theorem app1 {h u : Heap} {o : AV} {m : Nat} {F : Nat → BitVec 8} {x : BitVec 8} (hm : m + 1 ≤ 140737488355328) (hO : OutS h u o m F) (hF : x = F m) :
    ∃ o' u', mApp (.int .u8) 1 o (.slice (h.length + u.length) 0 [] (.int .u8) 0 1 (some 1)) (h ++ (u ++ [⟨arr 1 (upd (fun _ => 0#8) 0 x), 0, .own⟩])) = some (o', h ++ u') ∧ OutS h u' o' (m + 1) F ∧ ∀ (j : Nat) (b : Blk), u[j]? = some b → b.mode ≠ .open → u'[j]? = some b := by
  obtain ⟨o', u', h1, h2, h3⟩ := appK (u := u ++ [⟨arr 1 (upd (fun _ => 0#8) 0 x), 0, .own⟩]) (x := .slice (h.length + u.length) 0 [] (.int .u8) 0 1 (some 1)) (k := 1) (f' := fun i => upd (fun _ => 0#8) 0 x (0 + i)) (by simp [mElems_slc]) (by omega) hm (hO.app _) (fun j hj => by
    have : j = 0 := by omega
    subst this
    simp [hF])
  exact ⟨o', u', h1, h2, fun j b hb hne => h3 j b (by rw [List.getElem?_append_left (List.getElem?_eq_some_iff.1 hb).1]; exact hb) hne⟩

theorem spec_out {P : Program} {f : Nat} {args : List AV} {h u : Heap} {o : AV} {m : Nat} {F : Nat → BitVec 8} (hs : Spec P f args h o (h ++ u)) (hO : OutS h u o m F) : Spec P f args h (outV m h.length) (outH m h F) := by
  rcases hO with ⟨rfl, rfl⟩ | ⟨h1, jo, g, h2, rfl, h4⟩
  · exact hs.drop0 u rfl
  · unfold outV outH
    rw [if_neg (by omega), if_neg (by omega), ← arr_congr h4]
    exact hs.pull u jo _ h2 ⟨_, _, rfl⟩

theorem Byt.out {h : Heap} {m : Nat} {F : Nat → BitVec 8} : Byt (outH m h F) (outV m h.length) m F := by
  unfold outH outV
  by_cases h0 : m = 0
  · subst h0
    simp only [if_true]; exact Byt.nil _ _
  · rw [if_neg h0, if_neg h0]
    exact Byt.grown (b := ⟨arr m F, m, .open⟩) (m := m) (by simp) rfl (by omega) (by omega)
theorem OutS.byt {h u : Heap} {o : AV} {m : Nat} {F : Nat → BitVec 8} (hO : OutS h u o m F) : Byt (h ++ u) o m F := by
  rcases hO with ⟨rfl, rfl⟩ | ⟨h1, jo, g, h2, rfl, h4⟩
  · exact Byt.nil _ _
  · exact (Byt.grown (b := ⟨arr m g, m, .open⟩) (m := m) (by rw [blkAt_new]; exact at_blk h2) rfl (by omega) (by omega)).congr h4

end Go.Vab

/- How the evaluator reads the functions of a seat. Printed by wip/tools/gen.py (own work). -/
namespace Go.Vab
open Go Go.Proofs
noncomputable section
variable (call : Calling) (env : Env) (h : Heap) (s : St)
/-! vestry/vestryref09.turned -/
def cx48 (call : Calling) : Ctx := ⟨call, TT, 26, [7, 8, 9, 11, 12, 13, 14, 15, 16, 17, 18, 19, 20, 21, 22, 23, 24, 25]⟩
def n48_0 : Code := bodyOf Try.f48
def n48_1 : Code := cR n48_0
def n48_2 : Code := cR n48_1
def n48_3 : Code := cL n48_2
def n48_4 : Code := cR n48_3
def n48_5 : Code := cB n48_4
def n48_6 : Code := cB n48_5
def n48_7 : Code := cL n48_6
def n48_8 : Code := cR n48_7
def n48_9 : Code := cL n48_8
def n48_10 : Code := cR n48_8
def n48_11 : Code := cR n48_6
def n48_12 : Code := cL n48_11
def n48_13 : Code := cB n48_12
def n48_14 : Code := cR n48_11
def n48_15 : Code := cR n48_2
def n48_16 : Code := cR n48_15
@[simp] theorem n48_9_eq : evC (cx48 call) n48_9 s = some (.nrm, s) := xK
@[simp] theorem n48_10_eq : evC (cx48 call) n48_10 s = some (.exit 0, s) := xX 0
@[simp] theorem n48_8_eq : evC (cx48 call) n48_8 s = cnd (s.env.get 10) (evC (cx48 call) n48_9 s) (evC (cx48 call) n48_10 s) := xC 10 _ _
@[simp] theorem n48_7_eq : evC (cx48 call) n48_7 ⟨env, h⟩ = (bnd (pureV h (mLenS (env.get 0))) fun r2 => bnd (pureV r2.2 (mBin .lss (env.get 6) r2.1)) fun r3 => evC (cx48 call) n48_8 ⟨(Env.put env 10 r3.1), r3.2⟩) := (xSR 3 (cOps (cL n48_7)) (cR n48_7)).trans (by
  refine opsK_0 ?_
  refine oT 7 (env.get 6) ?_
  refine oT 8 (env.get 0) ?_
  refine oP 9 fun r2 => ?_
  refine oP 10 fun r3 => ?_
  exact oE)
theorem n48_13_ok : drawOk (cOps n48_13).toList = true := by kernel_rfl
@[simp] theorem n48_13_eq : evC (cx48 call) n48_13 ⟨env, h⟩ = (bnd (pureV h (mIdxS (.int .u8) (env.get 0) (env.get 6))) fun r3 => bnd (pureV r3.2 (mLoad (.int .u8) r3.1 r3.2)) fun r4 => bnd (pureV r4.2 (mIdxS (.int .u8) (env.get 1) (env.get 6))) fun r7 => bnd (pureV r7.2 (mLoad (.int .u8) r7.1 r7.2)) fun r8 => bnd (pureV r8.2 (mBin .xor r4.1 r8.1)) fun r9 => bnd (mBuildSlice (.int .u8) (u8 0#8) 1 [(0, r9.1)] r9.2) fun r10 => bnd (mApp (.int .u8) 1 (env.get 5) r10.1 r10.2) fun r11 => some (.nrm, ⟨(Env.put env 5 r11.1), r11.2⟩)) := (xD 5 (cOps n48_13) n48_13_ok).trans (by
  refine opsK_0 ?_
  refine oT 13 (env.get 5) ?_
  refine oT 14 (env.get 0) ?_
  refine oT 15 (env.get 6) ?_
  refine oP 16 fun r3 => ?_
  refine oP 17 fun r4 => ?_
  refine oT 18 (env.get 1) ?_
  refine oT 19 (env.get 6) ?_
  refine oP 20 fun r7 => ?_
  refine oP 21 fun r8 => ?_
  refine oP 22 fun r9 => ?_
  refine oP 23 fun r10 => ?_
  refine oP 24 fun r11 => ?_
  refine oT 5 r11.1 ?_
  exact oE)
@[simp] theorem n48_12_eq : evC (cx48 call) n48_12 s = bnd (evC (cx48 call) n48_13 s) fun r => some (inBlk 1 r) := xB 1 _
@[simp] theorem n48_14_eq : evC (cx48 call) n48_14 ⟨env, h⟩ = (bnd (pureV h (mBin .add (env.get 6) (nat 1))) fun r1 => some (.nrm, ⟨(Env.put env 6 r1.1), r1.2⟩)) := (xR 4 (cOps n48_14)).trans (by
  refine opsK_0 ?_
  refine oT 11 (env.get 6) ?_
  refine oP 12 fun r1 => ?_
  refine oT 6 r1.1 ?_
  exact oE)
@[simp] theorem n48_11_eq : evC (cx48 call) n48_11 s = bnd (evC (cx48 call) n48_12 s) (sqK (evC (cx48 call) n48_14)) := xS _ _
@[simp] theorem n48_6_eq : evC (cx48 call) n48_6 s = bnd (evC (cx48 call) n48_7 s) (sqK (evC (cx48 call) n48_11)) := xS _ _
@[simp] theorem n48_5_eq : evC (cx48 call) n48_5 s = evLoop (evC (cx48 call) n48_6) s := xL _
@[simp] theorem n48_4_eq : evC (cx48 call) n48_4 s = bnd (evC (cx48 call) n48_5 s) fun r => some (inBlk 0 r) := xB 0 _
@[simp] theorem n48_3_eq : evC (cx48 call) n48_3 ⟨env, h⟩ = ( evC (cx48 call) n48_4 ⟨(Env.put env 6 (nat 0)), h⟩) := (xSR 2 (cOps (cL n48_3)) (cR n48_3)).trans (by
  refine opsK_0 ?_
  refine oT 6 (nat 0) ?_
  exact oE)
@[simp] theorem n48_16_eq : evC (cx48 call) n48_16 s = some (.ret, s) := xE
@[simp] theorem n48_15_eq : evC (cx48 call) n48_15 ⟨env, h⟩ = ( evC (cx48 call) n48_16 ⟨(Env.put env 4 (env.get 5)), h⟩) := (xSR 6 (cOps (cL n48_15)) (cR n48_15)).trans (by
  refine opsK_0 ?_
  refine oT 25 (env.get 5) ?_
  refine oT 4 (env.get 5) ?_
  exact oE)
@[simp] theorem n48_2_eq : evC (cx48 call) n48_2 s = bnd (evC (cx48 call) n48_3 s) (sqK (evC (cx48 call) n48_15)) := xS _ _
@[simp] theorem n48_1_eq : evC (cx48 call) n48_1 ⟨env, h⟩ = ( evC (cx48 call) n48_2 ⟨(Env.put env 5 .nilslice), h⟩) := (xSR 1 (cOps (cL n48_1)) (cR n48_1)).trans (by
  refine opsK_0 ?_
  refine oT 5 .nilslice ?_
  exact oE)
@[simp] theorem n48_0_eq : evC (cx48 call) n48_0 ⟨env, h⟩ = ( evC (cx48 call) n48_1 ⟨(Env.put env 4 .nilslice), h⟩) := (xSR 0 (cOps (cL n48_0)) (cR n48_0)).trans (by
  refine opsK_0 ?_
  refine oT 4 .nilslice ?_
  exact oE)
theorem b48 (call : Calling) (a0 a1 : AV) (h : Heap) : evBody (cx48 call) Try.f48 n48_0 [a0, a1] h = bnd (evC (cx48 call) n48_0 ⟨[(0, a0), (1, a1), (2, .junk), (3, .junk), (4, .junk), (5, .junk), (6, .junk), (10, .junk)], h⟩) (retK fun s => bnd (bnd (some (s.env.get 4)) fun v => bnd (some []) fun vs => some (v :: vs)) fun vs => some (oneOrTuple vs)) := by kernel_rfl
theorem fn48 : Try.prog.funcs[48]? = some Try.f48 := by kernel_rfl
theorem k48 : Callable Try.prog 48 := ⟨Try.f48, fn48, by kernel_rfl, by kernel_rfl⟩
theorem s48 {call : Calling} (hc : CallOK Try.prog call) {args : List AV} {h h' : Heap} {v : AV} (he : evBody (cx48 call) Try.f48 n48_0 args h = some (v, h')) : Spec Try.prog 48 args h v h' := body_sound (C := cx48 call) TT_ok hc mixed_ok fn48 (by kernel_rfl) (by kernel_rfl) he
def sn48 := Y n48_9_eq (Y n48_10_eq (Y n48_8_eq (Y n48_7_eq (Y n48_13_eq (Y n48_12_eq (Y n48_14_eq (Y n48_11_eq (Y n48_6_eq (Y n48_5_eq (Y n48_4_eq (Y n48_3_eq (Y n48_16_eq (Y n48_15_eq (Y n48_2_eq (Y n48_1_eq (n48_0_eq))))))))))))))))
end
end Go.Vab

/-
  The document's sum of bytes, walked.
-/
namespace Go.Vab
open Go Go.Proofs

def xorF (g f : Nat → BitVec 8) : Nat → BitVec 8 := fun j => g j ^^^ f j

theorem walk48 (call : Calling) (h : Heap) (x y : AV) (n m : Nat) (g f : Nat → BitVec 8) (hx : Byt h x n g) (hy : Byt h y m f) (hnm : n ≤ m) (hn : n < 100000000) :
    ∃ o u, evBody (cx48 call) Try.f48 n48_0 [x, y] h = some (o, h ++ u) ∧ OutS h u o n (xorF g f) := by
  have lx := hx.len
  rw [b48]
  have main : Evs (evC (cx48 call) n48_0 ⟨[(0, x), (1, y), (2, .junk), (3, .junk), (4, .junk), (5, .junk), (6, .junk), (10, .junk)], h⟩) (fun r => ∃ env u, r = (.ret, ⟨env, h ++ u⟩) ∧ OutS h u (env.get 4) n (xorF g f)) := by
    obtain ⟨env, he⟩ : ∃ env : Env, env = [(0, x), (1, y), (2, .junk), (3, .junk), (4, .junk), (5, .junk), (6, .junk), (10, .junk)] := ⟨_, rfl⟩
    rw [← he]
    have g0 : env.get 0 = x := by rw [he]; rfl
    have g1 : env.get 1 = y := by rw [he]; rfl
    clear he
    repeat (first | (with_reducible refine Evs.assoc ?_) | ((with_reducible refine Evs.some_bnd ?_); try dsimp only [sqK_nrm, sqK_exit, sqK_ret]) | ((with_reducible apply Evs.bcndT); (focus (simp (disch := omega) [g0, g1] <;> omega))) | ((with_reducible apply Evs.bcndF); (focus (simp (disch := omega) [g0, g1] <;> omega))) | ((with_reducible apply Evs.step); (focus ((conv => lhs; simp (disch := omega) [g0, g1]); done)); try dsimp only) | (simp only [sn48, snB]))
    refine Evs.bnd (Q := fun r => ∃ env' u, r = (.exit 0, ⟨env', h ++ u⟩) ∧ OutS h u (env'.get 5) n (xorF g f)) ?_ ?_
    · refine Evs.up n (fun i s => ∃ env' u, s = ⟨env', h ++ u⟩ ∧ env'.get 0 = x ∧ env'.get 1 = y ∧ env'.get 6 = nat i ∧ OutS h u (env'.get 5) i (xorF g f)) ?_ ?_
        ⟨_, [], by rw [List.append_nil], by simp [g0], by simp [g1], by simp, .inl ⟨rfl, by simp⟩⟩
      · rintro i s hi ⟨env', u, rfl, e0, e1, e6, hO⟩
        obtain ⟨p, p1, p2, p3⟩ := hx.idx hi
        obtain ⟨q, q1, q2, q3⟩ := hy.idx (show i < m by omega)
        obtain ⟨o', u', a1, a2, a3⟩ := app1 (x := g i ^^^ f i) (by omega) hO rfl
        repeat (first | (with_reducible refine Evs.assoc ?_) | ((with_reducible refine Evs.some_bnd ?_); try dsimp only [sqK_nrm, sqK_exit, sqK_ret]) | ((with_reducible apply Evs.bcndT); (focus (simp (disch := omega) [e0, e1, e6, lx, p1, p3, q1, q3, a1] <;> omega))) | ((with_reducible apply Evs.bcndF); (focus (simp (disch := omega) [e0, e1, e6, lx, p1, p3, q1, q3, a1] <;> omega))) | ((with_reducible apply Evs.step); (focus ((conv => lhs; simp (disch := omega) [e0, e1, e6, lx, p1, p3, q1, q3, a1]); done)); try dsimp only) | (simp only [sn48, snB]))
        exact Evs.ret ⟨rfl, _, u', rfl, by simp [e0], by simp [e1], by simp, by simpa using a2⟩
      · rintro s ⟨env', u, rfl, e0, e1, e6, hO⟩
        repeat (first | (with_reducible refine Evs.assoc ?_) | ((with_reducible refine Evs.some_bnd ?_); try dsimp only [sqK_nrm, sqK_exit, sqK_ret]) | ((with_reducible apply Evs.bcndT); (focus (simp (disch := omega) [e0, e6, lx] <;> omega))) | ((with_reducible apply Evs.bcndF); (focus (simp (disch := omega) [e0, e6, lx] <;> omega))) | ((with_reducible apply Evs.step); (focus ((conv => lhs; simp (disch := omega) [e0, e6, lx]); done)); try dsimp only) | (simp only [sn48, snB]))
        exact Evs.ret ⟨by simp, _, u, rfl, by simpa using hO⟩
    · rintro r ⟨env', u, rfl, hO⟩
      repeat (first | (with_reducible refine Evs.assoc ?_) | ((with_reducible refine Evs.some_bnd ?_); try dsimp only [sqK_nrm, sqK_exit, sqK_ret]) | ((with_reducible apply Evs.bcndT); (focus (simp (disch := omega) <;> omega))) | ((with_reducible apply Evs.bcndF); (focus (simp (disch := omega) <;> omega))) | ((with_reducible apply Evs.step); (focus ((conv => lhs; simp (disch := omega)); done)); try dsimp only) | (simp only [sn48, snB]))
      exact Evs.ret ⟨_, _, rfl, by simpa using hO⟩
  obtain ⟨r, hr, env, u, rfl, hO⟩ := main
  refine ⟨env.get 4, u, ?_, hO⟩
  rw [hr]
  simp [oneOrTuple]

noncomputable def c48 := conC (fun x : (AV) × (AV) × (Nat) × (Nat) × (Nat → BitVec 8) × (Nat → BitVec 8) => [x.1, x.2.1]) (fun (x : (AV) × (AV) × (Nat) × (Nat) × (Nat → BitVec 8) × (Nat → BitVec 8)) h => Byt h x.1 x.2.2.1 x.2.2.2.2.1 ∧ Byt h x.2.1 x.2.2.2.1 x.2.2.2.2.2 ∧ x.2.2.1 ≤ x.2.2.2.1 ∧ x.2.2.1 < 100000000) (fun (x : (AV) × (AV) × (Nat) × (Nat) × (Nat → BitVec 8) × (Nat → BitVec 8)) h => (outV x.2.2.1 h.length, outH x.2.2.1 h (xorF x.2.2.2.2.1 x.2.2.2.2.2)))
noncomputable def callS29 : Calling := addC callS28 48 c48
theorem c48_eq (x0 : AV) (y0 : AV) (n : Nat) (m : Nat) (g : Nat → BitVec 8) (f : Nat → BitVec 8) (h : Heap) (hc : Byt h x0 n g ∧ Byt h y0 m f ∧ n ≤ m ∧ n < 100000000) : c48 [x0, y0] h = some (outV n h.length, outH n h (xorF g f)) :=
  conC_eqP (enc := fun x : (AV) × (AV) × (Nat) × (Nat) × (Nat → BitVec 8) × (Nat → BitVec 8) => [x.1, x.2.1]) (P := fun (x : (AV) × (AV) × (Nat) × (Nat) × (Nat → BitVec 8) × (Nat → BitVec 8)) h => Byt h x.1 x.2.2.1 x.2.2.2.2.1 ∧ Byt h x.2.1 x.2.2.2.1 x.2.2.2.2.2 ∧ x.2.2.1 ≤ x.2.2.2.1 ∧ x.2.2.1 < 100000000) (a := (x0, y0, n, m, g, f)) (f := fun (x : (AV) × (AV) × (Nat) × (Nat) × (Nat → BitVec 8) × (Nat → BitVec 8)) h => (outV x.2.2.1 h.length, outH x.2.2.1 h (xorF x.2.2.2.2.1 x.2.2.2.2.2))) (fun x y h hp hq e => by
    have e1 := (List.cons.inj e).1
    have e2 := (List.cons.inj (List.cons.inj e).2).1
    rw [e1, e2] at hp
    obtain ⟨d1, d2⟩ := hp.1.det hq.1
    obtain ⟨d3, d4⟩ := hp.2.1.det hq.2.1
    have hle := hp.2.2.1
    rw [← d1]
    unfold outH
    rw [arr_congr fun i hi => show xorF x.2.2.2.2.1 x.2.2.2.2.2 i = xorF y.2.2.2.2.1 y.2.2.2.2.2 i by unfold xorF; rw [d2 i hi, d4 i (by omega)]]
    ) hc
theorem callS29_ok : CallOK Try.prog callS29 := addC_con callS28_ok k48 fun x h hx => by
  obtain ⟨o, u, hr, hO⟩ := walk48 callS28 h _ _ _ _ _ _ hx.1 hx.2.1 hx.2.2.1 hx.2.2.2
  exact spec_out (s48 callS28_ok hr) hO
@[simp] theorem callS29_ne {f : Nat} (args : List AV) (h : Heap) (hf : f ≠ 48) : callS29 f args h = callS28 f args h := addC_ne _ _ _ args h hf
@[simp] theorem callS29_sne {f : Nat} (args : List AV) (h : Heap) (hf : f ≠ 48) : still callS29 f args h = still callS28 f args h := still_ne _ _ _ args h hf
theorem callS29_48 (x0 : AV) (y0 : AV) (n : Nat) (m : Nat) (g : Nat → BitVec 8) (f : Nat → BitVec 8) (h : Heap) (hc : Byt h x0 n g ∧ Byt h y0 m f ∧ n ≤ m ∧ n < 100000000) : callS29 48 [x0, y0] h = some (outV n h.length, outH n h (xorF g f)) := by
  unfold callS29; rw [addC_same]; exact c48_eq x0 y0 n m g f h hc

end Go.Vab

/- How the evaluator reads the functions of a seat. Printed by wip/tools/gen.py (own work). -/
namespace Go.Vab
open Go Go.Proofs
noncomputable section
variable (call : Calling) (env : Env) (h : Heap) (s : St)
/-! vestry/vestryref09.Stream -/
def cx49 (call : Calling) : Ctx := ⟨call, TT, 85, [10, 19, 20, 21, 22, 23, 24, 25, 26, 27, 29, 30, 31, 32, 33, 34, 35, 36, 37, 38, 39, 40, 41, 42, 43, 44, 45, 46, 47, 48, 49, 50, 51, 52, 53, 54, 55, 56, 57, 58, 59, 61, 62, 63, 64, 65, 66, 67, 68, 69, 70, 71, 72, 73, 74, 76, 77, 78, 79, 80, 81, 82, 83, 84]⟩
def n49_0 : Code := bodyOf Try.f49
def n49_1 : Code := cR n49_0
def n49_2 : Code := cR n49_1
def n49_3 : Code := cR n49_2
def n49_4 : Code := cR n49_3
def n49_5 : Code := cL n49_4
def n49_6 : Code := cR n49_5
def n49_7 : Code := cB n49_6
def n49_8 : Code := cB n49_7
def n49_9 : Code := cL n49_8
def n49_10 : Code := cR n49_9
def n49_11 : Code := cL n49_10
def n49_12 : Code := cR n49_10
def n49_13 : Code := cR n49_8
def n49_14 : Code := cL n49_13
def n49_15 : Code := cB n49_14
def n49_16 : Code := cR n49_15
def n49_17 : Code := cR n49_16
def n49_18 : Code := cR n49_17
def n49_19 : Code := cL n49_18
def n49_20 : Code := cR n49_19
def n49_21 : Code := cB n49_20
def n49_22 : Code := cB n49_21
def n49_23 : Code := cL n49_22
def n49_24 : Code := cR n49_23
def n49_25 : Code := cL n49_24
def n49_26 : Code := cR n49_24
def n49_27 : Code := cR n49_22
def n49_28 : Code := cL n49_27
def n49_29 : Code := cB n49_28
def n49_30 : Code := cR n49_29
def n49_31 : Code := cR n49_27
def n49_32 : Code := cR n49_18
def n49_33 : Code := cR n49_32
def n49_34 : Code := cR n49_33
def n49_35 : Code := cB n49_34
def n49_36 : Code := cB n49_35
def n49_37 : Code := cL n49_36
def n49_38 : Code := cR n49_37
def n49_39 : Code := cL n49_38
def n49_40 : Code := cR n49_38
def n49_41 : Code := cR n49_36
def n49_42 : Code := cL n49_41
def n49_43 : Code := cB n49_42
def n49_44 : Code := cR n49_41
def n49_45 : Code := cR n49_13
def n49_46 : Code := cR n49_4
def n49_47 : Code := cR n49_46
@[simp] theorem n49_11_eq : evC (cx49 call) n49_11 s = some (.nrm, s) := xK
@[simp] theorem n49_12_eq : evC (cx49 call) n49_12 s = some (.exit 0, s) := xX 0
@[simp] theorem n49_10_eq : evC (cx49 call) n49_10 s = cnd (s.env.get 28) (evC (cx49 call) n49_11 s) (evC (cx49 call) n49_12 s) := xC 28 _ _
@[simp] theorem n49_9_eq : evC (cx49 call) n49_9 ⟨env, h⟩ = (bnd (pureV h (mBin .lss (env.get 13) (env.get 3))) fun r2 => evC (cx49 call) n49_10 ⟨(Env.put env 28 r2.1), r2.2⟩) := (xSR 5 (cOps (cL n49_9)) (cR n49_9)).trans (by
  refine opsK_0 ?_
  refine oT 26 (env.get 13) ?_
  refine oT 27 (env.get 3) ?_
  refine oP 28 fun r2 => ?_
  exact oE)
@[simp] theorem n49_25_eq : evC (cx49 call) n49_25 s = some (.nrm, s) := xK
@[simp] theorem n49_26_eq : evC (cx49 call) n49_26 s = some (.exit 2, s) := xX 2
@[simp] theorem n49_24_eq : evC (cx49 call) n49_24 s = cnd (s.env.get 60) (evC (cx49 call) n49_25 s) (evC (cx49 call) n49_26 s) := xC 60 _ _
@[simp] theorem n49_23_eq : evC (cx49 call) n49_23 ⟨env, h⟩ = (bnd (pureV h (mBin .lss (env.get 16) (nat 4))) fun r1 => evC (cx49 call) n49_24 ⟨(Env.put env 60 r1.1), r1.2⟩) := (xSR 11 (cOps (cL n49_23)) (cR n49_23)).trans (by
  refine opsK_0 ?_
  refine oT 59 (env.get 16) ?_
  refine oP 60 fun r1 => ?_
  exact oE)
@[simp] theorem n49_30_eq : evC (cx49 call) n49_30 ⟨env, h⟩ = (bnd (pureV h (mBin .quo (env.get 15) (u64 256#64))) fun r1 => some (.nrm, ⟨(Env.put env 15 r1.1), r1.2⟩)) := (xR 14 (cOps n49_30)).trans (by
  refine opsK_0 ?_
  refine oT 68 (env.get 15) ?_
  refine oP 69 fun r1 => ?_
  refine oT 15 r1.1 ?_
  exact oE)
@[simp] theorem n49_29_eq : evC (cx49 call) n49_29 ⟨env, h⟩ = (bnd (pureV h (mBin .rem (env.get 15) (u64 256#64))) fun r2 => bnd (pureV r2.2 (mConv .u8 r2.1)) fun r3 => bnd (pureV r3.2 (mIdxA (.arr 16 (.int .u8)) (env.get 14) (env.get 16))) fun r4 => bnd (stU (.int .u8) r4.1 r3.1 r4.2) fun r5 => evC (cx49 call) n49_30 ⟨env, r5.2⟩) := (xSR 13 (cOps (cL n49_29)) (cR n49_29)).trans (by
  refine opsK_0 ?_
  refine oT 63 (env.get 16) ?_
  refine oT 64 (env.get 15) ?_
  refine oP 65 fun r2 => ?_
  refine oP 66 fun r3 => ?_
  refine oP 67 fun r4 => ?_
  refine oN fun r5 => ?_
  exact oE)
@[simp] theorem n49_28_eq : evC (cx49 call) n49_28 s = bnd (evC (cx49 call) n49_29 s) fun r => some (inBlk 3 r) := xB 3 _
@[simp] theorem n49_31_eq : evC (cx49 call) n49_31 ⟨env, h⟩ = (bnd (pureV h (mBin .add (env.get 16) (nat 1))) fun r1 => some (.nrm, ⟨(Env.put env 16 r1.1), r1.2⟩)) := (xR 12 (cOps n49_31)).trans (by
  refine opsK_0 ?_
  refine oT 61 (env.get 16) ?_
  refine oP 62 fun r1 => ?_
  refine oT 16 r1.1 ?_
  exact oE)
@[simp] theorem n49_27_eq : evC (cx49 call) n49_27 s = bnd (evC (cx49 call) n49_28 s) (sqK (evC (cx49 call) n49_31)) := xS _ _
@[simp] theorem n49_22_eq : evC (cx49 call) n49_22 s = bnd (evC (cx49 call) n49_23 s) (sqK (evC (cx49 call) n49_27)) := xS _ _
@[simp] theorem n49_21_eq : evC (cx49 call) n49_21 s = evLoop (evC (cx49 call) n49_22) s := xL _
@[simp] theorem n49_20_eq : evC (cx49 call) n49_20 s = bnd (evC (cx49 call) n49_21 s) fun r => some (inBlk 2 r) := xB 2 _
@[simp] theorem n49_19_eq : evC (cx49 call) n49_19 ⟨env, h⟩ = ( evC (cx49 call) n49_20 ⟨(Env.put env 16 (nat 0)), h⟩) := (xSR 10 (cOps (cL n49_19)) (cR n49_19)).trans (by
  refine opsK_0 ?_
  refine oT 16 (nat 0) ?_
  exact oE)
@[simp] theorem n49_39_eq : evC (cx49 call) n49_39 s = some (.nrm, s) := xK
@[simp] theorem n49_40_eq : evC (cx49 call) n49_40 s = some (.exit 4, s) := xX 4
@[simp] theorem n49_38_eq : evC (cx49 call) n49_38 s = cnd (s.env.get 75) (evC (cx49 call) n49_39 s) (evC (cx49 call) n49_40 s) := xC 75 _ _
@[simp] theorem n49_37_eq : evC (cx49 call) n49_37 ⟨env, h⟩ = (bnd (pureV h (mBin .lss (env.get 18) (nat 16))) fun r1 => evC (cx49 call) n49_38 ⟨(Env.put env 75 r1.1), r1.2⟩) := (xSR 17 (cOps (cL n49_37)) (cR n49_37)).trans (by
  refine opsK_0 ?_
  refine oT 74 (env.get 18) ?_
  refine oP 75 fun r1 => ?_
  exact oE)
@[simp] theorem n49_43_eq : evC (cx49 call) n49_43 ⟨env, h⟩ = (bnd (pureV h (mIdxA (.arr 16 (.int .u8)) (env.get 17) (env.get 18))) fun r2 => bnd (pureV r2.2 (mLoad (.int .u8) r2.1 r2.2)) fun r3 => bnd (mBuildSlice (.int .u8) (u8 0#8) 1 [(0, r3.1)] r3.2) fun r4 => bnd (mApp (.int .u8) 1 (env.get 12) r4.1 r4.2) fun r5 => some (.nrm, ⟨(Env.put env 12 r5.1), r5.2⟩)) := (xR 19 (cOps n49_43)).trans (by
  refine opsK_0 ?_
  refine oT 78 (env.get 12) ?_
  refine oT 79 (env.get 18) ?_
  refine oP 80 fun r2 => ?_
  refine oP 81 fun r3 => ?_
  refine oP 82 fun r4 => ?_
  refine oP 83 fun r5 => ?_
  refine oT 12 r5.1 ?_
  exact oE)
@[simp] theorem n49_42_eq : evC (cx49 call) n49_42 s = bnd (evC (cx49 call) n49_43 s) fun r => some (inBlk 5 r) := xB 5 _
@[simp] theorem n49_44_eq : evC (cx49 call) n49_44 ⟨env, h⟩ = (bnd (pureV h (mBin .add (env.get 18) (nat 1))) fun r1 => some (.nrm, ⟨(Env.put env 18 r1.1), r1.2⟩)) := (xR 18 (cOps n49_44)).trans (by
  refine opsK_0 ?_
  refine oT 76 (env.get 18) ?_
  refine oP 77 fun r1 => ?_
  refine oT 18 r1.1 ?_
  exact oE)
@[simp] theorem n49_41_eq : evC (cx49 call) n49_41 s = bnd (evC (cx49 call) n49_42 s) (sqK (evC (cx49 call) n49_44)) := xS _ _
@[simp] theorem n49_36_eq : evC (cx49 call) n49_36 s = bnd (evC (cx49 call) n49_37 s) (sqK (evC (cx49 call) n49_41)) := xS _ _
@[simp] theorem n49_35_eq : evC (cx49 call) n49_35 s = evLoop (evC (cx49 call) n49_36) s := xL _
@[simp] theorem n49_34_eq : evC (cx49 call) n49_34 s = bnd (evC (cx49 call) n49_35 s) fun r => some (inBlk 4 r) := xB 4 _
@[simp] theorem n49_33_eq : evC (cx49 call) n49_33 ⟨env, h⟩ = ( evC (cx49 call) n49_34 ⟨(Env.put env 18 (nat 0)), h⟩) := (xSR 16 (cOps (cL n49_33)) (cR n49_33)).trans (by
  refine opsK_0 ?_
  refine oT 18 (nat 0) ?_
  exact oE)
@[simp] theorem n49_32_eq : evC (cx49 call) n49_32 ⟨env, h⟩ = (bnd (pureV h (mLoad (.arr 32 (.int .u8)) (env.get 11) h)) fun r0 => bnd (pureV r0.2 (mLoad (.arr 16 (.int .u8)) (env.get 14) r0.2)) fun r1 => bnd (pureV r1.2 (mLoad (.arr 256 (.int .u8)) (env.get 9) r1.2)) fun r2 => bnd (call 42 [r0.1, r1.1, r2.1] r2.2) fun r3 => bnd (mNew (.arr 16 (.int .u8)) (arr 16 fun _ => 0#8) r3.2) fun r4 => bnd (stU (.arr 16 (.int .u8)) r4.1 r3.1 r4.2) fun r5 => evC (cx49 call) n49_33 ⟨(Env.put env 17 r4.1), r5.2⟩) := (xSR 15 (cOps (cL n49_32)) (cR n49_32)).trans (by
  refine opsK_0 ?_
  refine oP 70 fun r0 => ?_
  refine oP 71 fun r1 => ?_
  refine oP 72 fun r2 => ?_
  refine oP 73 fun r3 => ?_
  refine oP 17 fun r4 => ?_
  refine oN fun r5 => ?_
  exact oE)
@[simp] theorem n49_18_eq : evC (cx49 call) n49_18 s = bnd (evC (cx49 call) n49_19 s) (sqK (evC (cx49 call) n49_32)) := xS _ _
@[simp] theorem n49_17_eq : evC (cx49 call) n49_17 ⟨env, h⟩ = (bnd (pureV h (mIdxA (.arr 16 (.int .u8)) (env.get 14) (nat 0))) fun r0 => bnd (pureV r0.2 (mLoad (.int .u8) r0.1 r0.2)) fun r1 => bnd (pureV r1.2 (mConv .u64 r1.1)) fun r2 => bnd (pureV r2.2 (mIdxA (.arr 16 (.int .u8)) (env.get 14) (nat 1))) fun r3 => bnd (pureV r3.2 (mLoad (.int .u8) r3.1 r3.2)) fun r4 => bnd (pureV r4.2 (mConv .u64 r4.1)) fun r5 => bnd (pureV r5.2 (mBin .mul r5.1 (u64 256#64))) fun r6 => bnd (pureV r6.2 (mBin .add r2.1 r6.1)) fun r7 => bnd (pureV r7.2 (mIdxA (.arr 16 (.int .u8)) (env.get 14) (nat 2))) fun r8 => bnd (pureV r8.2 (mLoad (.int .u8) r8.1 r8.2)) fun r9 => bnd (pureV r9.2 (mConv .u64 r9.1)) fun r10 => bnd (pureV r10.2 (mBin .mul r10.1 (u64 65536#64))) fun r11 => bnd (pureV r11.2 (mBin .add r7.1 r11.1)) fun r12 => bnd (pureV r12.2 (mIdxA (.arr 16 (.int .u8)) (env.get 14) (nat 3))) fun r13 => bnd (pureV r13.2 (mLoad (.int .u8) r13.1 r13.2)) fun r14 => bnd (pureV r14.2 (mConv .u64 r14.1)) fun r15 => bnd (pureV r15.2 (mBin .mul r15.1 (u64 16777216#64))) fun r16 => bnd (pureV r16.2 (mBin .add r12.1 r16.1)) fun r17 => bnd (pureV r17.2 (mBin .quo (env.get 13) (nat 16))) fun r19 => bnd (pureV r19.2 (mConv .u64 r19.1)) fun r20 => bnd (pureV r20.2 (mBin .add r17.1 r20.1)) fun r21 => evC (cx49 call) n49_18 ⟨(Env.put env 15 r21.1), r21.2⟩) := (xSR 9 (cOps (cL n49_17)) (cR n49_17)).trans (by
  refine opsK_0 ?_
  refine oP 37 fun r0 => ?_
  refine oP 38 fun r1 => ?_
  refine oP 39 fun r2 => ?_
  refine oP 40 fun r3 => ?_
  refine oP 41 fun r4 => ?_
  refine oP 42 fun r5 => ?_
  refine oP 43 fun r6 => ?_
  refine oP 44 fun r7 => ?_
  refine oP 45 fun r8 => ?_
  refine oP 46 fun r9 => ?_
  refine oP 47 fun r10 => ?_
  refine oP 48 fun r11 => ?_
  refine oP 49 fun r12 => ?_
  refine oP 50 fun r13 => ?_
  refine oP 51 fun r14 => ?_
  refine oP 52 fun r15 => ?_
  refine oP 53 fun r16 => ?_
  refine oP 54 fun r17 => ?_
  refine oT 55 (env.get 13) ?_
  refine oP 56 fun r19 => ?_
  refine oP 57 fun r20 => ?_
  refine oP 58 fun r21 => ?_
  refine oT 15 r21.1 ?_
  exact oE)
@[simp] theorem n49_16_eq : evC (cx49 call) n49_16 ⟨env, h⟩ = (bnd (pureV h (mIdxA (.arr 16 (.int .u8)) (env.get 14) (nat 15))) fun r0 => bnd (pureV r0.2 (mLoad (.int .u8) r0.1 r0.2)) fun r1 => bnd (pureV r1.2 (mBin .rem r1.1 (u8 128#8))) fun r2 => bnd (pureV r2.2 (mBin .add r2.1 (u8 128#8))) fun r3 => bnd (pureV r3.2 (mIdxA (.arr 16 (.int .u8)) (env.get 14) (nat 15))) fun r4 => bnd (stU (.int .u8) r4.1 r3.1 r4.2) fun r5 => evC (cx49 call) n49_17 ⟨env, r5.2⟩) := (xSR 8 (cOps (cL n49_16)) (cR n49_16)).trans (by
  refine opsK_0 ?_
  refine oP 32 fun r0 => ?_
  refine oP 33 fun r1 => ?_
  refine oP 34 fun r2 => ?_
  refine oP 35 fun r3 => ?_
  refine oP 36 fun r4 => ?_
  refine oN fun r5 => ?_
  exact oE)
@[simp] theorem n49_15_eq : evC (cx49 call) n49_15 ⟨env, h⟩ = (bnd (pureV h (mLoad (.arr 16 (.int .u8)) (env.get 6) h)) fun r0 => bnd (mNew (.arr 16 (.int .u8)) (arr 16 fun _ => 0#8) r0.2) fun r1 => bnd (stU (.arr 16 (.int .u8)) r1.1 r0.1 r1.2) fun r2 => evC (cx49 call) n49_16 ⟨(Env.put env 14 r1.1), r2.2⟩) := (xSR 7 (cOps (cL n49_15)) (cR n49_15)).trans (by
  refine opsK_0 ?_
  refine oP 31 fun r0 => ?_
  refine oP 14 fun r1 => ?_
  refine oN fun r2 => ?_
  exact oE)
@[simp] theorem n49_14_eq : evC (cx49 call) n49_14 s = bnd (evC (cx49 call) n49_15 s) fun r => some (inBlk 1 r) := xB 1 _
@[simp] theorem n49_45_eq : evC (cx49 call) n49_45 ⟨env, h⟩ = (bnd (pureV h (mBin .add (env.get 13) (nat 16))) fun r1 => some (.nrm, ⟨(Env.put env 13 r1.1), r1.2⟩)) := (xR 6 (cOps n49_45)).trans (by
  refine opsK_0 ?_
  refine oT 29 (env.get 13) ?_
  refine oP 30 fun r1 => ?_
  refine oT 13 r1.1 ?_
  exact oE)
@[simp] theorem n49_13_eq : evC (cx49 call) n49_13 s = bnd (evC (cx49 call) n49_14 s) (sqK (evC (cx49 call) n49_45)) := xS _ _
@[simp] theorem n49_8_eq : evC (cx49 call) n49_8 s = bnd (evC (cx49 call) n49_9 s) (sqK (evC (cx49 call) n49_13)) := xS _ _
@[simp] theorem n49_7_eq : evC (cx49 call) n49_7 s = evLoop (evC (cx49 call) n49_8) s := xL _
@[simp] theorem n49_6_eq : evC (cx49 call) n49_6 s = bnd (evC (cx49 call) n49_7 s) fun r => some (inBlk 0 r) := xB 0 _
@[simp] theorem n49_5_eq : evC (cx49 call) n49_5 ⟨env, h⟩ = ( evC (cx49 call) n49_6 ⟨(Env.put env 13 (nat 0)), h⟩) := (xSR 4 (cOps (cL n49_5)) (cR n49_5)).trans (by
  refine opsK_0 ?_
  refine oT 13 (nat 0) ?_
  exact oE)
@[simp] theorem n49_47_eq : evC (cx49 call) n49_47 s = some (.ret, s) := xE
@[simp] theorem n49_46_eq : evC (cx49 call) n49_46 ⟨env, h⟩ = ( evC (cx49 call) n49_47 ⟨(Env.put env 8 (env.get 12)), h⟩) := (xSR 20 (cOps (cL n49_46)) (cR n49_46)).trans (by
  refine opsK_0 ?_
  refine oT 84 (env.get 12) ?_
  refine oT 8 (env.get 12) ?_
  exact oE)
@[simp] theorem n49_4_eq : evC (cx49 call) n49_4 s = bnd (evC (cx49 call) n49_5 s) (sqK (evC (cx49 call) n49_46)) := xS _ _
@[simp] theorem n49_3_eq : evC (cx49 call) n49_3 ⟨env, h⟩ = ( evC (cx49 call) n49_4 ⟨(Env.put env 12 .nilslice), h⟩) := (xSR 3 (cOps (cL n49_3)) (cR n49_3)).trans (by
  refine opsK_0 ?_
  refine oT 12 .nilslice ?_
  exact oE)
@[simp] theorem n49_2_eq : evC (cx49 call) n49_2 ⟨env, h⟩ = (bnd (pureV h (mLoad (.arr 32 (.int .u8)) (env.get 4) h)) fun r0 => bnd (pureV r0.2 (mLoad (.arr 12 (.int .u8)) (env.get 5) r0.2)) fun r1 => bnd (call 35 [r0.1, r1.1] r1.2) fun r2 => bnd (pureV r2.2 (mExtract r2.1 0)) fun r4 => bnd (pureV r4.2 (mExtract r2.1 1)) fun r5 => bnd (mNew (.arr 16 (.int .u8)) (arr 16 fun _ => 0#8) r5.2) fun r6 => bnd (mNew (.arr 32 (.int .u8)) (arr 32 fun _ => 0#8) r6.2) fun r7 => bnd (stU (.arr 16 (.int .u8)) r6.1 r4.1 r7.2) fun r8 => bnd (stU (.arr 32 (.int .u8)) r7.1 r5.1 r8.2) fun r9 => evC (cx49 call) n49_3 ⟨(Env.put env 11 r7.1), r9.2⟩) := (xSR 2 (cOps (cL n49_2)) (cR n49_2)).trans (by
  refine opsK_0 ?_
  refine oP 21 fun r0 => ?_
  refine oP 22 fun r1 => ?_
  refine oP 23 fun r2 => ?_
  refine oT 20 r2.1 ?_
  refine oP 24 fun r4 => ?_
  refine oP 25 fun r5 => ?_
  refine oP 10 fun r6 => ?_
  refine oP 11 fun r7 => ?_
  refine oN fun r8 => ?_
  refine oN fun r9 => ?_
  exact oE)
@[simp] theorem n49_1_eq : evC (cx49 call) n49_1 ⟨env, h⟩ = (bnd (call 43 [] h) fun r0 => bnd (mNew (.arr 256 (.int .u8)) (arr 256 fun _ => 0#8) r0.2) fun r1 => bnd (stU (.arr 256 (.int .u8)) r1.1 r0.1 r1.2) fun r2 => evC (cx49 call) n49_2 ⟨(Env.put env 9 r1.1), r2.2⟩) := (xSR 1 (cOps (cL n49_1)) (cR n49_1)).trans (by
  refine opsK_0 ?_
  refine oP 19 fun r0 => ?_
  refine oP 9 fun r1 => ?_
  refine oN fun r2 => ?_
  exact oE)
@[simp] theorem n49_0_eq : evC (cx49 call) n49_0 ⟨env, h⟩ = (bnd (mNew (.arr 32 (.int .u8)) (env.get 0) h) fun r0 => bnd (mNew (.arr 12 (.int .u8)) (env.get 1) r0.2) fun r1 => bnd (mNew (.arr 16 (.int .u8)) (env.get 2) r1.2) fun r2 => evC (cx49 call) n49_1 ⟨(Env.put (Env.put (Env.put (Env.put env 4 r0.1) 5 r1.1) 6 r2.1) 8 .nilslice), r2.2⟩) := (xSR 0 (cOps (cL n49_0)) (cR n49_0)).trans (by
  refine opsK_0 ?_
  refine oP 4 fun r0 => ?_
  refine oP 5 fun r1 => ?_
  refine oP 6 fun r2 => ?_
  refine oT 8 .nilslice ?_
  exact oE)
theorem b49 (call : Calling) (a0 a1 a2 a3 : AV) (h : Heap) : evBody (cx49 call) Try.f49 n49_0 [a0, a1, a2, a3] h = bnd (evC (cx49 call) n49_0 ⟨[(0, a0), (1, a1), (2, a2), (3, a3), (4, .junk), (5, .junk), (6, .junk), (7, .junk), (8, .junk), (9, .junk), (11, .junk), (12, .junk), (13, .junk), (14, .junk), (15, .junk), (16, .junk), (17, .junk), (18, .junk), (28, .junk), (60, .junk), (75, .junk)], h⟩) (retK fun s => bnd (bnd (some (s.env.get 8)) fun v => bnd (some []) fun vs => some (v :: vs)) fun vs => some (oneOrTuple vs)) := by kernel_rfl
theorem fn49 : Try.prog.funcs[49]? = some Try.f49 := by kernel_rfl
theorem k49 : Callable Try.prog 49 := ⟨Try.f49, fn49, by kernel_rfl, by kernel_rfl⟩
theorem s49 {call : Calling} (hc : CallOK Try.prog call) {args : List AV} {h h' : Heap} {v : AV} (he : evBody (cx49 call) Try.f49 n49_0 args h = some (v, h')) : Spec Try.prog 49 args h v h' := body_sound (C := cx49 call) TT_ok hc mixed_ok fn49 (by kernel_rfl) (by kernel_rfl) he
def sn49 := Y n49_11_eq (Y n49_12_eq (Y n49_10_eq (Y n49_9_eq (Y n49_25_eq (Y n49_26_eq (Y n49_24_eq (Y n49_23_eq (Y n49_30_eq (Y n49_29_eq (Y n49_28_eq (Y n49_31_eq (Y n49_27_eq (Y n49_22_eq (Y n49_21_eq (Y n49_20_eq (Y n49_19_eq (Y n49_39_eq (Y n49_40_eq (Y n49_38_eq (Y n49_37_eq (Y n49_43_eq (Y n49_42_eq (Y n49_44_eq (Y n49_41_eq (Y n49_36_eq (Y n49_35_eq (Y n49_34_eq (Y n49_33_eq (Y n49_32_eq (Y n49_18_eq (Y n49_17_eq (Y n49_16_eq (Y n49_15_eq (Y n49_14_eq (Y n49_45_eq (Y n49_13_eq (Y n49_8_eq (Y n49_7_eq (Y n49_6_eq (Y n49_5_eq (Y n49_47_eq (Y n49_46_eq (Y n49_4_eq (Y n49_3_eq (Y n49_2_eq (Y n49_1_eq (n49_0_eq)))))))))))))))))))))))))))))))))))))))))))))))
end
end Go.Vab

/-
  The document's stream, walked.
-/
namespace Go.Vab
open Go Go.Proofs

def strF (key t : Nat → BitVec 8) : Nat → BitVec 8 := fun j => encF (wd key) (ctr (topF t) (j / 16)) (j % 16)

def or128T (x : Nat) : Bool := Nat.beq (BitVec.ofNat 8 x ||| 128#8).toNat (BitVec.ofNat 8 x % 128#8 + 128#8).toNat
theorem or128 (x : BitVec 8) : x % 128#8 + 128#8 = x ||| 128#8 := by
  have key : (List.range 256).all or128T = true := by kernel_rfl
  rw [List.all_eq_true] at key
  have := Nat.eq_of_beq_eq_true (key x.toNat (List.mem_range.2 x.isLt))
  rw [BitVec.ofNat_toNat, BitVec.setWidth_eq] at this
  exact (BitVec.eq_of_toNat_eq this).symm

/-- The counter, as the document has it. -/
def cntX (c : Nat → BitVec 8) (q : Nat) : BitVec 64 := (c 0).setWidth 64 + (c 1).setWidth 64 * 256#64 + (c 2).setWidth 64 * 65536#64 + (c 3).setWidth 64 * 16777216#64 + BitVec.ofNat 64 q
theorem add64 {x y : BitVec 64} {a b : Nat} (hx : x.toNat = a) (hy : y.toNat = b) (h : a + b < 2 ^ 64) : (x + y).toNat = a + b := by
  rw [BitVec.toNat_add, hx, hy, Nat.mod_eq_of_lt h]
theorem mul64 {x y : BitVec 64} {a b : Nat} (hx : x.toNat = a) (hy : y.toNat = b) (h : a * b < 2 ^ 64) : (x * y).toNat = a * b := by
  rw [BitVec.toNat_mul, hx, hy, Nat.mod_eq_of_lt h]
theorem lt64 {a : Nat} (h : a < 9223372036854775808) : a < 2 ^ 64 := Nat.lt_of_lt_of_le h (by decide)
theorem wide8 (x : BitVec 8) : (x.setWidth 64).toNat = x.toNat := by
  rw [BitVec.toNat_setWidth, Nat.mod_eq_of_lt (lt64 (Nat.lt_trans x.isLt (by decide)))]
theorem of64 {n : Nat} (h : n < 9223372036854775808) : (BitVec.ofNat 64 n).toNat = n := by
  rw [BitVec.toNat_ofNat, Nat.mod_eq_of_lt (lt64 h)]
theorem cntX_toNat (c : Nat → BitVec 8) (q : Nat) (hq : q < 100000000) : (cntX c q).toNat = (c 0).toNat + (c 1).toNat * 256 + (c 2).toNat * 65536 + (c 3).toNat * 16777216 + q := by
  have a0 := (c 0).isLt
  have a1 := (c 1).isLt
  have a2 := (c 2).isLt
  have a3 := (c 3).isLt
  unfold cntX
  exact add64 (add64 (add64 (add64 (wide8 _) (mul64 (wide8 _) (of64 (by decide)) (lt64 (by omega))) (lt64 (by omega))) (mul64 (wide8 _) (of64 (by decide)) (lt64 (by omega))) (lt64 (by omega))) (mul64 (wide8 _) (of64 (by decide)) (lt64 (by omega))) (lt64 (by omega))) (of64 (by omega)) (lt64 (by omega))
theorem low32 (n q : Nat) : (n + q % 4294967296) % 4294967296 = (n + q) % 4294967296 := by omega
theorem cnt_ctr (c : Nat → BitVec 8) (q : Nat) (hq : q < 100000000) {k : Nat} (hk : k < 4) : ((cntX c q) >>> (8 * k)).setWidth 8 = ctr c q k := by
  unfold ctr
  rw [if_pos hk]
  apply BitVec.eq_of_toNat_eq
  have e := cntX_toNat c q hq
  have e2 : (w4 c + BitVec.ofNat 32 q).toNat = (cntX c q).toNat % 4294967296 := by
    rw [e, BitVec.toNat_add, w4_toNat, BitVec.toNat_ofNat]
    show (_ + q % 4294967296) % 4294967296 = _
    rw [low32, Nat.mul_comm 256, Nat.mul_comm 65536, Nat.mul_comm 16777216]
  rw [BitVec.toNat_setWidth, BitVec.toNat_setWidth, BitVec.toNat_ushiftRight, BitVec.toNat_ushiftRight, e2, Nat.shiftRight_eq_div_pow, Nat.shiftRight_eq_div_pow]
  generalize (cntX c q).toNat = z
  rcases (by omega : k = 0 ∨ k = 1 ∨ k = 2 ∨ k = 3) with rfl | rfl | rfl | rfl
  · show z / 1 % 256 = z % 4294967296 / 1 % 256
    omega
  · show z / 256 % 256 = z % 4294967296 / 256 % 256
    omega
  · show z / 65536 % 256 = z % 4294967296 / 65536 % 256
    omega
  · show z / 16777216 % 256 = z % 4294967296 / 16777216 % 256
    omega

def S49 (L : Nat) (tag key : Nat → BitVec 8) (n : Nat) (env : Env) (u : Heap) : Prop :=
  env.get 6 = .ptr (L + 2) 0 [] (.arr 16 (.int .u8)) ∧ env.get 9 = .ptr (L + 3) 0 [] (.arr 256 (.int .u8)) ∧ env.get 11 = .ptr (L + 5) 0 [] (.arr 32 (.int .u8)) ∧ env.get 3 = nat n ∧
    u[2]? = some ⟨arr 16 tag, 0, .own⟩ ∧ u[3]? = some ⟨arr 256 sbF, 0, .own⟩ ∧ u[5]? = some ⟨arr 32 key, 0, .own⟩
theorem S49.same {L : Nat} {tag key : Nat → BitVec 8} {n : Nat} {env env' : Env} {u : Heap} (h : S49 L tag key n env u) (hs : Same [3, 6, 9, 11] env env') : S49 L tag key n env' u :=
  ⟨by rw [hs.get 6 rfl]; exact h.1, by rw [hs.get 9 rfl]; exact h.2.1, by rw [hs.get 11 rfl]; exact h.2.2.1, by rw [hs.get 3 rfl]; exact h.2.2.2.1, h.2.2.2.2⟩
theorem S49.keep {L : Nat} {tag key : Nat → BitVec 8} {n : Nat} {env : Env} {u u' : Heap} (h : S49 L tag key n env u) (hk : ∀ (j : Nat) (b : Blk), u[j]? = some b → b.mode ≠ .open → u'[j]? = some b) : S49 L tag key n env u' :=
  ⟨h.1, h.2.1, h.2.2.1, h.2.2.2.1, hk _ _ h.2.2.2.2.1 (by simp), hk _ _ h.2.2.2.2.2.1 (by simp), hk _ _ h.2.2.2.2.2.2 (by simp)⟩
theorem S49.app {L : Nat} {tag key : Nat → BitVec 8} {n : Nat} {env : Env} {u : Heap} (h : S49 L tag key n env u) (l : Heap) : S49 L tag key n env (u ++ l) :=
  h.keep fun j b hb _ => by rw [List.getElem?_append_left (List.getElem?_eq_some_iff.1 hb).1]; exact hb

/-- The bytes of a block, appended. -/
theorem rows49 (h : Heap) (tag key : Nat → BitVec 8) (n q jb : Nat) (B F : Nat → BitVec 8) (hq : q < 10000000) (hB : ∀ k, k < 16 → B k = F (16 * q + k)) (env : Env) (u : Heap) (hS : S49 h.length tag key n env u) (hb : u[jb]? = some ⟨arr 16 B, 0, .own⟩)
    (e17 : env.get 17 = .ptr (h.length + jb) 0 [] (.arr 16 (.int .u8))) (e18 : env.get 18 = nat 0) (hO : OutS h u (env.get 12) (16 * q) F) :
    Evs (evLoop (evC (cx49 callS29) n49_36) ⟨env, h ++ u⟩) (fun r => ∃ env' u', r = (.exit 4, ⟨env', h ++ u'⟩) ∧ Same [3, 6, 9, 11, 13] env env' ∧ S49 h.length tag key n env' u' ∧ OutS h u' (env'.get 12) (16 * q + 16) F) := by
  refine Evs.up 16 (fun k s => ∃ env' u', s = ⟨env', h ++ u'⟩ ∧ Same [3, 6, 9, 11, 13, 17] env env' ∧ S49 h.length tag key n env' u' ∧ u'[jb]? = some ⟨arr 16 B, 0, .own⟩ ∧ env'.get 18 = nat k ∧ OutS h u' (env'.get 12) (16 * q + k) F) ?_ ?_
    ⟨_, _, rfl, Same.refl _ _, hS, hb, e18, hO⟩
  · rintro k s hk ⟨env', u', rfl, hs, hS', hb', f18, hO'⟩
    have f17 := (hs.get 17 rfl).trans e17
    have b1 := at_blk hb'
    obtain ⟨o', u2, a1, a2, a3⟩ := app1 (x := B k) (by omega) hO' (hB k hk)
    repeat (first | (with_reducible refine Evs.assoc ?_) | ((with_reducible refine Evs.some_bnd ?_); try dsimp only [sqK_nrm, sqK_exit, sqK_ret]) | ((with_reducible apply Evs.bcndT); (focus (simp (disch := omega) [f17, f18, b1, a1] <;> omega))) | ((with_reducible apply Evs.bcndF); (focus (simp (disch := omega) [f17, f18, b1, a1] <;> omega))) | ((with_reducible apply Evs.step); (focus ((conv => lhs; simp (disch := omega) [f17, f18, b1, a1]); done)); try dsimp only) | (simp only [sn49, snB]))
    refine Evs.ret ⟨rfl, _, u2, rfl, by repeat (first | exact hs | refine Same.put rfl ?_), (hS'.keep a3).same (by repeat (first | exact Same.refl _ _ | refine Same.put rfl ?_)), a3 _ _ hb' (by simp), by simp, by simpa [Nat.add_assoc] using a2⟩
  · rintro s ⟨env', u', rfl, hs, hS', hb', f18, hO'⟩
    repeat (first | (with_reducible refine Evs.assoc ?_) | ((with_reducible refine Evs.some_bnd ?_); try dsimp only [sqK_nrm, sqK_exit, sqK_ret]) | ((with_reducible apply Evs.bcndT); (focus (simp (disch := omega) [f18] <;> omega))) | ((with_reducible apply Evs.bcndF); (focus (simp (disch := omega) [f18] <;> omega))) | ((with_reducible apply Evs.step); (focus ((conv => lhs; simp (disch := omega) [f18]); done)); try dsimp only) | (simp only [sn49, snB]))
    exact Evs.ret ⟨by simp, _, u', rfl, by repeat (first | exact hs.sub rfl | refine Same.put rfl ?_), hS'.same (by repeat (first | exact Same.refl _ _ | refine Same.put rfl ?_)), by simpa using hO'⟩

end Go.Vab

/-
  The document's stream, walked to its end.
-/
namespace Go.Vab
open Go Go.Proofs

/-- The counter's bytes, laid down. -/
theorem cnt49 (h u : Heap) (tag : Nat → BitVec 8) (q : Nat) (hq : q < 10000000) (env : Env) (e14 : env.get 14 = .ptr (h.length + u.length) 0 [] (.arr 16 (.int .u8))) (e15 : env.get 15 = u64 (cntX tag q)) (e16 : env.get 16 = nat 0) :
    Evs (evLoop (evC (cx49 callS29) n49_22) ⟨env, h ++ (u ++ [⟨arr 16 (topF tag), 0, .own⟩])⟩) (fun r => ∃ env' c, r = (.exit 2, ⟨env', h ++ (u ++ [⟨arr 16 c, 0, .own⟩])⟩) ∧ Same [3, 6, 9, 11, 12, 13, 14] env env' ∧ ∀ j, j < 16 → c j = ctr (topF tag) q j) := by
  refine Evs.up 4 (fun k s => ∃ env' c, s = ⟨env', h ++ (u ++ [⟨arr 16 c, 0, .own⟩])⟩ ∧ Same [3, 6, 9, 11, 12, 13, 14] env env' ∧ env'.get 16 = nat k ∧ env'.get 15 = u64 ((cntX tag q) >>> (8 * k)) ∧ ∀ j, j < 16 → c j = if j < k then ctr (topF tag) q j else topF tag j) ?_ ?_
    ⟨_, _, rfl, Same.refl _ _, e16, by rw [e15]; simp, fun j _ => by simp⟩
  · rintro k s hk ⟨env', c, rfl, hs, f16, f15, hc⟩
    have f14 := (hs.get 14 rfl).trans e14
    have r1 : ∀ x, mBin .rem (u64 x) (u64 256#64) = some (u64 (x % 256#64)) := fun x => u64_rem _ _ (by decide)
    have r2 : ∀ x, mBin .quo (u64 x) (u64 256#64) = some (u64 (x / 256#64)) := fun x => u64_quo _ _ (by decide)
    repeat (first | (with_reducible refine Evs.assoc ?_) | ((with_reducible refine Evs.some_bnd ?_); try dsimp only [sqK_nrm, sqK_exit, sqK_ret]) | ((with_reducible apply Evs.bcndT); (focus (simp (disch := omega) [f14, f15, f16, r1, r2] <;> omega))) | ((with_reducible apply Evs.bcndF); (focus (simp (disch := omega) [f14, f15, f16, r1, r2] <;> omega))) | ((with_reducible apply Evs.step); (focus ((conv => lhs; simp (disch := omega) [f14, f15, f16, r1, r2]); done)); try dsimp only) | (simp only [sn49, snB]))
    refine Evs.ret ⟨rfl, _, _, rfl, by repeat (first | exact hs | refine Same.put rfl ?_), by simp, ?_, fun j hj => ?_⟩
    · rw [← quo256]; simp
    · by_cases hjk : j = k
      · subst hjk
        rw [upd_same, if_pos (Nat.lt_succ_self _)]
        have e : cntX tag q = cntX (topF tag) q := rfl
        rw [← cnt_ctr (topF tag) q (by omega) hk, ← e]
        exact rem256 _
      · rw [upd_ne _ _ hjk, hc j hj]
        by_cases hlt : j < k
        · rw [if_pos hlt, if_pos (by omega)]
        · rw [if_neg hlt, if_neg (by omega)]
  · rintro s ⟨env', c, rfl, hs, f16, f15, hc⟩
    repeat (first | (with_reducible refine Evs.assoc ?_) | ((with_reducible refine Evs.some_bnd ?_); try dsimp only [sqK_nrm, sqK_exit, sqK_ret]) | ((with_reducible apply Evs.bcndT); (focus (simp (disch := omega) [f16] <;> omega))) | ((with_reducible apply Evs.bcndF); (focus (simp (disch := omega) [f16] <;> omega))) | ((with_reducible apply Evs.step); (focus ((conv => lhs; simp (disch := omega) [f16]); done)); try dsimp only) | (simp only [sn49, snB]))
    refine Evs.ret ⟨by simp, _, c, rfl, by repeat (first | exact hs | refine Same.put rfl ?_), fun j hj => ?_⟩
    rw [hc j hj]
    by_cases hlt : j < 4
    · rw [if_pos hlt]
    · rw [if_neg hlt]; unfold ctr; rw [if_neg hlt]

theorem walk49 (h : Heap) (key nonce tag : Nat → BitVec 8) (n : Nat) (hn : n < 100000000) : ∃ o u, evBody (cx49 callS29) Try.f49 n49_0 [arr 32 key, arr 12 nonce, arr 16 tag, nat n] h = some (o, h ++ u) ∧ OutS h u o (upN n) (strF (keyE key nonce) tag) := by
  have hN : upN n = 16 * ((n + 15) / 16) := rfl
  rw [b49]
  have main : Evs (evC (cx49 callS29) n49_0 ⟨[(0, arr 32 key), (1, arr 12 nonce), (2, arr 16 tag), (3, nat n), (4, .junk), (5, .junk), (6, .junk), (7, .junk), (8, .junk), (9, .junk), (11, .junk), (12, .junk), (13, .junk), (14, .junk), (15, .junk), (16, .junk), (17, .junk), (18, .junk), (28, .junk), (60, .junk), (75, .junk)], h⟩) (fun r => ∃ env u, r = (.ret, ⟨env, h ++ u⟩) ∧ OutS h u (env.get 8) (upN n) (strF (keyE key nonce) tag)) := by
    obtain ⟨env, he⟩ : ∃ env : Env, env = [(0, arr 32 key), (1, arr 12 nonce), (2, arr 16 tag), (3, nat n), (4, .junk), (5, .junk), (6, .junk), (7, .junk), (8, .junk), (9, .junk), (11, .junk), (12, .junk), (13, .junk), (14, .junk), (15, .junk), (16, .junk), (17, .junk), (18, .junk), (28, .junk), (60, .junk), (75, .junk)] := ⟨_, rfl⟩
    rw [← he]
    have g0 : env.get 0 = arr 32 key := by rw [he]; rfl
    have g1 : env.get 1 = arr 12 nonce := by rw [he]; rfl
    have g2 : env.get 2 = arr 16 tag := by rw [he]; rfl
    have g3 : env.get 3 = nat n := by rw [he]; rfl
    clear he
    repeat (first | (with_reducible refine Evs.assoc ?_) | ((with_reducible refine Evs.some_bnd ?_); try dsimp only [sqK_nrm, sqK_exit, sqK_ret]) | ((with_reducible apply Evs.bcndT); (focus (simp (disch := omega) [g0, g1, g2, g3] <;> omega))) | ((with_reducible apply Evs.bcndF); (focus (simp (disch := omega) [g0, g1, g2, g3] <;> omega))) | ((with_reducible apply Evs.step); (focus ((conv => lhs; simp (disch := omega) [g0, g1, g2, g3]); done)); try dsimp only) | (simp only [sn49, snB]))
    refine Evs.bnd (Q := fun r => ∃ env' u, r = (.exit 0, ⟨env', h ++ u⟩) ∧ OutS h u (env'.get 12) (upN n) (strF (keyE key nonce) tag)) ?_ ?_
    · refine Evs.up ((n + 15) / 16) (fun q s => ∃ env' u, s = ⟨env', h ++ u⟩ ∧ S49 h.length tag (keyE key nonce) n env' u ∧ env'.get 13 = nat (16 * q) ∧ OutS h u (env'.get 12) (16 * q) (strF (keyE key nonce) tag)) ?_ ?_
        ⟨_, _, rfl, ⟨by simp, by simp, by simp, by simp [g3], rfl, rfl, rfl⟩, by simp, .inl ⟨rfl, by simp⟩⟩
      · rintro q s hq ⟨env', u, rfl, hS, e13, hO⟩
        obtain ⟨e6, e9, e11, e3, t2, t3, t5⟩ := hS
        have hlt : 16 * q < n := by omega
        have b2 := at_blk t2
        have b3 : ∀ l, blkAt (u ++ l) 3 0 = some ⟨arr 256 sbF, 0, .own⟩ := fun l => blkAt_app (at_blk t3) l
        have b5 : ∀ l, blkAt (u ++ l) 5 0 = some ⟨arr 32 (keyE key nonce), 0, .own⟩ := fun l => blkAt_app (at_blk t5) l
        have r128 : ∀ x, mBin .rem (u8 x) (u8 128#8) = some (u8 (x % 128#8)) := fun x => u8_rem _ _ (by decide)
        have u0 : ∀ x, upd tag 15 x 0 = tag 0 := fun x => upd_ne _ _ (by decide)
        have u1 : ∀ x, upd tag 15 x 1 = tag 1 := fun x => upd_ne _ _ (by decide)
        have u2 : ∀ x, upd tag 15 x 2 = tag 2 := fun x => upd_ne _ _ (by decide)
        have u3 : ∀ x, upd tag 15 x 3 = tag 3 := fun x => upd_ne _ _ (by decide)
        repeat (first | (with_reducible refine Evs.assoc ?_) | ((with_reducible refine Evs.some_bnd ?_); try dsimp only [sqK_nrm, sqK_exit, sqK_ret]) | ((with_reducible apply Evs.bcndT); (focus (simp (disch := omega) [e3, e6, e9, e11, e13, b2, r128, u0, u1, u2, u3, or128] <;> omega))) | ((with_reducible apply Evs.bcndF); (focus (simp (disch := omega) [e3, e6, e9, e11, e13, b2, r128, u0, u1, u2, u3, or128] <;> omega))) | ((with_reducible apply Evs.step); (focus ((conv => lhs; simp (disch := omega) [e3, e6, e9, e11, e13, b2, r128, u0, u1, u2, u3, or128]); done)); try dsimp only) | (simp only [sn49, snB]))
        refine Evs.bnd (cnt49 h u tag q (by omega) _ ?_ ?_ ?_) ?_
        · simp
        · simp [cntX]
        · simp
        rintro r ⟨env2, c, rfl, hs2, hc⟩
        have d6 := hs2.get 6 rfl
        have d9 := hs2.get 9 rfl
        have d11 := hs2.get 11 rfl
        have d14 := hs2.get 14 rfl
        have d13 := hs2.get 13 rfl
        have d12 := hs2.get 12 rfl
        have d3 := hs2.get 3 rfl
        simp [e3, e6, e9, e11, e13] at d3 d6 d9 d11 d13 d14
        simp at d12
        repeat (first | (with_reducible refine Evs.assoc ?_) | ((with_reducible refine Evs.some_bnd ?_); try dsimp only [sqK_nrm, sqK_exit, sqK_ret]) | ((with_reducible apply Evs.bcndT); (focus (simp (disch := omega) [d9, d11, d14, b3, b5] <;> omega))) | ((with_reducible apply Evs.bcndF); (focus (simp (disch := omega) [d9, d11, d14, b3, b5] <;> omega))) | ((with_reducible apply Evs.step); (focus ((conv => lhs; simp (disch := omega) [d9, d11, d14, b3, b5]); done)); try dsimp only) | (simp only [sn49, snB]))
        have keepA : ∀ (l : Heap) (j : Nat) (b : Blk), u[j]? = some b → (u ++ l)[j]? = some b := fun l j b hb => by rw [List.getElem?_append_left (List.getElem?_eq_some_iff.1 hb).1]; exact hb
        refine Evs.bnd (rows49 h tag (keyE key nonce) n q (u.length + 1) (encF (wd (keyE key nonce)) c) (strF (keyE key nonce) tag) (by omega) (fun k hk => ?_) _ _ ⟨?_, ?_, ?_, ?_, keepA _ _ _ t2, keepA _ _ _ t3, keepA _ _ _ t5⟩ ?_ ?_ ?_ ?_) ?_
        · unfold strF
          rw [show (16 * q + k) / 16 = q by omega, show (16 * q + k) % 16 = k by omega]
          exact encF_congr (fun i _ p hp => rfl) hc k hk
        · simp [d6]
        · simp [d9]
        · simp [d11]
        · simp [d3]
        · simp
        · simp
        · simp
        · simpa [d12] using hO.app _
        rintro r ⟨env3, u', rfl, hs3, hS3, hO3⟩
        have f13 := hs3.get 13 rfl
        simp [d13] at f13
        repeat (first | (with_reducible refine Evs.assoc ?_) | ((with_reducible refine Evs.some_bnd ?_); try dsimp only [sqK_nrm, sqK_exit, sqK_ret]) | ((with_reducible apply Evs.bcndT); (focus (simp (disch := omega) [f13] <;> omega))) | ((with_reducible apply Evs.bcndF); (focus (simp (disch := omega) [f13] <;> omega))) | ((with_reducible apply Evs.step); (focus ((conv => lhs; simp (disch := omega) [f13]); done)); try dsimp only) | (simp only [sn49, snB]))
        refine Evs.ret ⟨rfl, _, u', rfl, hS3.same (by repeat (first | exact Same.refl _ _ | refine Same.put rfl ?_)), by rw [show 16 * (q + 1) = 16 * q + 16 by omega]; simp, by simpa [Nat.mul_add] using hO3⟩
      · rintro s ⟨env', u, rfl, hS, e13, hO⟩
        have e3 := hS.2.2.2.1
        have hge : ¬ 16 * ((n + 15) / 16) < n := by omega
        repeat (first | (with_reducible refine Evs.assoc ?_) | ((with_reducible refine Evs.some_bnd ?_); try dsimp only [sqK_nrm, sqK_exit, sqK_ret]) | ((with_reducible apply Evs.bcndT); (focus (simp (disch := omega) [e3, e13, hge] <;> omega))) | ((with_reducible apply Evs.bcndF); (focus (simp (disch := omega) [e3, e13, hge] <;> omega))) | ((with_reducible apply Evs.step); (focus ((conv => lhs; simp (disch := omega) [e3, e13, hge]); done)); try dsimp only) | (simp only [sn49, snB]))
        exact Evs.ret ⟨by simp, _, u, rfl, by rw [hN]; simpa using hO⟩
    · rintro r ⟨env', u, rfl, hO⟩
      repeat (first | (with_reducible refine Evs.assoc ?_) | ((with_reducible refine Evs.some_bnd ?_); try dsimp only [sqK_nrm, sqK_exit, sqK_ret]) | ((with_reducible apply Evs.bcndT); (focus (simp (disch := omega) <;> omega))) | ((with_reducible apply Evs.bcndF); (focus (simp (disch := omega) <;> omega))) | ((with_reducible apply Evs.step); (focus ((conv => lhs; simp (disch := omega)); done)); try dsimp only) | (simp only [sn49, snB]))
      exact Evs.ret ⟨_, _, rfl, by simpa using hO⟩
  obtain ⟨r, hr, env, u, rfl, hO⟩ := main
  refine ⟨env.get 8, u, ?_, hO⟩
  rw [hr]
  simp [oneOrTuple]

theorem strF_congr {k k' t t' : Nat → BitVec 8} (hk : ∀ i, i < 32 → k i = k' i) (ht : ∀ i, i < 16 → t i = t' i) (j : Nat) : strF k t j = strF k' t' j := by
  have e1 : ∀ i, i < 16 → topF t i = topF t' i := fun i hi => by
    unfold topF upd
    split
    · rw [ht 15 (by omega)]
    · exact ht i hi
  have key : ∀ i, i < 16 → encF (wd k) (ctr (topF t) (j / 16)) i = encF (wd k') (ctr (topF t') (j / 16)) i := encF_congr (fun i _ p hp => wd_congr hk i p hp) fun i hi => by
    unfold ctr w4
    rw [e1 0 (by omega), e1 1 (by omega), e1 2 (by omega), e1 3 (by omega)]
    by_cases h4 : i < 4
    · rw [if_pos h4, if_pos h4]
    · rw [if_neg h4, if_neg h4]; exact e1 i hi
  unfold strF
  exact key _ (Nat.mod_lt _ (by decide))

noncomputable def c49 := conC (fun x : (Nat → BitVec 8) × (Nat → BitVec 8) × (Nat → BitVec 8) × (Nat) => [arr 32 x.1, arr 12 x.2.1, arr 16 x.2.2.1, nat x.2.2.2]) (fun (x : (Nat → BitVec 8) × (Nat → BitVec 8) × (Nat → BitVec 8) × (Nat)) h => x.2.2.2 < 100000000) (fun (x : (Nat → BitVec 8) × (Nat → BitVec 8) × (Nat → BitVec 8) × (Nat)) h => (outV (upN x.2.2.2) h.length, outH (upN x.2.2.2) h (strF (keyE x.1 x.2.1) x.2.2.1)))
noncomputable def callS30 : Calling := addC callS29 49 c49
theorem c49_eq (k : Nat → BitVec 8) (nc : Nat → BitVec 8) (t : Nat → BitVec 8) (n : Nat) (h : Heap) (hc : n < 100000000) : c49 [arr 32 k, arr 12 nc, arr 16 t, nat n] h = some (outV (upN n) h.length, outH (upN n) h (strF (keyE k nc) t)) :=
  conC_eq (enc := fun x : (Nat → BitVec 8) × (Nat → BitVec 8) × (Nat → BitVec 8) × (Nat) => [arr 32 x.1, arr 12 x.2.1, arr 16 x.2.2.1, nat x.2.2.2]) (P := fun (x : (Nat → BitVec 8) × (Nat → BitVec 8) × (Nat → BitVec 8) × (Nat)) h => x.2.2.2 < 100000000) (a := (k, nc, t, n)) (f := fun (x : (Nat → BitVec 8) × (Nat → BitVec 8) × (Nat → BitVec 8) × (Nat)) h => (outV (upN x.2.2.2) h.length, outH (upN x.2.2.2) h (strF (keyE x.1 x.2.1) x.2.2.1))) (fun x y h e => by
    have e1 := arr_inj.1 (List.cons.inj e).1
    have e2 := arr_inj.1 (List.cons.inj (List.cons.inj e).2).1
    have e3 := arr_inj.1 (List.cons.inj (List.cons.inj (List.cons.inj e).2).2).1
    have e4 := nat_inj.1 (List.cons.inj (List.cons.inj (List.cons.inj (List.cons.inj e).2).2).2).1
    unfold outH
    rw [e4, arr_congr fun i _ => strF_congr (keyE_congr e1 e2) e3 i]
    ) hc
theorem callS30_ok : CallOK Try.prog callS30 := addC_con callS29_ok k49 fun x h hx => by
  obtain ⟨o, u, hr, hO⟩ := walk49 h _ _ _ _ hx
  exact spec_out (s49 callS29_ok hr) hO
@[simp] theorem callS30_ne {f : Nat} (args : List AV) (h : Heap) (hf : f ≠ 49) : callS30 f args h = callS29 f args h := addC_ne _ _ _ args h hf
@[simp] theorem callS30_sne {f : Nat} (args : List AV) (h : Heap) (hf : f ≠ 49) : still callS30 f args h = still callS29 f args h := still_ne _ _ _ args h hf
theorem callS30_49 (k : Nat → BitVec 8) (nc : Nat → BitVec 8) (t : Nat → BitVec 8) (n : Nat) (h : Heap) (hc : n < 100000000) : callS30 49 [arr 32 k, arr 12 nc, arr 16 t, nat n] h = some (outV (upN n) h.length, outH (upN n) h (strF (keyE k nc) t)) := by
  unfold callS30; rw [addC_same]; exact c49_eq k nc t n h hc

end Go.Vab

/- How the evaluator reads the functions of a seat. Printed by wip/tools/gen.py (own work). -/
namespace Go.Vab
open Go Go.Proofs
noncomputable section
variable (call : Calling) (env : Env) (h : Heap) (s : St)
/-! vestry/vestryref09.Seal -/
def cx27 (call : Calling) : Ctx := ⟨call, TT, 36, [12, 13, 14, 15, 16, 17, 18, 20, 21, 22, 23, 24, 25, 26, 27, 28, 29, 30, 31, 32, 33, 34, 35]⟩
def n27_0 : Code := bodyOf Try.f27
def n27_1 : Code := cR n27_0
def n27_2 : Code := cL n27_1
def n27_3 : Code := cR n27_2
def n27_4 : Code := cL n27_3
def n27_5 : Code := cR n27_4
def n27_6 : Code := cR n27_3
def n27_7 : Code := cR n27_1
def n27_8 : Code := cR n27_7
def n27_9 : Code := cR n27_8
def n27_10 : Code := cR n27_9
@[simp] theorem n27_5_eq : evC (cx27 call) n27_5 s = some (.ret, s) := xE
@[simp] theorem n27_4_eq : evC (cx27 call) n27_4 ⟨env, h⟩ = ( evC (cx27 call) n27_5 ⟨(Env.put (Env.put env 8 .nilslice) 9 (nat 3)), h⟩) := (xSR 2 (cOps (cL n27_4)) (cR n27_4)).trans (by
  refine opsK_0 ?_
  refine oT 8 .nilslice ?_
  refine oT 9 (nat 3) ?_
  exact oE)
@[simp] theorem n27_6_eq : evC (cx27 call) n27_6 s = some (.nrm, s) := xK
@[simp] theorem n27_3_eq : evC (cx27 call) n27_3 s = cnd (s.env.get 19) (evC (cx27 call) n27_4 s) (evC (cx27 call) n27_6 s) := xC 19 _ _
@[simp] theorem n27_2_eq : evC (cx27 call) n27_2 ⟨env, h⟩ = (bnd (pureV h (mLenS (env.get 2))) fun r1 => bnd (pureV r1.2 (mBin .gtr r1.1 (nat 65536))) fun r2 => bnd (gdo r2.1 false (some ((env.get 3), r2.2)) r2.2) fun r4 => bnd (gdo r2.1 false (pureV r4.2 (mLenS r4.1)) r4.2) fun r5 => bnd (gdo r2.1 false (pureV r5.2 (mBin .gtr r5.1 (nat 65536))) r5.2) fun r6 => bnd (pureV r6.2 (mPick r2.1 (.bool true) r6.1)) fun r7 => evC (cx27 call) n27_3 ⟨(Env.put env 19 r7.1), r7.2⟩) := (xSR 1 (cOps (cL n27_2)) (cR n27_2)).trans (by
  refine opsK_0 ?_
  refine oT 12 (env.get 2) ?_
  refine oP 13 fun r1 => ?_
  refine oP 14 fun r2 => ?_
  refine oT 15 r2.1 ?_
  refine oP 16 fun r4 => ?_
  refine oP 17 fun r5 => ?_
  refine oP 18 fun r6 => ?_
  refine oP 19 fun r7 => ?_
  exact oE)
@[simp] theorem n27_10_eq : evC (cx27 call) n27_10 s = some (.ret, s) := xE
@[simp] theorem n27_9_eq : evC (cx27 call) n27_9 ⟨env, h⟩ = (bnd (pureV h (mSliceA (.arr 16 (.int .u8)) (env.get 10) none none none)) fun r1 => bnd (mApp (.int .u8) 1 (env.get 11) r1.1 r1.2) fun r2 => evC (cx27 call) n27_10 ⟨(Env.put (Env.put env 8 r2.1) 9 (nat 0)), r2.2⟩) := (xSR 5 (cOps (cL n27_9)) (cR n27_9)).trans (by
  refine opsK_0 ?_
  refine oT 33 (env.get 11) ?_
  refine oP 34 fun r1 => ?_
  refine oP 35 fun r2 => ?_
  refine oT 8 r2.1 ?_
  refine oT 9 (nat 0) ?_
  exact oE)
@[simp] theorem n27_8_eq : evC (cx27 call) n27_8 ⟨env, h⟩ = (bnd (pureV h (mLoad (.arr 32 (.int .u8)) (env.get 4) h)) fun r1 => bnd (pureV r1.2 (mLoad (.arr 12 (.int .u8)) (env.get 5) r1.2)) fun r2 => bnd (pureV r2.2 (mLoad (.arr 16 (.int .u8)) (env.get 10) r2.2)) fun r3 => bnd (pureV r3.2 (mLenS (env.get 3))) fun r5 => bnd (call 49 [r1.1, r2.1, r3.1, r5.1] r5.2) fun r6 => bnd (call 48 [(env.get 3), r6.1] r6.2) fun r7 => evC (cx27 call) n27_9 ⟨(Env.put env 11 r7.1), r7.2⟩) := (xSR 4 (cOps (cL n27_8)) (cR n27_8)).trans (by
  refine opsK_0 ?_
  refine oT 25 (env.get 3) ?_
  refine oP 26 fun r1 => ?_
  refine oP 27 fun r2 => ?_
  refine oP 28 fun r3 => ?_
  refine oT 29 (env.get 3) ?_
  refine oP 30 fun r5 => ?_
  refine oP 31 fun r6 => ?_
  refine oP 32 fun r7 => ?_
  refine oT 11 r7.1 ?_
  exact oE)
@[simp] theorem n27_7_eq : evC (cx27 call) n27_7 ⟨env, h⟩ = (bnd (pureV h (mLoad (.arr 32 (.int .u8)) (env.get 4) h)) fun r0 => bnd (pureV r0.2 (mLoad (.arr 12 (.int .u8)) (env.get 5) r0.2)) fun r1 => bnd (call 47 [r0.1, r1.1, (env.get 2), (env.get 3)] r1.2) fun r4 => bnd (mNew (.arr 16 (.int .u8)) (arr 16 fun _ => 0#8) r4.2) fun r5 => bnd (stU (.arr 16 (.int .u8)) r5.1 r4.1 r5.2) fun r6 => evC (cx27 call) n27_8 ⟨(Env.put env 10 r5.1), r6.2⟩) := (xSR 3 (cOps (cL n27_7)) (cR n27_7)).trans (by
  refine opsK_0 ?_
  refine oP 20 fun r0 => ?_
  refine oP 21 fun r1 => ?_
  refine oT 22 (env.get 2) ?_
  refine oT 23 (env.get 3) ?_
  refine oP 24 fun r4 => ?_
  refine oP 10 fun r5 => ?_
  refine oN fun r6 => ?_
  exact oE)
@[simp] theorem n27_1_eq : evC (cx27 call) n27_1 s = bnd (evC (cx27 call) n27_2 s) (sqK (evC (cx27 call) n27_7)) := xS _ _
@[simp] theorem n27_0_eq : evC (cx27 call) n27_0 ⟨env, h⟩ = (bnd (mNew (.arr 32 (.int .u8)) (env.get 0) h) fun r0 => bnd (mNew (.arr 12 (.int .u8)) (env.get 1) r0.2) fun r1 => evC (cx27 call) n27_1 ⟨(Env.put (Env.put (Env.put (Env.put env 4 r0.1) 5 r1.1) 8 .nilslice) 9 (nat 0)), r1.2⟩) := (xSR 0 (cOps (cL n27_0)) (cR n27_0)).trans (by
  refine opsK_0 ?_
  refine oP 4 fun r0 => ?_
  refine oP 5 fun r1 => ?_
  refine oT 8 .nilslice ?_
  refine oT 9 (nat 0) ?_
  exact oE)
theorem b27 (call : Calling) (a0 a1 a2 a3 : AV) (h : Heap) : evBody (cx27 call) Try.f27 n27_0 [a0, a1, a2, a3] h = bnd (evC (cx27 call) n27_0 ⟨[(0, a0), (1, a1), (2, a2), (3, a3), (4, .junk), (5, .junk), (6, .junk), (7, .junk), (8, .junk), (9, .junk), (10, .junk), (11, .junk), (19, .junk)], h⟩) (retK fun s => bnd (bnd (some (s.env.get 8)) fun v => bnd (bnd (some (s.env.get 9)) fun v => bnd (some []) fun vs => some (v :: vs)) fun vs => some (v :: vs)) fun vs => some (oneOrTuple vs)) := by kernel_rfl
theorem fn27 : Try.prog.funcs[27]? = some Try.f27 := by kernel_rfl
theorem k27 : Callable Try.prog 27 := ⟨Try.f27, fn27, by kernel_rfl, by kernel_rfl⟩
theorem s27 {call : Calling} (hc : CallOK Try.prog call) {args : List AV} {h h' : Heap} {v : AV} (he : evBody (cx27 call) Try.f27 n27_0 args h = some (v, h')) : Spec Try.prog 27 args h v h' := body_sound (C := cx27 call) TT_ok hc mixed_ok fn27 (by kernel_rfl) (by kernel_rfl) he
def sn27 := Y n27_5_eq (Y n27_4_eq (Y n27_6_eq (Y n27_3_eq (Y n27_2_eq (Y n27_10_eq (Y n27_9_eq (Y n27_8_eq (Y n27_7_eq (Y n27_1_eq (n27_0_eq))))))))))
end
end Go.Vab

/-
  The document's Seal, walked.
-/
namespace Go.Vab
open Go Go.Proofs

def ansVo (code L len : Nat) : AV := if code = 0 then .tuple [outV len L, nat 0] else .tuple [.nilslice, nat code]
def ansHo (code len : Nat) (h : Heap) (F : Nat → BitVec 8) : Heap := if code = 0 then outH len h F else h

theorem turn_xor (key T : Nat → BitVec 8) (n : Nat) (g : Nat → BitVec 8) (j : Nat) (hj : j < n) : turnF key T n g j = xorF g (strF key T) j := by
  unfold turnF xorF strF
  rw [if_pos hj]

theorem walk27b (h : Heap) (key nonce : Nat → BitVec 8) (xa xt : AV) (na nt : Nat) (a t : Nat → BitVec 8) (ha : Byt h xa na a) (ht : Byt h xt nt t) (hb : bigS na nt) :
    ∃ tr, evBody (cx27 callS30) Try.f27 n27_0 [arr 32 key, arr 12 nonce, xa, xt] h = some (.tuple [.nilslice, nat 3], h ++ tr) := by
  have la := ha.len
  have lt := ht.len
  rw [b27]
  have main : Evs (evC (cx27 callS30) n27_0 ⟨[(0, arr 32 key), (1, arr 12 nonce), (2, xa), (3, xt), (4, .junk), (5, .junk), (6, .junk), (7, .junk), (8, .junk), (9, .junk), (10, .junk), (11, .junk), (19, .junk)], h⟩) (fun r => ∃ env tr, r = (.ret, ⟨env, h ++ tr⟩) ∧ env.get 8 = .nilslice ∧ env.get 9 = nat 3) := by
    obtain ⟨env, he⟩ : ∃ env : Env, env = [(0, arr 32 key), (1, arr 12 nonce), (2, xa), (3, xt), (4, .junk), (5, .junk), (6, .junk), (7, .junk), (8, .junk), (9, .junk), (10, .junk), (11, .junk), (19, .junk)] := ⟨_, rfl⟩
    rw [← he]
    have g0 : env.get 0 = arr 32 key := by rw [he]; rfl
    have g1 : env.get 1 = arr 12 nonce := by rw [he]; rfl
    have g2 : env.get 2 = xa := by rw [he]; rfl
    have g3 : env.get 3 = xt := by rw [he]; rfl
    clear he
    by_cases h1 : 65536 < na
    · repeat (first | (with_reducible refine Evs.assoc ?_) | ((with_reducible refine Evs.some_bnd ?_); try dsimp only [sqK_nrm, sqK_exit, sqK_ret]) | ((with_reducible apply Evs.bcndT); (focus (simp (disch := omega) [g0, g1, g2, g3, la, lt, h1] <;> omega))) | ((with_reducible apply Evs.bcndF); (focus (simp (disch := omega) [g0, g1, g2, g3, la, lt, h1] <;> omega))) | ((with_reducible apply Evs.step); (focus ((conv => lhs; simp (disch := omega) [g0, g1, g2, g3, la, lt, h1]); done)); try dsimp only) | (simp only [sn27, snB]))
      exact Evs.ret ⟨_, _, rfl, by simp, by simp⟩
    · have h2 : 65536 < nt := hb.resolve_left h1
      repeat (first | (with_reducible refine Evs.assoc ?_) | ((with_reducible refine Evs.some_bnd ?_); try dsimp only [sqK_nrm, sqK_exit, sqK_ret]) | ((with_reducible apply Evs.bcndT); (focus (simp (disch := omega) [g0, g1, g2, g3, la, lt, h1, h2] <;> omega))) | ((with_reducible apply Evs.bcndF); (focus (simp (disch := omega) [g0, g1, g2, g3, la, lt, h1, h2] <;> omega))) | ((with_reducible apply Evs.step); (focus ((conv => lhs; simp (disch := omega) [g0, g1, g2, g3, la, lt, h1, h2]); done)); try dsimp only) | (simp only [sn27, snB]))
      exact Evs.ret ⟨_, _, rfl, by simp, by simp⟩
  obtain ⟨r, hr, env, tr, rfl, e0, e1⟩ := main
  refine ⟨tr, ?_⟩
  rw [hr]
  simp [e0, e1, oneOrTuple]

theorem walk27 (h : Heap) (key nonce : Nat → BitVec 8) (xa xt : AV) (na nt : Nat) (a t : Nat → BitVec 8) (ha : Byt h xa na a) (ht : Byt h xt nt t) (hb : ¬ bigS na nt) :
    ∃ tr j, evBody (cx27 callS30) Try.f27 n27_0 [arr 32 key, arr 12 nonce, xa, xt] h = some (.tuple [.slice (h.length + j) (nt + 16) [] (.int .u8) 0 (nt + 16) none, nat 0], h ++ tr) ∧ tr[j]? = some ⟨arr (nt + 16) (sealF key nonce na a nt t), nt + 16, .open⟩ := by
  have la := ha.len
  have lt := ht.len
  have h1 : ¬ 65536 < na := fun q => hb (.inl q)
  have h2 : ¬ 65536 < nt := fun q => hb (.inr q)
  have k47 : ∀ (l : Heap), callS28 47 [arr 32 key, arr 12 nonce, xa, xt] (h ++ l) = some (arr 16 (tagS key nonce na a nt t), h ++ l) := fun l => callS28_47 key nonce xa xt na nt a t (h ++ l) ⟨ha.app l, ht.app l, by omega, by omega⟩
  rw [b27]
  have main : Evs (evC (cx27 callS30) n27_0 ⟨[(0, arr 32 key), (1, arr 12 nonce), (2, xa), (3, xt), (4, .junk), (5, .junk), (6, .junk), (7, .junk), (8, .junk), (9, .junk), (10, .junk), (11, .junk), (19, .junk)], h⟩) (fun r => ∃ env tr j, r = (.ret, ⟨env, h ++ tr⟩) ∧ env.get 8 = .slice (h.length + j) (nt + 16) [] (.int .u8) 0 (nt + 16) none ∧ env.get 9 = nat 0 ∧ tr[j]? = some ⟨arr (nt + 16) (sealF key nonce na a nt t), nt + 16, .open⟩) := by
    obtain ⟨env, he⟩ : ∃ env : Env, env = [(0, arr 32 key), (1, arr 12 nonce), (2, xa), (3, xt), (4, .junk), (5, .junk), (6, .junk), (7, .junk), (8, .junk), (9, .junk), (10, .junk), (11, .junk), (19, .junk)] := ⟨_, rfl⟩
    rw [← he]
    have g0 : env.get 0 = arr 32 key := by rw [he]; rfl
    have g1 : env.get 1 = arr 12 nonce := by rw [he]; rfl
    have g2 : env.get 2 = xa := by rw [he]; rfl
    have g3 : env.get 3 = xt := by rw [he]; rfl
    clear he
    by_cases h0 : nt = 0
    · subst h0
      have k49 : ∀ (T : Nat → BitVec 8) (l : Heap), callS30 49 [arr 32 key, arr 12 nonce, arr 16 T, nat 0] (h ++ l) = some (.nilslice, h ++ l) := fun T l => callS30_49 key nonce T 0 (h ++ l) (by omega)
      have k48 : ∀ (l : Heap), callS29 48 [xt, .nilslice] (h ++ l) = some (.nilslice, h ++ l) := fun l => callS29_48 xt .nilslice 0 0 t t (h ++ l) ⟨ht.app l, Byt.nil _ _, Nat.le_refl _, by omega⟩
      repeat (first | (with_reducible refine Evs.assoc ?_) | ((with_reducible refine Evs.some_bnd ?_); try dsimp only [sqK_nrm, sqK_exit, sqK_ret]) | ((with_reducible apply Evs.bcndT); (focus (simp (disch := omega) [g0, g1, g2, g3, la, lt, h1, h2, k47, k49, k48] <;> omega))) | ((with_reducible apply Evs.bcndF); (focus (simp (disch := omega) [g0, g1, g2, g3, la, lt, h1, h2, k47, k49, k48] <;> omega))) | ((with_reducible apply Evs.step); (focus ((conv => lhs; simp (disch := omega) [g0, g1, g2, g3, la, lt, h1, h2, k47, k49, k48]); done)); try dsimp only) | (simp only [sn27, snB]))
      refine Evs.ret ⟨_, _, 3, rfl, by simp, by simp, ?_⟩
      simp only [List.getElem?_cons_succ, List.getElem?_cons_zero]
      refine congrArg some (congrArg (fun v => Blk.mk v 16 .open) (arr_congr fun i hi => ?_))
      unfold sealF
      rw [if_neg (by omega)]; rfl
    · have hu : upN nt ≠ 0 := by unfold upN; omega
      have hle : nt ≤ upN nt := by unfold upN; omega
      have k49 : ∀ (T : Nat → BitVec 8) (l : Heap), callS30 49 [arr 32 key, arr 12 nonce, arr 16 T, nat nt] (h ++ l) = some (.slice (h ++ l).length (upN nt) [] (.int .u8) 0 (upN nt) none, h ++ l ++ [⟨arr (upN nt) (strF (keyE key nonce) T), upN nt, .open⟩]) := fun T l => by
        have := callS30_49 key nonce T nt (h ++ l) (by omega)
        unfold outV outH at this
        rwa [if_neg hu, if_neg hu] at this
      have k48 : ∀ (l : Heap) (i : Nat) (S : Nat → BitVec 8), l[i]? = some ⟨arr (upN nt) S, upN nt, .open⟩ → callS29 48 [xt, .slice (h.length + i) (upN nt) [] (.int .u8) 0 (upN nt) none] (h ++ l) = some (.slice (h ++ l).length nt [] (.int .u8) 0 nt none, h ++ l ++ [⟨arr nt (xorF t S), nt, .open⟩]) := fun l i S hi => by
        have hB : Byt (h ++ l) (.slice (h.length + i) (upN nt) [] (.int .u8) 0 (upN nt) none) (upN nt) S := Byt.grown (b := ⟨arr (upN nt) S, upN nt, .open⟩) (m := upN nt) (by rw [blkAt_new]; exact at_blk hi) rfl (Nat.le_refl _) (Nat.le_refl _)
        have := callS29_48 xt _ nt (upN nt) t S (h ++ l) ⟨ht.app l, hB, hle, by omega⟩
        unfold outV outH at this
        rwa [if_neg h0, if_neg h0] at this
      repeat (first | (with_reducible refine Evs.assoc ?_) | ((with_reducible refine Evs.some_bnd ?_); try dsimp only [sqK_nrm, sqK_exit, sqK_ret]) | ((with_reducible apply Evs.bcndT); (focus (simp (disch := omega) [g0, g1, g2, g3, la, lt, h1, h2, k47, k49] <;> omega))) | ((with_reducible apply Evs.bcndF); (focus (simp (disch := omega) [g0, g1, g2, g3, la, lt, h1, h2, k47, k49] <;> omega))) | ((with_reducible apply Evs.step); (focus ((conv => lhs; simp (disch := omega) [g0, g1, g2, g3, la, lt, h1, h2, k47, k49]); done)); try dsimp only) | (simp only [sn27, snB]))
      with_reducible apply Evs.step
      · conv => lhs; simp (disch := omega) [g3]
        exact k48 _ 3 _ rfl
      repeat (first | (with_reducible refine Evs.assoc ?_) | ((with_reducible refine Evs.some_bnd ?_); try dsimp only [sqK_nrm, sqK_exit, sqK_ret]) | ((with_reducible apply Evs.bcndT); (focus (simp (disch := omega) [g0, g1, g2, g3] <;> omega))) | ((with_reducible apply Evs.bcndF); (focus (simp (disch := omega) [g0, g1, g2, g3] <;> omega))) | ((with_reducible apply Evs.step); (focus ((conv => lhs; simp (disch := omega) [g0, g1, g2, g3]); done)); try dsimp only) | (simp only [sn27, snB]))
      refine Evs.ret ⟨_, _, 4, rfl, by simp, by simp, ?_⟩
      simp only [List.getElem?_cons_succ, List.getElem?_cons_zero]
      refine congrArg some (congrArg (fun v => Blk.mk v (nt + 16) .open) (arr_congr fun i hi => ?_))
      unfold sealF
      by_cases hlt : i < nt
      · rw [if_pos hlt, if_pos hlt, turn_xor _ _ _ _ _ hlt]
      · rw [if_neg hlt, if_neg hlt]
  obtain ⟨r, hr, env, tr, j, rfl, e0, e1, e2⟩ := main
  refine ⟨tr, j, ?_, e2⟩
  rw [hr]
  simp [e0, e1, oneOrTuple]

noncomputable def c27 := conC (fun x : (Nat → BitVec 8) × (Nat → BitVec 8) × (AV) × (AV) × (Nat) × (Nat) × (Nat → BitVec 8) × (Nat → BitVec 8) => [arr 32 x.1, arr 12 x.2.1, x.2.2.1, x.2.2.2.1]) (fun (x : (Nat → BitVec 8) × (Nat → BitVec 8) × (AV) × (AV) × (Nat) × (Nat) × (Nat → BitVec 8) × (Nat → BitVec 8)) h => Byt h x.2.2.1 x.2.2.2.2.1 x.2.2.2.2.2.2.1 ∧ Byt h x.2.2.2.1 x.2.2.2.2.2.1 x.2.2.2.2.2.2.2) (fun (x : (Nat → BitVec 8) × (Nat → BitVec 8) × (AV) × (AV) × (Nat) × (Nat) × (Nat → BitVec 8) × (Nat → BitVec 8)) h => (ansVo (sealC x.2.2.2.2.1 x.2.2.2.2.2.1) h.length (x.2.2.2.2.2.1 + 16), ansHo (sealC x.2.2.2.2.1 x.2.2.2.2.2.1) (x.2.2.2.2.2.1 + 16) h (sealF x.1 x.2.1 x.2.2.2.2.1 x.2.2.2.2.2.2.1 x.2.2.2.2.2.1 x.2.2.2.2.2.2.2)))
noncomputable def callS31 : Calling := addC callS30 27 c27
theorem c27_eq (k : Nat → BitVec 8) (n : Nat → BitVec 8) (xa : AV) (xt : AV) (na : Nat) (nt : Nat) (a : Nat → BitVec 8) (t : Nat → BitVec 8) (h : Heap) (hc : Byt h xa na a ∧ Byt h xt nt t) : c27 [arr 32 k, arr 12 n, xa, xt] h = some (ansVo (sealC na nt) h.length (nt + 16), ansHo (sealC na nt) (nt + 16) h (sealF k n na a nt t)) :=
  conC_eqP (enc := fun x : (Nat → BitVec 8) × (Nat → BitVec 8) × (AV) × (AV) × (Nat) × (Nat) × (Nat → BitVec 8) × (Nat → BitVec 8) => [arr 32 x.1, arr 12 x.2.1, x.2.2.1, x.2.2.2.1]) (P := fun (x : (Nat → BitVec 8) × (Nat → BitVec 8) × (AV) × (AV) × (Nat) × (Nat) × (Nat → BitVec 8) × (Nat → BitVec 8)) h => Byt h x.2.2.1 x.2.2.2.2.1 x.2.2.2.2.2.2.1 ∧ Byt h x.2.2.2.1 x.2.2.2.2.2.1 x.2.2.2.2.2.2.2) (a := (k, n, xa, xt, na, nt, a, t)) (f := fun (x : (Nat → BitVec 8) × (Nat → BitVec 8) × (AV) × (AV) × (Nat) × (Nat) × (Nat → BitVec 8) × (Nat → BitVec 8)) h => (ansVo (sealC x.2.2.2.2.1 x.2.2.2.2.2.1) h.length (x.2.2.2.2.2.1 + 16), ansHo (sealC x.2.2.2.2.1 x.2.2.2.2.2.1) (x.2.2.2.2.2.1 + 16) h (sealF x.1 x.2.1 x.2.2.2.2.1 x.2.2.2.2.2.2.1 x.2.2.2.2.2.1 x.2.2.2.2.2.2.2))) (fun x y h hp hq e => by
    have e1 := arr_inj.1 (List.cons.inj e).1
    have e2 := arr_inj.1 (List.cons.inj (List.cons.inj e).2).1
    have e4 := (List.cons.inj (List.cons.inj (List.cons.inj e).2).2).1
    have e5 := (List.cons.inj (List.cons.inj (List.cons.inj (List.cons.inj e).2).2).2).1
    rw [e4, e5] at hp
    obtain ⟨d1, d2⟩ := hp.1.det hq.1
    obtain ⟨d3, d4⟩ := hp.2.det hq.2
    rw [← d1, ← d3]
    unfold ansHo outH
    rw [arr_congr (sealF_congr e1 e2 d2 d4)]
    ) hc
theorem callS31_ok : CallOK Try.prog callS31 := addC_con callS30_ok k27 fun x h hx => by
  show Spec _ 27 _ h (ansVo (sealC _ _) _ _) (ansHo (sealC _ _) _ _ _)
  by_cases hb : bigS x.2.2.2.2.1 x.2.2.2.2.2.1
  · obtain ⟨tr, hr⟩ := walk27b h x.1 x.2.1 _ _ _ _ _ _ hx.1 hx.2 hb
    have := (s27 callS30_ok hr).drop0 tr rfl
    rw [show sealC x.2.2.2.2.1 x.2.2.2.2.2.1 = 3 from if_pos hb]
    exact this
  · obtain ⟨tr, j, hr, hj⟩ := walk27 h x.1 x.2.1 _ _ _ _ _ _ hx.1 hx.2 hb
    have := (s27 callS30_ok hr).pullT tr j _ hj ⟨_, _, rfl⟩
    rw [show sealC x.2.2.2.2.1 x.2.2.2.2.2.1 = 0 from if_neg hb]
    unfold ansVo ansHo outV outH
    rw [if_pos rfl, if_pos rfl, if_neg (by omega), if_neg (by omega)]
    exact this
@[simp] theorem callS31_ne {f : Nat} (args : List AV) (h : Heap) (hf : f ≠ 27) : callS31 f args h = callS30 f args h := addC_ne _ _ _ args h hf
@[simp] theorem callS31_sne {f : Nat} (args : List AV) (h : Heap) (hf : f ≠ 27) : still callS31 f args h = still callS30 f args h := still_ne _ _ _ args h hf
theorem callS31_27 (k : Nat → BitVec 8) (n : Nat → BitVec 8) (xa : AV) (xt : AV) (na : Nat) (nt : Nat) (a : Nat → BitVec 8) (t : Nat → BitVec 8) (h : Heap) (hc : Byt h xa na a ∧ Byt h xt nt t) : callS31 27 [arr 32 k, arr 12 n, xa, xt] h = some (ansVo (sealC na nt) h.length (nt + 16), ansHo (sealC na nt) (nt + 16) h (sealF k n na a nt t)) := by
  unfold callS31; rw [addC_same]; exact c27_eq k n xa xt na nt a t h hc

end Go.Vab
