/-
  A block under a key.
-/
import Derived.Test.YtfolmjdaemoojaaV2
import Derived.KernelRfl
import Derived.Test.YtfolmjdaemoojaaV1
set_option linter.all false
set_option linter.unusedSectionVars false
namespace Go.Vab
open Go Go.Proofs

theorem walk19 (h : Heap) (key b : Nat → BitVec 8) : ∃ t, evBody (cx19 callA4) Try.f19 n19_0 [arr 32 key, arr 16 b] h = some (arr 16 (encF (wd key) b), h ++ t) := by
  rw [b19]
  have L : ∃ r, evLoop (evC (cx19 callA4) n19_6) ⟨E19 h.length (arr 32 key) (arr 16 b) (nat 0) .junk .junk .junk .junk .junk .junk .junk .junk .junk .junk .junk .junk .junk .junk .junk, H19 h key b (fun _ => 0#8) (wd key) []⟩ = some r ∧
      ∃ x7 x8 x9 x10 x11 x12 x13 x19 x20 x39 x41 x42 x58 x61 x82 x83 b' tr, r = (.ret, ⟨E19 h.length (arr 32 key) (arr 16 b) x7 x8 x9 x10 x11 x12 x13 x19 x20 x39 x41 x42 x58 x61 x82 x83, H19 h key b' (encF (wd key) b) (wd key) tr⟩) := by
    refine evLoop_up 14 (fun j s => ∃ x8 x9 x10 x11 x12 x13 x19 x20 x39 x41 x42 x58 x61 x82 x83 tr, s = ⟨E19 h.length (arr 32 key) (arr 16 b) (nat j) x8 x9 x10 x11 x12 x13 x19 x20 x39 x41 x42 x58 x61 x82 x83, H19 h key (pre (wd key) b j) (fun _ => 0#8) (wd key) tr⟩) ?_ ?_
      ⟨_, _, _, _, _, _, _, _, _, _, _, _, _, _, _, _, rfl⟩
    · rintro j s hj ⟨x8, x9, x10, x11, x12, x13, x19, x20, x39, x41, x42, x58, x61, x82, x83, tr, rfl⟩
      have h14 : ¬ j = 14 := by omega
      have e1 : mBin .add (nat j) (nat 1) = some (nat (j + 1)) := nat_add (by omega)
      obtain ⟨r1, hr1, y8, y19, y20, rfl⟩ := add19 h tr key (fun _ => 0#8) (wd key) (arr 32 key) (arr 16 b) j (by omega) (pre (wd key) b j) x8 x9 x10 x11 x12 x13 x20 x39 x41 x42 x58 x61 x82 x83
      obtain ⟨r2, hr2, y10, y41, y42, rfl⟩ := sub19 h tr key (fun _ => 0#8) (wd key) (arr 32 key) (arr 16 b) (addK (wd key) j (pre (wd key) b j)) (nat j) y8 x10 x11 x12 x13 y19 y20 (.bool false) x42 x58 x61 x82 x83
      simp only [E19, H19, P19] at hr1 hr2
      by_cases h13 : j = 13
      · subst h13
        refine ex_of (by conv => lhs; simp [E19, H19, Env.get, Env.put, e1, hr1, hr2]) ?_
        exact ⟨rfl, _, _, _, _, _, _, _, _, _, _, _, _, _, _, _, _, rfl⟩
      · obtain ⟨r3, hr3, y11, y12, y13, y61, y82, y83, rfl⟩ := mixes19 h tr key (fun _ => 0#8) (wd key) (arr 32 key) (arr 16 b) (subSh (addK (wd key) j (pre (wd key) b j))) (addK (wd key) j (pre (wd key) b j)) (nat j) y8 y10 x12 x13 y19 y20 (.bool false) y41 y42 (.bool false) x61 x82 x83
        simp only [E19, H19, P19] at hr3
        refine ex_of (by conv => lhs; simp [E19, H19, Env.get, Env.put, e1, hr1, hr2, hr3, h14, h13]) ?_
        have ep : pre (wd key) b (j + 1) = mixC (subSh (addK (wd key) j (pre (wd key) b j))) := by simp [pre, h13]
        refine ⟨rfl, _, _, _, _, _, _, _, _, _, _, _, _, _, _, _, tr ++ [⟨arr 16 (subSh (addK (wd key) j (pre (wd key) b j))), 0, .own⟩], by rw [ep]; rfl⟩
    · rintro s ⟨x8, x9, x10, x11, x12, x13, x19, x20, x39, x41, x42, x58, x61, x82, x83, tr, rfl⟩
      obtain ⟨r1, hr1, y8, y19, y20, rfl⟩ := add19 h tr key (fun _ => 0#8) (wd key) (arr 32 key) (arr 16 b) 14 (by omega) (pre (wd key) b 14) x8 x9 x10 x11 x12 x13 x20 x39 x41 x42 x58 x61 x82 x83
      simp only [E19, H19] at hr1
      refine ex_of (by conv => lhs; simp [E19, H19, Env.get, Env.put, hr1]) ?_
      exact ⟨by simp, _, _, _, _, _, _, _, _, _, _, _, _, _, _, _, _, _, _, rfl⟩
  obtain ⟨r, hr, x7, x8, x9, x10, x11, x12, x13, x19, x20, x39, x41, x42, x58, x61, x82, x83, b', tr, rfl⟩ := L
  refine ⟨⟨arr 32 key, 0, .own⟩ :: ⟨arr 16 b', 0, .own⟩ :: ⟨arr 16 (encF (wd key) b), 0, .own⟩ :: ⟨arr 256 sbF, 0, .own⟩ :: ⟨mat 60 4 (wd key), 0, .own⟩ :: tr, ?_⟩
  simp only [E19, H19] at hr
  simp [E19, H19, Env.get, Env.put, hr, oneOrTuple, callA4_41]

end Go.Vab

/-
  The standard's block: one computation.
-/
namespace Go.Vab
open Go

def wK : List (List Nat) := [[0, 1, 2, 3],
  [4, 5, 6, 7],
  [8, 9, 10, 11],
  [12, 13, 14, 15],
  [16, 17, 18, 19],
  [20, 21, 22, 23],
  [24, 25, 26, 27],
  [28, 29, 30, 31],
  [165, 115, 194, 159],
  [161, 118, 196, 152],
  [169, 127, 206, 147],
  [165, 114, 192, 156],
  [22, 81, 168, 205],
  [2, 68, 190, 218],
  [26, 93, 164, 193],
  [6, 64, 186, 222],
  [174, 135, 223, 240],
  [15, 241, 27, 104],
  [166, 142, 213, 251],
  [3, 252, 21, 103],
  [109, 225, 241, 72],
  [111, 165, 79, 146],
  [117, 248, 235, 83],
  [115, 184, 81, 141],
  [198, 86, 130, 127],
  [201, 167, 153, 23],
  [111, 41, 76, 236],
  [108, 213, 89, 139],
  [61, 226, 58, 117],
  [82, 71, 117, 231],
  [39, 191, 158, 180],
  [84, 7, 207, 57],
  [11, 220, 144, 95],
  [194, 123, 9, 72],
  [173, 82, 69, 164],
  [193, 135, 28, 47],
  [69, 245, 166, 96],
  [23, 178, 211, 135],
  [48, 13, 77, 51],
  [100, 10, 130, 10],
  [124, 207, 247, 28],
  [190, 180, 254, 84],
  [19, 230, 187, 240],
  [210, 97, 167, 223],
  [240, 26, 250, 254],
  [231, 168, 41, 121],
  [215, 165, 100, 74],
  [179, 175, 230, 64],
  [37, 65, 254, 113],
  [155, 245, 0, 37],
  [136, 19, 187, 213],
  [90, 114, 28, 10],
  [78, 90, 102, 153],
  [169, 242, 79, 224],
  [126, 87, 43, 170],
  [205, 248, 205, 234],
  [36, 252, 121, 204],
  [191, 9, 121, 233],
  [55, 26, 194, 60],
  [109, 104, 222, 54]]
def sK : List (List Nat) := [[0, 17, 34, 51, 68, 85, 102, 119, 136, 153, 170, 187, 204, 221, 238, 255],
  [95, 114, 100, 21, 87, 245, 188, 146, 247, 190, 59, 41, 29, 185, 249, 26],
  [189, 42, 57, 93, 43, 106, 196, 56, 209, 146, 68, 62, 97, 93, 161, 149],
  [129, 13, 206, 12, 201, 219, 129, 114, 179, 103, 140, 30, 136, 161, 181, 189],
  [178, 130, 45, 129, 171, 230, 251, 39, 95, 175, 16, 58, 7, 140, 0, 51],
  [174, 182, 91, 169, 116, 224, 248, 34, 215, 63, 86, 123, 219, 100, 200, 119],
  [185, 81, 195, 60, 2, 233, 189, 41, 174, 37, 205, 177, 239, 160, 140, 199],
  [235, 177, 158, 28, 62, 231, 201, 232, 125, 117, 53, 233, 237, 107, 145, 68],
  [81, 116, 200, 102, 157, 169, 132, 53, 168, 179, 230, 44, 169, 116, 165, 234],
  [15, 119, 238, 49, 210, 204, 173, 192, 84, 48, 168, 63, 78, 249, 106, 195],
  [189, 134, 240, 234, 116, 143, 196, 244, 99, 15, 17, 193, 233, 51, 18, 51],
  [175, 134, 144, 65, 93, 110, 29, 211, 135, 229, 251, 237, 213, 200, 144, 19],
  [116, 39, 250, 228, 216, 166, 149, 38, 156, 232, 61, 49, 91, 224, 57, 43],
  [44, 33, 168, 32, 48, 111, 21, 74, 183, 18, 199, 94, 238, 13, 160, 79],
  [170, 94, 206, 6, 238, 110, 60, 86, 221, 230, 139, 172, 38, 33, 190, 191]]

def at2 (l : List (List Nat)) (i p : Nat) : BitVec 8 := BitVec.ofNat 8 ((l.getD i []).getD p 0)
def keyK (i : Nat) : BitVec 8 := BitVec.ofNat 8 i
def blkK (i : Nat) : BitVec 8 := BitVec.ofNat 8 (17 * i)
def all2 (m n : Nat) (f : Nat → Nat → Bool) : Bool := (List.range m).all fun i => (List.range n).all fun p => f i p
theorem all2_spec {m n : Nat} {f : Nat → Nat → Bool} (h : all2 m n f = true) {i p : Nat} (hi : i < m) (hp : p < n) : f i p = true := by
  simp only [all2, List.all_eq_true, List.mem_range] at h
  exact h i hi p hp

theorem wd_of {key : Nat → BitVec 8} {W : Nat → Nat → BitVec 8} (h0 : ∀ i, i < 8 → ∀ p, p < 4 → W i p = key (4 * i + p))
    (hs : ∀ i, 8 ≤ i → i < 60 → ∀ p, p < 4 → W i p = W (i - 8) p ^^^ (if i % 8 = 0 then subB (W (i - 1) ((p + 1) % 4)) ^^^ (if p = 0 then rcon (i / 8 - 1) else 0#8) else if i % 8 = 4 then subB (W (i - 1) p) else W (i - 1) p)) :
    ∀ i, i < 60 → ∀ p, p < 4 → wd key i p = W i p := by
  intro i
  induction i using Nat.strongRecOn with
  | _ i ih =>
    intro hi p hp
    by_cases h8 : i < 8
    · rw [wd_lt h8, h0 i h8 p hp]
    · rw [wd_ge (by omega), hs i (by omega) hi p hp, ih (i - 8) (by omega) (by omega) p hp, ih (i - 1) (by omega) (by omega) p hp, ih (i - 1) (by omega) (by omega) _ (Nat.mod_lt _ (by decide))]

theorem mixC_congr {c d : Nat → BitVec 8} (h : ∀ i, i < 16 → c i = d i) : ∀ i, i < 16 → mixC c i = mixC d i := by
  intro i hi
  unfold mixC
  rw [h i hi, h (4 * (i / 4)) (by omega), h (4 * (i / 4) + 1) (by omega), h (4 * (i / 4) + 2) (by omega), h (4 * (i / 4) + 3) (by omega), h (4 * (i / 4) + (i % 4 + 1) % 4) (by omega)]
theorem subSh_congr {c d : Nat → BitVec 8} (h : ∀ i, i < 16 → c i = d i) : ∀ i, i < 16 → subSh c i = subSh d i := by
  intro i _
  unfold subSh
  rw [h _ (Nat.mod_lt _ (by decide))]
theorem addK_congr {w v : Nat → Nat → BitVec 8} {c d : Nat → BitVec 8} {j : Nat} (hj : j < 15) (hw : ∀ i, i < 60 → ∀ p, p < 4 → w i p = v i p) (h : ∀ i, i < 16 → c i = d i) : ∀ i, i < 16 → addK w j c i = addK v j d i := by
  intro i hi
  unfold addK
  rw [h i hi, hw _ (by omega) _ (Nat.mod_lt _ (by decide))]
theorem pre_congr {w v : Nat → Nat → BitVec 8} {b d : Nat → BitVec 8} (hw : ∀ i, i < 60 → ∀ p, p < 4 → w i p = v i p) (h : ∀ i, i < 16 → b i = d i) : ∀ j, j ≤ 14 → ∀ i, i < 16 → pre w b j i = pre v d j i
  | 0, _ => h
  | j + 1, hj => by
    intro i hi
    have := subSh_congr (addK_congr (j := j) (by omega) hw (pre_congr hw h j (by omega)))
    simp only [pre]
    split
    · exact this i hi
    · exact mixC_congr this i hi
theorem encF_congr {w v : Nat → Nat → BitVec 8} {b d : Nat → BitVec 8} (hw : ∀ i, i < 60 → ∀ p, p < 4 → w i p = v i p) (h : ∀ i, i < 16 → b i = d i) : ∀ i, i < 16 → encF w b i = encF v d i :=
  addK_congr (by decide) hw (pre_congr hw h 14 (by decide))
theorem pre_of {w : Nat → Nat → BitVec 8} {b : Nat → BitVec 8} {S : Nat → Nat → BitVec 8} (h0 : ∀ i, i < 16 → S 0 i = b i)
    (hs : ∀ j, j < 14 → ∀ i, i < 16 → S (j + 1) i = if j = 13 then subSh (addK w j (S j)) i else mixC (subSh (addK w j (S j))) i) : ∀ j, j ≤ 14 → ∀ i, i < 16 → pre w b j i = S j i
  | 0, _ => fun i hi => (h0 i hi).symm
  | j + 1, hj => by
    intro i hi
    have := subSh_congr (addK_congr (w := w) (v := w) (j := j) (by omega) (fun _ _ _ _ => rfl) (pre_of h0 hs j (by omega)))
    rw [hs j (by omega) i hi]
    simp only [pre]
    split
    · exact this i hi
    · exact mixC_congr this i hi

theorem wK_0 : all2 8 4 (fun i p => bq (at2 wK i p) (keyK (4 * i + p))) = true := by kernel_rfl
theorem wK_s : all2 60 4 (fun i p => decide (i < 8) || bq (at2 wK i p) (at2 wK (i - 8) p ^^^ (if i % 8 = 0 then subB (at2 wK (i - 1) ((p + 1) % 4)) ^^^ (if p = 0 then rcon (i / 8 - 1) else 0#8) else if i % 8 = 4 then subB (at2 wK (i - 1) p) else at2 wK (i - 1) p))) = true := by kernel_rfl
theorem sK_0 : all2 1 16 (fun _ i => bq (at2 sK 0 i) (blkK i)) = true := by kernel_rfl
theorem sK_s : all2 14 16 (fun j i => bq (at2 sK (j + 1) i) (if j = 13 then subSh (addK (at2 wK) j (at2 sK j)) i else mixC (subSh (addK (at2 wK) j (at2 sK j))) i)) = true := by kernel_rfl

theorem wd_known : ∀ i, i < 60 → ∀ p, p < 4 → wd keyK i p = at2 wK i p :=
  wd_of (fun i hi p hp => bq_eq (all2_spec wK_0 hi hp)) fun i h8 hi p hp => by
    have := all2_spec wK_s hi hp
    rw [Bool.or_eq_true] at this
    rcases this with h | h
    · exact absurd (of_decide_eq_true h) (by omega)
    · exact bq_eq h
theorem pre_known : ∀ j, j ≤ 14 → ∀ i, i < 16 → pre (at2 wK) blkK j i = at2 sK j i :=
  pre_of (fun i hi => bq_eq (all2_spec sK_0 (by decide : 0 < 1) hi)) fun j hj i hi => bq_eq (all2_spec sK_s hj hi)

def outK : List Nat := [142, 162, 183, 202, 81, 103, 69, 191, 234, 252, 73, 144, 75, 73, 96, 137]
theorem outK_s : all2 1 16 (fun _ i => bq (addK (at2 wK) 14 (at2 sK 14) i) (BitVec.ofNat 8 (outK.getD i 0))) = true := by kernel_rfl
/-- The standard's block. -/
theorem known : ∀ i, i < 16 → encF (wd keyK) blkK i = BitVec.ofNat 8 (outK.getD i 0) := by
  intro i hi
  rw [encF_congr wd_known (fun _ _ => rfl) i hi]
  unfold encF
  rw [addK_congr (w := at2 wK) (v := at2 wK) (j := 14) (by decide) (fun _ _ _ _ => rfl) (pre_known 14 (by decide)) i hi]
  exact bq_eq (all2_spec outK_s (by decide : 0 < 1) hi)

end Go.Vab

/-
  Arrays of bytes held against each other.
-/
namespace Go.Vab
open Go

def arrEq (n : Nat) (g g' : Nat → BitVec 8) : Bool := (List.range n).all fun i => decide (g i = g' i)
def matEq (m n : Nat) (g g' : Nat → Nat → BitVec 8) : Bool := (List.range m).all fun i => arrEq n (g i) (g' i)

theorem arrEq_iff {n : Nat} {g g' : Nat → BitVec 8} : arrEq n g g' = true ↔ ∀ i, i < n → g i = g' i := by
  simp [arrEq, List.all_eq_true]
theorem matEq_iff {m n : Nat} {g g' : Nat → Nat → BitVec 8} : matEq m n g g' = true ↔ ∀ i, i < m → ∀ p, p < n → g i p = g' i p := by
  simp [matEq, List.all_eq_true, arrEq_iff]

theorem eqv_arr2 (n : Nat) (g g' : Nat → BitVec 8) : eqv (arr n g) (arr n g') = some (arrEq n g g') := by
  rw [eqv_arr]
  congr 1
  rw [Bool.eq_iff_iff, arrEq_iff]
  simp

theorem eqvs_arr (n : Nat) (g g' : Nat → Nat → BitVec 8) : ∀ l : List Nat, eqvs (l.map fun i => arr n (g i)) (l.map fun i => arr n (g' i)) = some (l.all fun i => arrEq n (g i) (g' i))
  | [] => rfl
  | a :: l => by
    simp only [List.map_cons, eqvs, eqv_arr2, eqvs_arr n g g' l, List.all_cons]

theorem eqv_mat (m n : Nat) (g g' : Nat → Nat → BitVec 8) : eqv (mat m n g) (mat m n g') = some (matEq m n g g') := by
  unfold mat
  simp only [eqv, eqvs_arr]; rfl

@[simp] theorem mEq_arr (n : Nat) (g g' : Nat → BitVec 8) : mEq (.arr n (.int .u8)) .eql (arr n g) (arr n g') = some (.bool (arrEq n g g')) := by
  simp [mEq, eqv_arr2]
@[simp] theorem mNe_arr (n : Nat) (g g' : Nat → BitVec 8) : mEq (.arr n (.int .u8)) .neq (arr n g) (arr n g') = some (.bool (!arrEq n g g')) := by
  simp [mEq, eqv_arr2]
@[simp] theorem mEq_mat (m n : Nat) (g g' : Nat → Nat → BitVec 8) : mEq (.arr m (.arr n (.int .u8))) .eql (mat m n g) (mat m n g') = some (.bool (matEq m n g g')) := by
  simp [mEq, eqv_mat]
@[simp] theorem gdo_bool (b want : Bool) (m : Option (AV × Heap)) (h : Heap) : gdo (.bool b) want m h = if b = want then m else some (.undef, h) := rfl
@[simp] theorem gdo_undef (want : Bool) (m : Option (AV × Heap)) (h : Heap) : gdo .undef want m h = some (.undef, h) := rfl
@[simp] theorem mPick_bool (b : Bool) (x y : AV) : mPick (.bool b) x y = some (if b = true then x else y) := rfl
@[simp] theorem mBinB_eql (a b : Bool) : mBinB .eql (.bool a) (.bool b) = some (.bool (a == b)) := rfl
@[simp] theorem mBinB_neq (a b : Bool) : mBinB .neq (.bool a) (.bool b) = some (.bool (!(a == b))) := rfl

end Go.Vab

/- How the evaluator reads the functions of a seat. Printed by wip/tools/gen.py (own work). -/
namespace Go.Vab
open Go Go.Proofs
/-! vestry/vestrylaw08.known -/
noncomputable def cx18 (call : Calling) : Ctx := ⟨call, TT, 27, [7, 8, 9, 10, 11, 12, 15, 16, 17, 18, 19, 20, 21, 22, 23, 24, 25, 26]⟩
noncomputable def n18_0 : Code := bodyOf Try.f18
noncomputable def n18_1 : Code := cR n18_0
noncomputable def n18_2 : Code := cR n18_1
noncomputable def n18_3 : Code := cR n18_2
noncomputable def n18_4 : Code := cL n18_3
noncomputable def n18_5 : Code := cR n18_4
noncomputable def n18_6 : Code := cB n18_5
noncomputable def n18_7 : Code := cB n18_6
noncomputable def n18_8 : Code := cR n18_7
noncomputable def n18_9 : Code := cL n18_8
noncomputable def n18_10 : Code := cL n18_9
noncomputable def n18_11 : Code := cR n18_9
noncomputable def n18_12 : Code := cR n18_8
noncomputable def n18_13 : Code := cL n18_12
noncomputable def n18_14 : Code := cB n18_13
noncomputable def n18_15 : Code := cR n18_14
noncomputable def n18_16 : Code := cR n18_12
noncomputable def n18_17 : Code := cR n18_3
noncomputable def n18_18 : Code := cL n18_17
noncomputable def n18_19 : Code := cR n18_18
noncomputable def n18_20 : Code := cB n18_19
noncomputable def n18_21 : Code := cB n18_20
noncomputable def n18_22 : Code := cR n18_21
noncomputable def n18_23 : Code := cL n18_22
noncomputable def n18_24 : Code := cL n18_23
noncomputable def n18_25 : Code := cR n18_23
noncomputable def n18_26 : Code := cR n18_22
noncomputable def n18_27 : Code := cL n18_26
noncomputable def n18_28 : Code := cB n18_27
noncomputable def n18_29 : Code := cR n18_28
noncomputable def n18_30 : Code := cR n18_26
noncomputable def n18_31 : Code := cR n18_17
noncomputable def n18_32 : Code := cR n18_31
@[simp] theorem n18_10_eq (call : Calling) (s : St) : evC (cx18 call) n18_10 s = some (.nrm, s) := ev_skip (by kernel_rfl)
@[simp] theorem n18_11_eq (call : Calling) (s : St) : evC (cx18 call) n18_11 s = some (.exit 0, s) := ev_exit 0 (by kernel_rfl)
@[simp] theorem n18_9_eq (call : Calling) (s : St) : evC (cx18 call) n18_9 s = cnd (s.env.get 6) (evC (cx18 call) n18_10 s) (evC (cx18 call) n18_11 s) := ev_cond 6 _ _ (by kernel_rfl)
@[simp] theorem n18_15_eq (call : Calling) (env : Env) (h : Heap) : evC (cx18 call) n18_15 ⟨env, h⟩ = (bnd (pureV h (mConv .u8 (env.get 3))) fun r2 => bnd (pureV r2.2 (mIdxA (.arr 32 (.int .u8)) (env.get 1) (env.get 3))) fun r3 => bnd (stU (.int .u8) r3.1 r2.1 r3.2) fun r4 => some (.nrm, ⟨env, r4.2⟩)) := (ev_reg 6 (cOps n18_15) (by kernel_rfl)).trans (by
  refine opsK_0 ?_
  refine opsK_t 8 (env.get 3) (by kernel_rfl) (by kernel_rfl) (by kernel_rfl) (by kernel_rfl) ?_
  refine opsK_t 9 (env.get 3) (by kernel_rfl) (by kernel_rfl) (by kernel_rfl) (by kernel_rfl) ?_
  refine opsK_p 10 (by kernel_rfl) (by kernel_rfl) (by kernel_rfl) (by kernel_rfl) fun r2 => ?_
  refine opsK_p 11 (by kernel_rfl) (by kernel_rfl) (by kernel_rfl) (by kernel_rfl) fun r3 => ?_
  refine opsK_n (by kernel_rfl) (by kernel_rfl) (by kernel_rfl) fun r4 => ?_
  exact opsK_e (by kernel_rfl) (by kernel_rfl))
@[simp] theorem n18_14_eq (call : Calling) (env : Env) (h : Heap) : evC (cx18 call) n18_14 ⟨env, h⟩ = ( evC (cx18 call) n18_15 ⟨(Env.put env 3 (env.get 5)), h⟩) := (ev_seqreg 5 (cOps (cL n18_14)) (cR n18_14) (by kernel_rfl)).trans (by
  refine opsK_0 ?_
  refine opsK_t 7 (env.get 5) (by kernel_rfl) (by kernel_rfl) (by kernel_rfl) (by kernel_rfl) ?_
  refine opsK_t 3 (env.get 5) (by kernel_rfl) (by kernel_rfl) (by kernel_rfl) (by kernel_rfl) ?_
  exact opsK_e (by kernel_rfl) (by kernel_rfl))
@[simp] theorem n18_13_eq (call : Calling) (s : St) : evC (cx18 call) n18_13 s = bnd (evC (cx18 call) n18_14 s) fun r => some (inBlk 1 r) := ev_block 1 _ (by kernel_rfl)
@[simp] theorem n18_16_eq (call : Calling) (env : Env) (h : Heap) : evC (cx18 call) n18_16 ⟨env, h⟩ = (bnd (pureV h (mBin .add (env.get 5) (nat 1))) fun r0 => some (.nrm, ⟨(Env.put env 5 r0.1), r0.2⟩)) := (ev_reg 7 (cOps n18_16) (by kernel_rfl)).trans (by
  refine opsK_0 ?_
  refine opsK_p 12 (by kernel_rfl) (by kernel_rfl) (by kernel_rfl) (by kernel_rfl) fun r0 => ?_
  refine opsK_t 5 r0.1 (by kernel_rfl) (by kernel_rfl) (by kernel_rfl) (by kernel_rfl) ?_
  exact opsK_e (by kernel_rfl) (by kernel_rfl))
@[simp] theorem n18_12_eq (call : Calling) (s : St) : evC (cx18 call) n18_12 s = bnd (evC (cx18 call) n18_13 s) (sqK (evC (cx18 call) n18_16)) := ev_seq _ _ (by kernel_rfl)
@[simp] theorem n18_8_eq (call : Calling) (s : St) : evC (cx18 call) n18_8 s = bnd (evC (cx18 call) n18_9 s) (sqK (evC (cx18 call) n18_12)) := ev_seq _ _ (by kernel_rfl)
@[simp] theorem n18_7_eq (call : Calling) (env : Env) (h : Heap) : evC (cx18 call) n18_7 ⟨env, h⟩ = (bnd (pureV h (mBin .lss (env.get 5) (nat 32))) fun r0 => evC (cx18 call) n18_8 ⟨(Env.put env 6 r0.1), r0.2⟩) := (ev_seqreg 4 (cOps (cL n18_7)) (cR n18_7) (by kernel_rfl)).trans (by
  refine opsK_0 ?_
  refine opsK_p 6 (by kernel_rfl) (by kernel_rfl) (by kernel_rfl) (by kernel_rfl) fun r0 => ?_
  exact opsK_e (by kernel_rfl) (by kernel_rfl))
@[simp] theorem n18_6_eq (call : Calling) (s : St) : evC (cx18 call) n18_6 s = evLoop (evC (cx18 call) n18_7) s := ev_loop _ (by kernel_rfl)
@[simp] theorem n18_5_eq (call : Calling) (s : St) : evC (cx18 call) n18_5 s = bnd (evC (cx18 call) n18_6 s) fun r => some (inBlk 0 r) := ev_block 0 _ (by kernel_rfl)
@[simp] theorem n18_4_eq (call : Calling) (env : Env) (h : Heap) : evC (cx18 call) n18_4 ⟨env, h⟩ = ( evC (cx18 call) n18_5 ⟨(Env.put env 5 (nat 0)), h⟩) := (ev_seqreg 3 (cOps (cL n18_4)) (cR n18_4) (by kernel_rfl)).trans (by
  refine opsK_0 ?_
  refine opsK_t 5 (nat 0) (by kernel_rfl) (by kernel_rfl) (by kernel_rfl) (by kernel_rfl) ?_
  exact opsK_e (by kernel_rfl) (by kernel_rfl))
@[simp] theorem n18_24_eq (call : Calling) (s : St) : evC (cx18 call) n18_24 s = some (.nrm, s) := ev_skip (by kernel_rfl)
@[simp] theorem n18_25_eq (call : Calling) (s : St) : evC (cx18 call) n18_25 s = some (.exit 2, s) := ev_exit 2 (by kernel_rfl)
@[simp] theorem n18_23_eq (call : Calling) (s : St) : evC (cx18 call) n18_23 s = cnd (s.env.get 14) (evC (cx18 call) n18_24 s) (evC (cx18 call) n18_25 s) := ev_cond 14 _ _ (by kernel_rfl)
@[simp] theorem n18_29_eq (call : Calling) (env : Env) (h : Heap) : evC (cx18 call) n18_29 ⟨env, h⟩ = (bnd (pureV h (mBin .mul (nat 17) (env.get 4))) fun r2 => bnd (pureV r2.2 (mConv .u8 r2.1)) fun r3 => bnd (pureV r3.2 (mIdxA (.arr 16 (.int .u8)) (env.get 2) (env.get 4))) fun r4 => bnd (stU (.int .u8) r4.1 r3.1 r4.2) fun r5 => some (.nrm, ⟨env, r5.2⟩)) := (ev_reg 11 (cOps n18_29) (by kernel_rfl)).trans (by
  refine opsK_0 ?_
  refine opsK_t 16 (env.get 4) (by kernel_rfl) (by kernel_rfl) (by kernel_rfl) (by kernel_rfl) ?_
  refine opsK_t 17 (env.get 4) (by kernel_rfl) (by kernel_rfl) (by kernel_rfl) (by kernel_rfl) ?_
  refine opsK_p 18 (by kernel_rfl) (by kernel_rfl) (by kernel_rfl) (by kernel_rfl) fun r2 => ?_
  refine opsK_p 19 (by kernel_rfl) (by kernel_rfl) (by kernel_rfl) (by kernel_rfl) fun r3 => ?_
  refine opsK_p 20 (by kernel_rfl) (by kernel_rfl) (by kernel_rfl) (by kernel_rfl) fun r4 => ?_
  refine opsK_n (by kernel_rfl) (by kernel_rfl) (by kernel_rfl) fun r5 => ?_
  exact opsK_e (by kernel_rfl) (by kernel_rfl))
@[simp] theorem n18_28_eq (call : Calling) (env : Env) (h : Heap) : evC (cx18 call) n18_28 ⟨env, h⟩ = ( evC (cx18 call) n18_29 ⟨(Env.put env 4 (env.get 13)), h⟩) := (ev_seqreg 10 (cOps (cL n18_28)) (cR n18_28) (by kernel_rfl)).trans (by
  refine opsK_0 ?_
  refine opsK_t 15 (env.get 13) (by kernel_rfl) (by kernel_rfl) (by kernel_rfl) (by kernel_rfl) ?_
  refine opsK_t 4 (env.get 13) (by kernel_rfl) (by kernel_rfl) (by kernel_rfl) (by kernel_rfl) ?_
  exact opsK_e (by kernel_rfl) (by kernel_rfl))
@[simp] theorem n18_27_eq (call : Calling) (s : St) : evC (cx18 call) n18_27 s = bnd (evC (cx18 call) n18_28 s) fun r => some (inBlk 3 r) := ev_block 3 _ (by kernel_rfl)
@[simp] theorem n18_30_eq (call : Calling) (env : Env) (h : Heap) : evC (cx18 call) n18_30 ⟨env, h⟩ = (bnd (pureV h (mBin .add (env.get 13) (nat 1))) fun r0 => some (.nrm, ⟨(Env.put env 13 r0.1), r0.2⟩)) := (ev_reg 12 (cOps n18_30) (by kernel_rfl)).trans (by
  refine opsK_0 ?_
  refine opsK_p 21 (by kernel_rfl) (by kernel_rfl) (by kernel_rfl) (by kernel_rfl) fun r0 => ?_
  refine opsK_t 13 r0.1 (by kernel_rfl) (by kernel_rfl) (by kernel_rfl) (by kernel_rfl) ?_
  exact opsK_e (by kernel_rfl) (by kernel_rfl))
@[simp] theorem n18_26_eq (call : Calling) (s : St) : evC (cx18 call) n18_26 s = bnd (evC (cx18 call) n18_27 s) (sqK (evC (cx18 call) n18_30)) := ev_seq _ _ (by kernel_rfl)
@[simp] theorem n18_22_eq (call : Calling) (s : St) : evC (cx18 call) n18_22 s = bnd (evC (cx18 call) n18_23 s) (sqK (evC (cx18 call) n18_26)) := ev_seq _ _ (by kernel_rfl)
@[simp] theorem n18_21_eq (call : Calling) (env : Env) (h : Heap) : evC (cx18 call) n18_21 ⟨env, h⟩ = (bnd (pureV h (mBin .lss (env.get 13) (nat 16))) fun r0 => evC (cx18 call) n18_22 ⟨(Env.put env 14 r0.1), r0.2⟩) := (ev_seqreg 9 (cOps (cL n18_21)) (cR n18_21) (by kernel_rfl)).trans (by
  refine opsK_0 ?_
  refine opsK_p 14 (by kernel_rfl) (by kernel_rfl) (by kernel_rfl) (by kernel_rfl) fun r0 => ?_
  exact opsK_e (by kernel_rfl) (by kernel_rfl))
@[simp] theorem n18_20_eq (call : Calling) (s : St) : evC (cx18 call) n18_20 s = evLoop (evC (cx18 call) n18_21) s := ev_loop _ (by kernel_rfl)
@[simp] theorem n18_19_eq (call : Calling) (s : St) : evC (cx18 call) n18_19 s = bnd (evC (cx18 call) n18_20 s) fun r => some (inBlk 2 r) := ev_block 2 _ (by kernel_rfl)
@[simp] theorem n18_18_eq (call : Calling) (env : Env) (h : Heap) : evC (cx18 call) n18_18 ⟨env, h⟩ = ( evC (cx18 call) n18_19 ⟨(Env.put env 13 (nat 0)), h⟩) := (ev_seqreg 8 (cOps (cL n18_18)) (cR n18_18) (by kernel_rfl)).trans (by
  refine opsK_0 ?_
  refine opsK_t 13 (nat 0) (by kernel_rfl) (by kernel_rfl) (by kernel_rfl) (by kernel_rfl) ?_
  exact opsK_e (by kernel_rfl) (by kernel_rfl))
@[simp] theorem n18_32_eq (call : Calling) (s : St) : evC (cx18 call) n18_32 s = some (.ret, s) := ev_ret (by kernel_rfl)
@[simp] theorem n18_31_eq (call : Calling) (env : Env) (h : Heap) : evC (cx18 call) n18_31 ⟨env, h⟩ = (bnd (pureV h (mLoad (.arr 32 (.int .u8)) (env.get 1) h)) fun r0 => bnd (pureV r0.2 (mLoad (.arr 16 (.int .u8)) (env.get 2) r0.2)) fun r1 => bnd (call 19 [r0.1, r1.1] r1.2) fun r2 => bnd (pureV r2.2 (fillRow (.arr 16 (.int .u8)) (arr 16 fun _ => 0#8) [(0, (u8 142#8)), (1, (u8 162#8)), (2, (u8 183#8)), (3, (u8 202#8)), (4, (u8 81#8)), (5, (u8 103#8)), (6, (u8 69#8)), (7, (u8 191#8)), (8, (u8 234#8)), (9, (u8 252#8)), (10, (u8 73#8)), (11, (u8 144#8)), (12, (u8 75#8)), (13, (u8 73#8)), (14, (u8 96#8)), (15, (u8 137#8))])) fun r3 => bnd (pureV r3.2 (mEq (.arr 16 (.int .u8)) .eql r2.1 r3.1)) fun r4 => evC (cx18 call) n18_32 ⟨(Env.put env 0 r4.1), r4.2⟩) := (ev_seqreg 13 (cOps (cL n18_31)) (cR n18_31) (by kernel_rfl)).trans (by
  refine opsK_0 ?_
  refine opsK_p 22 (by kernel_rfl) (by kernel_rfl) (by kernel_rfl) (by kernel_rfl) fun r0 => ?_
  refine opsK_p 23 (by kernel_rfl) (by kernel_rfl) (by kernel_rfl) (by kernel_rfl) fun r1 => ?_
  refine opsK_p 24 (by kernel_rfl) (by kernel_rfl) (by kernel_rfl) (by kernel_rfl) fun r2 => ?_
  refine opsK_p 25 (by kernel_rfl) (by kernel_rfl) (by kernel_rfl) (by kernel_rfl) fun r3 => ?_
  refine opsK_p 26 (by kernel_rfl) (by kernel_rfl) (by kernel_rfl) (by kernel_rfl) fun r4 => ?_
  refine opsK_t 0 r4.1 (by kernel_rfl) (by kernel_rfl) (by kernel_rfl) (by kernel_rfl) ?_
  exact opsK_e (by kernel_rfl) (by kernel_rfl))
@[simp] theorem n18_17_eq (call : Calling) (s : St) : evC (cx18 call) n18_17 s = bnd (evC (cx18 call) n18_18 s) (sqK (evC (cx18 call) n18_31)) := ev_seq _ _ (by kernel_rfl)
@[simp] theorem n18_3_eq (call : Calling) (s : St) : evC (cx18 call) n18_3 s = bnd (evC (cx18 call) n18_4 s) (sqK (evC (cx18 call) n18_17)) := ev_seq _ _ (by kernel_rfl)
@[simp] theorem n18_2_eq (call : Calling) (env : Env) (h : Heap) : evC (cx18 call) n18_2 ⟨env, h⟩ = (bnd (mNew (.arr 16 (.int .u8)) (arr 16 fun _ => 0#8) h) fun r0 => evC (cx18 call) n18_3 ⟨(Env.put env 2 r0.1), r0.2⟩) := (ev_seqreg 2 (cOps (cL n18_2)) (cR n18_2) (by kernel_rfl)).trans (by
  refine opsK_0 ?_
  refine opsK_p 2 (by kernel_rfl) (by kernel_rfl) (by kernel_rfl) (by kernel_rfl) fun r0 => ?_
  exact opsK_e (by kernel_rfl) (by kernel_rfl))
@[simp] theorem n18_1_eq (call : Calling) (env : Env) (h : Heap) : evC (cx18 call) n18_1 ⟨env, h⟩ = (bnd (mNew (.arr 32 (.int .u8)) (arr 32 fun _ => 0#8) h) fun r0 => evC (cx18 call) n18_2 ⟨(Env.put env 1 r0.1), r0.2⟩) := (ev_seqreg 1 (cOps (cL n18_1)) (cR n18_1) (by kernel_rfl)).trans (by
  refine opsK_0 ?_
  refine opsK_p 1 (by kernel_rfl) (by kernel_rfl) (by kernel_rfl) (by kernel_rfl) fun r0 => ?_
  exact opsK_e (by kernel_rfl) (by kernel_rfl))
@[simp] theorem n18_0_eq (call : Calling) (env : Env) (h : Heap) : evC (cx18 call) n18_0 ⟨env, h⟩ = ( evC (cx18 call) n18_1 ⟨(Env.put env 0 (.bool false)), h⟩) := (ev_seqreg 0 (cOps (cL n18_0)) (cR n18_0) (by kernel_rfl)).trans (by
  refine opsK_0 ?_
  refine opsK_t 0 (.bool false) (by kernel_rfl) (by kernel_rfl) (by kernel_rfl) (by kernel_rfl) ?_
  exact opsK_e (by kernel_rfl) (by kernel_rfl))
theorem b18 (call : Calling) (h : Heap) : evBody (cx18 call) Try.f18 n18_0 [] h = bnd (evC (cx18 call) n18_0 ⟨[(0, .junk), (1, .junk), (2, .junk), (3, .junk), (4, .junk), (5, .junk), (6, .junk), (13, .junk), (14, .junk)], h⟩) (retK fun s => bnd (bnd (some (s.env.get 0)) fun v => bnd (some []) fun vs => some (v :: vs)) fun vs => some (oneOrTuple vs)) := by kernel_rfl
theorem fn18 : Try.prog.funcs[18]? = some Try.f18 := by kernel_rfl
theorem k18 : Callable Try.prog 18 := ⟨Try.f18, fn18, by kernel_rfl, by kernel_rfl⟩
theorem s18 {call : Calling} (hc : CallOK Try.prog call) {args : List AV} {h h' : Heap} {v : AV} (he : evBody (cx18 call) Try.f18 n18_0 args h = some (v, h')) : Spec Try.prog 18 args h v h' := body_sound (C := cx18 call) TT_ok hc mixed_ok fn18 (by kernel_rfl) (by kernel_rfl) he
end Go.Vab

/- How the evaluator reads the functions of a seat. Printed by wip/tools/gen.py (own work). -/
namespace Go.Vab
open Go Go.Proofs
/-! vestry/aes.Words -/
noncomputable def cx21 (call : Calling) : Ctx := ⟨call, TT, 7, [4, 5, 6]⟩
noncomputable def n21_0 : Code := bodyOf Try.f21
noncomputable def n21_1 : Code := cR n21_0
noncomputable def n21_2 : Code := cR n21_1
noncomputable def n21_3 : Code := cR n21_2
@[simp] theorem n21_3_eq (call : Calling) (s : St) : evC (cx21 call) n21_3 s = some (.ret, s) := ev_ret (by kernel_rfl)
@[simp] theorem n21_2_eq (call : Calling) (env : Env) (h : Heap) : evC (cx21 call) n21_2 ⟨env, h⟩ = (bnd (pureV h (mLoad (.arr 32 (.int .u8)) (env.get 1) h)) fun r0 => bnd (call 41 [r0.1, (env.get 3)] r0.2) fun r1 => bnd (stU (.arr 60 (.arr 4 (.int .u8))) (env.get 2) r1.1 r1.2) fun r2 => evC (cx21 call) n21_3 ⟨env, r2.2⟩) := (ev_seqreg 2 (cOps (cL n21_2)) (cR n21_2) (by kernel_rfl)).trans (by
  refine opsK_0 ?_
  refine opsK_p 5 (by kernel_rfl) (by kernel_rfl) (by kernel_rfl) (by kernel_rfl) fun r0 => ?_
  refine opsK_p 6 (by kernel_rfl) (by kernel_rfl) (by kernel_rfl) (by kernel_rfl) fun r1 => ?_
  refine opsK_n (by kernel_rfl) (by kernel_rfl) (by kernel_rfl) fun r2 => ?_
  exact opsK_e (by kernel_rfl) (by kernel_rfl))
@[simp] theorem n21_1_eq (call : Calling) (env : Env) (h : Heap) : evC (cx21 call) n21_1 ⟨env, h⟩ = (bnd (call 40 [] h) fun r0 => bnd (mNew (.arr 256 (.int .u8)) (arr 256 fun _ => 0#8) r0.2) fun r1 => bnd (stU (.arr 256 (.int .u8)) r1.1 r0.1 r1.2) fun r2 => evC (cx21 call) n21_2 ⟨(Env.put env 3 r1.1), r2.2⟩) := (ev_seqreg 1 (cOps (cL n21_1)) (cR n21_1) (by kernel_rfl)).trans (by
  refine opsK_0 ?_
  refine opsK_p 4 (by kernel_rfl) (by kernel_rfl) (by kernel_rfl) (by kernel_rfl) fun r0 => ?_
  refine opsK_p 3 (by kernel_rfl) (by kernel_rfl) (by kernel_rfl) (by kernel_rfl) fun r1 => ?_
  refine opsK_n (by kernel_rfl) (by kernel_rfl) (by kernel_rfl) fun r2 => ?_
  exact opsK_e (by kernel_rfl) (by kernel_rfl))
@[simp] theorem n21_0_eq (call : Calling) (env : Env) (h : Heap) : evC (cx21 call) n21_0 ⟨env, h⟩ = (bnd (mNew (.arr 32 (.int .u8)) (env.get 0) h) fun r0 => bnd (mNew (.arr 60 (.arr 4 (.int .u8))) (mat 60 4 fun _ _ => 0#8) r0.2) fun r1 => evC (cx21 call) n21_1 ⟨(Env.put (Env.put env 1 r0.1) 2 r1.1), r1.2⟩) := (ev_seqreg 0 (cOps (cL n21_0)) (cR n21_0) (by kernel_rfl)).trans (by
  refine opsK_0 ?_
  refine opsK_p 1 (by kernel_rfl) (by kernel_rfl) (by kernel_rfl) (by kernel_rfl) fun r0 => ?_
  refine opsK_p 2 (by kernel_rfl) (by kernel_rfl) (by kernel_rfl) (by kernel_rfl) fun r1 => ?_
  exact opsK_e (by kernel_rfl) (by kernel_rfl))
theorem b21 (call : Calling) (a0 : AV) (h : Heap) : evBody (cx21 call) Try.f21 n21_0 [a0] h = bnd (evC (cx21 call) n21_0 ⟨[(0, a0), (1, .junk), (2, .junk), (3, .junk)], h⟩) (retK fun s => bnd (bnd (mLoad (.arr 60 (.arr 4 (.int .u8))) (s.env.get 2) s.heap) fun v => bnd (some []) fun vs => some (v :: vs)) fun vs => some (oneOrTuple vs)) := by kernel_rfl
theorem fn21 : Try.prog.funcs[21]? = some Try.f21 := by kernel_rfl
theorem k21 : Callable Try.prog 21 := ⟨Try.f21, fn21, by kernel_rfl, by kernel_rfl⟩
theorem s21 {call : Calling} (hc : CallOK Try.prog call) {args : List AV} {h h' : Heap} {v : AV} (he : evBody (cx21 call) Try.f21 n21_0 args h = some (v, h')) : Spec Try.prog 21 args h v h' := body_sound (C := cx21 call) TT_ok hc mixed_ok fn21 (by kernel_rfl) (by kernel_rfl) he
end Go.Vab

/-
  Encrypt's contract, the known block, the words.
-/
namespace Go.Vab
open Go Go.Proofs

noncomputable def c19 := conC (fun x : (Nat → BitVec 8) × (Nat → BitVec 8) => [arr 32 x.1, arr 16 x.2]) (fun _ _ => True) (fun x h => (arr 16 (encF (wd x.1) x.2), h))
noncomputable def callA5 : Calling := addC callA4 19 c19
theorem c19_eq (key b : Nat → BitVec 8) (h : Heap) : c19 [arr 32 key, arr 16 b] h = some (arr 16 (encF (wd key) b), h) :=
  conC_eq (enc := fun x : (Nat → BitVec 8) × (Nat → BitVec 8) => [arr 32 x.1, arr 16 x.2]) (a := (key, b)) (f := fun x h => (arr 16 (encF (wd x.1) x.2), h))
    (fun x y h e => by
      have e1 := arr_inj.1 (List.cons.inj e).1
      have e2 := arr_inj.1 (List.cons.inj (List.cons.inj e).2).1
      simp only [Prod.mk.injEq, and_true]
      exact arr_congr (encF_congr (fun i _ p hp => wd_congr e1 i p hp) e2)) trivial
theorem callA5_ok : CallOK Try.prog callA5 := addC_con callA4_ok k19 fun x h _ => by
  obtain ⟨t, ht⟩ := walk19 h x.1 x.2
  exact (s19 callA4_ok ht).drop0 t rfl
@[simp] theorem callA5_14 (a b : BitVec 8) (h : Heap) : callA5 14 [u8 a, u8 b] h = some (u8 (mulB a b), h) := by simp [callA5, addC]
@[simp] theorem callA5_16 (a : BitVec 8) (h : Heap) : callA5 16 [u8 a] h = some (u8 (subB a), h) := by simp [callA5, addC]
@[simp] theorem callA5_40 (h : Heap) : callA5 40 [] h = some (arr 256 sbF, h) := by simp [callA5, addC]
theorem callA5_41 (key : Nat → BitVec 8) (it vt : Nat) (h : Heap) (ht : ∃ m, blkAt h it vt = some ⟨arr 256 sbF, vt, m⟩) : callA5 41 [arr 32 key, .ptr it vt [] (.arr 256 (.int .u8))] h = some (mat 60 4 (wd key), h) := by
  have := callA4_41 key it vt h ht
  simpa [callA5, addC] using this
@[simp] theorem callA5_19 (key b : Nat → BitVec 8) (h : Heap) : callA5 19 [arr 32 key, arr 16 b] h = some (arr 16 (encF (wd key) b), h) := by simp [callA5, addC, c19_eq]

theorem walk21 (key : Nat → BitVec 8) (h : Heap) : ∃ t, evBody (cx21 callA5) Try.f21 n21_0 [arr 32 key] h = some (mat 60 4 (wd key), h ++ t) := by
  rw [b21]
  refine ⟨[⟨arr 32 key, 0, .own⟩, ⟨mat 60 4 (wd key), 0, .own⟩, ⟨arr 256 sbF, 0, .own⟩], ?_⟩
  simp [Env.get, Env.put, oneOrTuple, callA5_41]

def outF (i : Nat) : BitVec 8 := BitVec.ofNat 8 (outK.getD i 0)

theorem walk18 (h : Heap) : ∃ t, evBody (cx18 callA5) Try.f18 n18_0 [] h = some (.bool true, h ++ t) := by
  rw [b18]
  have L1 : ∃ r, evLoop (evC (cx18 callA5) n18_7) ⟨[(0, .bool false), (1, .ptr h.length 0 [] (.arr 32 (.int .u8))), (2, .ptr (h.length + 1) 0 [] (.arr 16 (.int .u8))), (3, .junk), (4, .junk), (5, nat 0), (6, .junk), (13, .junk), (14, .junk)], h ++ [⟨(arr 32 fun _ => 0#8), 0, .own⟩, ⟨(arr 16 fun _ => 0#8), 0, .own⟩]⟩ = some r ∧
      ∃ x3 x5 x6, r = (.exit 0, ⟨[(0, .bool false), (1, .ptr h.length 0 [] (.arr 32 (.int .u8))), (2, .ptr (h.length + 1) 0 [] (.arr 16 (.int .u8))), (3, x3), (4, .junk), (5, x5), (6, x6), (13, .junk), (14, .junk)], h ++ [⟨arr 32 keyK, 0, .own⟩, ⟨(arr 16 fun _ => 0#8), 0, .own⟩]⟩) := by
    refine evLoop_up 32 (fun i s => ∃ x3 x6 g, s = ⟨[(0, .bool false), (1, .ptr h.length 0 [] (.arr 32 (.int .u8))), (2, .ptr (h.length + 1) 0 [] (.arr 16 (.int .u8))), (3, x3), (4, .junk), (5, nat i), (6, x6), (13, .junk), (14, .junk)], h ++ [⟨arr 32 g, 0, .own⟩, ⟨(arr 16 fun _ => 0#8), 0, .own⟩]⟩ ∧ ∀ j, j < i → g j = keyK j) ?_ ?_ ⟨_, _, _, rfl, fun j hj => absurd hj (by omega)⟩
    · rintro i s hi ⟨x3, x6, g, rfl, hg⟩
      have e1 : mBin .add (nat i) (nat 1) = some (nat (i + 1)) := nat_add (by omega)
      refine ex_of (by conv => lhs; simp [Env.get, Env.put, hi, e1]) ?_
      refine ⟨rfl, _, _, _, rfl, fun j hj => ?_⟩
      by_cases hji : j = i
      · subst hji; rw [upd_same]; rfl
      · rw [upd_ne _ _ hji]; exact hg j (by omega)
    · rintro s ⟨x3, x6, g, rfl, hg⟩
      refine ex_of (by conv => lhs; simp [Env.get, Env.put]) ?_
      rw [arr_congr hg]
      exact ⟨by simp, _, _, _, rfl⟩
  obtain ⟨r1, hr1, x3, x5, x6, rfl⟩ := L1
  have L2 : ∃ r, evLoop (evC (cx18 callA5) n18_21) ⟨[(0, .bool false), (1, .ptr h.length 0 [] (.arr 32 (.int .u8))), (2, .ptr (h.length + 1) 0 [] (.arr 16 (.int .u8))), (3, x3), (4, .junk), (5, x5), (6, x6), (13, nat 0), (14, .junk)], h ++ [⟨arr 32 keyK, 0, .own⟩, ⟨(arr 16 fun _ => 0#8), 0, .own⟩]⟩ = some r ∧
      ∃ x4 x13 x14, r = (.exit 2, ⟨[(0, .bool false), (1, .ptr h.length 0 [] (.arr 32 (.int .u8))), (2, .ptr (h.length + 1) 0 [] (.arr 16 (.int .u8))), (3, x3), (4, x4), (5, x5), (6, x6), (13, x13), (14, x14)], h ++ [⟨arr 32 keyK, 0, .own⟩, ⟨arr 16 blkK, 0, .own⟩]⟩) := by
    refine evLoop_up 16 (fun i s => ∃ x4 x14 g, s = ⟨[(0, .bool false), (1, .ptr h.length 0 [] (.arr 32 (.int .u8))), (2, .ptr (h.length + 1) 0 [] (.arr 16 (.int .u8))), (3, x3), (4, x4), (5, x5), (6, x6), (13, nat i), (14, x14)], h ++ [⟨arr 32 keyK, 0, .own⟩, ⟨arr 16 g, 0, .own⟩]⟩ ∧ ∀ j, j < i → g j = blkK j) ?_ ?_ ⟨_, _, _, rfl, fun j hj => absurd hj (by omega)⟩
    · rintro i s hi ⟨x4, x14, g, rfl, hg⟩
      have e1 : mBin .add (nat i) (nat 1) = some (nat (i + 1)) := nat_add (by omega)
      have e2 : mBin .mul (nat 17) (nat i) = some (nat (17 * i)) := nat_mul (by omega)
      refine ex_of (by conv => lhs; simp [Env.get, Env.put, hi, e1, e2]) ?_
      refine ⟨rfl, _, _, _, rfl, fun j hj => ?_⟩
      by_cases hji : j = i
      · subst hji; rw [upd_same]; simp [blkK, BitVec.ofNat_mul]
      · rw [upd_ne _ _ hji]; exact hg j (by omega)
    · rintro s ⟨x4, x14, g, rfl, hg⟩
      refine ex_of (by conv => lhs; simp [Env.get, Env.put]) ?_
      rw [arr_congr hg]
      exact ⟨by simp, _, _, _, rfl⟩
  obtain ⟨r2, hr2, x4, x13, x14, rfl⟩ := L2
  refine ⟨[⟨arr 32 keyK, 0, .own⟩, ⟨arr 16 blkK, 0, .own⟩], ?_⟩
  have lit : fillRow (.arr 16 (.int .u8)) (arr 16 fun _ => 0#8) [(0, (u8 142#8)), (1, (u8 162#8)), (2, (u8 183#8)), (3, (u8 202#8)), (4, (u8 81#8)), (5, (u8 103#8)), (6, (u8 69#8)), (7, (u8 191#8)), (8, (u8 234#8)), (9, (u8 252#8)), (10, (u8 73#8)), (11, (u8 144#8)), (12, (u8 75#8)), (13, (u8 73#8)), (14, (u8 96#8)), (15, (u8 137#8))] = some (arr 16 outF) := by kernel_rfl
  have e : arrEq 16 (encF (wd keyK) blkK) outF = true := arrEq_iff.2 known
  simp [Env.get, Env.put, hr1, hr2, lit, e, oneOrTuple]

noncomputable def c18 := conC (fun _ : Unit => []) (fun _ _ => True) (fun _ h => (.bool true, h))
noncomputable def callA6 : Calling := addC callA5 18 c18
theorem c18_eq (h : Heap) : c18 [] h = some (.bool true, h) :=
  conC_eq (enc := fun _ : Unit => []) (a := ()) (f := fun _ h => (.bool true, h)) (fun _ _ _ _ => rfl) trivial
theorem callA6_ok : CallOK Try.prog callA6 := addC_con callA5_ok k18 fun _ h _ => by
  obtain ⟨t, ht⟩ := walk18 h
  exact (s18 callA5_ok ht).drop0 t rfl
noncomputable def c21 := conC (fun x : Nat → BitVec 8 => [arr 32 x]) (fun _ _ => True) (fun x h => (mat 60 4 (wd x), h))
noncomputable def callA7 : Calling := addC callA6 21 c21
theorem c21_eq (key : Nat → BitVec 8) (h : Heap) : c21 [arr 32 key] h = some (mat 60 4 (wd key), h) :=
  conC_eq (enc := fun x : Nat → BitVec 8 => [arr 32 x]) (a := key) (f := fun x h => (mat 60 4 (wd x), h))
    (fun x y h e => by
      have e1 := arr_inj.1 (List.cons.inj e).1
      simp only [Prod.mk.injEq, and_true]
      exact mat_congr fun i _ p hp => wd_congr e1 i p hp) trivial
theorem callA7_ok : CallOK Try.prog callA7 := addC_con callA6_ok k21 fun x h _ => by
  obtain ⟨t, ht⟩ := walk21 x h
  have hs := (s21 callA5_ok ht).drop0 t (mat_under _ _ _ _)
  exact hs
@[simp] theorem callA7_14 (a b : BitVec 8) (h : Heap) : callA7 14 [u8 a, u8 b] h = some (u8 (mulB a b), h) := by simp [callA7, callA6, addC]
@[simp] theorem callA7_16 (a : BitVec 8) (h : Heap) : callA7 16 [u8 a] h = some (u8 (subB a), h) := by simp [callA7, callA6, addC]
@[simp] theorem callA7_40 (h : Heap) : callA7 40 [] h = some (arr 256 sbF, h) := by simp [callA7, callA6, addC]
@[simp] theorem callA7_18 (h : Heap) : callA7 18 [] h = some (.bool true, h) := by simp [callA7, callA6, addC, c18_eq]
@[simp] theorem callA7_19 (key b : Nat → BitVec 8) (h : Heap) : callA7 19 [arr 32 key, arr 16 b] h = some (arr 16 (encF (wd key) b), h) := by simp [callA7, callA6, addC]
@[simp] theorem callA7_21 (key : Nat → BitVec 8) (h : Heap) : callA7 21 [arr 32 key] h = some (mat 60 4 (wd key), h) := by simp [callA7, addC, c21_eq]

end Go.Vab

/- How the evaluator reads the functions of a seat. Printed by wip/tools/gen.py (own work). -/
namespace Go.Vab
open Go Go.Proofs
/-! vestry/vestrylaw08.AesField -/
noncomputable def cx5 (call : Calling) : Ctx := ⟨call, TT, 77, [8, 9, 10, 11, 12, 13, 14, 15, 16, 17, 18, 19, 20, 21, 22, 23, 24, 25, 26, 27, 28, 29, 30, 31, 32, 33, 34, 35, 36, 37, 38, 39, 40, 41, 42, 43, 44, 45, 46, 47, 48, 49, 50, 51, 52, 53, 54, 55, 56, 57, 58, 59, 60, 61, 62, 63, 64, 65, 66, 67, 68, 69, 70, 71, 72, 73, 74, 75, 76]⟩
noncomputable def n5_0 : Code := bodyOf Try.f5
noncomputable def n5_1 : Code := cR n5_0
noncomputable def n5_2 : Code := cR n5_1
noncomputable def n5_3 : Code := cR n5_2
@[simp] theorem n5_3_eq (call : Calling) (s : St) : evC (cx5 call) n5_3 s = some (.ret, s) := ev_ret (by kernel_rfl)
@[simp] theorem n5_2_eq (call : Calling) (env : Env) (h : Heap) : evC (cx5 call) n5_2 ⟨env, h⟩ = (bnd (call 14 [(env.get 1), (env.get 0)] h) fun r3 => bnd (pureV r3.2 (mBin .eql (env.get 7) r3.1)) fun r4 => bnd (gdo r4.1 true (some ((env.get 7), r4.2)) r4.2) fun r6 => bnd (gdo r4.1 true (some ((env.get 2), r6.2)) r6.2) fun r7 => bnd (gdo r4.1 true (call 14 [r6.1, r7.1] r7.2) r7.2) fun r8 => bnd (gdo r4.1 true (some ((env.get 0), r8.2)) r8.2) fun r9 => bnd (gdo r4.1 true (some ((env.get 1), r9.2)) r9.2) fun r10 => bnd (gdo r4.1 true (some ((env.get 2), r10.2)) r10.2) fun r11 => bnd (gdo r4.1 true (call 14 [r10.1, r11.1] r11.2) r11.2) fun r12 => bnd (gdo r4.1 true (call 14 [r9.1, r12.1] r12.2) r12.2) fun r13 => bnd (gdo r4.1 true (pureV r13.2 (mBin .eql r8.1 r13.1)) r13.2) fun r14 => bnd (pureV r14.2 (mPick r4.1 r14.1 (.bool false))) fun r15 => bnd (gdo r15.1 true (some ((env.get 0), r15.2)) r15.2) fun r17 => bnd (gdo r15.1 true (some ((env.get 1), r17.2)) r17.2) fun r18 => bnd (gdo r15.1 true (some ((env.get 2), r18.2)) r18.2) fun r19 => bnd (gdo r15.1 true (pureV r19.2 (mBin .xor r18.1 r19.1)) r19.2) fun r20 => bnd (gdo r15.1 true (call 14 [r17.1, r20.1] r20.2) r20.2) fun r21 => bnd (gdo r15.1 true (some ((env.get 7), r21.2)) r21.2) fun r22 => bnd (gdo r15.1 true (some ((env.get 0), r22.2)) r22.2) fun r23 => bnd (gdo r15.1 true (some ((env.get 2), r23.2)) r23.2) fun r24 => bnd (gdo r15.1 true (call 14 [r23.1, r24.1] r24.2) r24.2) fun r25 => bnd (gdo r15.1 true (pureV r25.2 (mBin .xor r22.1 r25.1)) r25.2) fun r26 => bnd (gdo r15.1 true (pureV r26.2 (mBin .eql r21.1 r26.1)) r26.2) fun r27 => bnd (pureV r27.2 (mPick r15.1 r27.1 (.bool false))) fun r28 => bnd (gdo r28.1 true (some ((env.get 0), r28.2)) r28.2) fun r30 => bnd (gdo r28.1 true (call 14 [r30.1, (u8 1#8)] r30.2) r30.2) fun r31 => bnd (gdo r28.1 true (some ((env.get 0), r31.2)) r31.2) fun r32 => bnd (gdo r28.1 true (pureV r32.2 (mBin .eql r31.1 r32.1)) r32.2) fun r33 => bnd (pureV r33.2 (mPick r28.1 r33.1 (.bool false))) fun r34 => bnd (gdo r34.1 true (some ((env.get 7), r34.2)) r34.2) fun r36 => bnd (gdo r34.1 true (pureV r36.2 (mBin .eql r36.1 (u8 0#8))) r36.2) fun r37 => bnd (gdo r34.1 true (some ((env.get 0), r37.2)) r37.2) fun r38 => bnd (gdo r34.1 true (pureV r38.2 (mBin .eql r38.1 (u8 0#8))) r38.2) fun r39 => bnd (gdo r34.1 true (some (r39.1, r39.2)) r39.2) fun r40 => bnd (gdo r40.1 false (some ((env.get 1), r40.2)) r40.2) fun r41 => bnd (gdo r40.1 false (pureV r41.2 (mBin .eql r41.1 (u8 0#8))) r41.2) fun r42 => bnd (gdo r34.1 true (pureV r42.2 (mPick r40.1 (.bool true) r42.1)) r42.2) fun r43 => bnd (gdo r34.1 true (pureV r43.2 (mBinB .eql r37.1 r43.1)) r43.2) fun r44 => bnd (pureV r44.2 (mPick r34.1 r44.1 (.bool false))) fun r45 => bnd (gdo r45.1 true (some ((env.get 0), r45.2)) r45.2) fun r47 => bnd (gdo r45.1 true (call 16 [r47.1] r47.2) r47.2) fun r48 => bnd (gdo r45.1 true (some ((env.get 1), r48.2)) r48.2) fun r49 => bnd (gdo r45.1 true (call 16 [r49.1] r49.2) r49.2) fun r50 => bnd (gdo r45.1 true (pureV r50.2 (mBin .eql r48.1 r50.1)) r50.2) fun r51 => bnd (gdo r45.1 true (some ((env.get 0), r51.2)) r51.2) fun r52 => bnd (gdo r45.1 true (some ((env.get 1), r52.2)) r52.2) fun r53 => bnd (gdo r45.1 true (pureV r53.2 (mBin .eql r52.1 r53.1)) r53.2) fun r54 => bnd (gdo r45.1 true (pureV r54.2 (mBinB .eql r51.1 r54.1)) r54.2) fun r55 => bnd (pureV r55.2 (mPick r45.1 r55.1 (.bool false))) fun r56 => bnd (gdo r56.1 true (some ((env.get 0), r56.2)) r56.2) fun r58 => bnd (gdo r56.1 true (call 16 [r58.1] r58.2) r58.2) fun r59 => bnd (gdo r56.1 true (some ((env.get 0), r59.2)) r59.2) fun r60 => bnd (gdo r56.1 true (pureV r60.2 (mBin .neq r59.1 r60.1)) r60.2) fun r61 => bnd (pureV r61.2 (mPick r56.1 r61.1 (.bool false))) fun r62 => bnd (gdo r62.1 true (call 18 [] r62.2) r62.2) fun r64 => bnd (pureV r64.2 (mPick r62.1 r64.1 (.bool false))) fun r65 => evC (cx5 call) n5_3 ⟨(Env.put env 6 r65.1), r65.2⟩) := (ev_seqreg 2 (cOps (cL n5_2)) (cR n5_2) (by kernel_rfl)).trans (by
  refine opsK_0 ?_
  refine opsK_t 11 (env.get 7) (by kernel_rfl) (by kernel_rfl) (by kernel_rfl) (by kernel_rfl) ?_
  refine opsK_t 12 (env.get 1) (by kernel_rfl) (by kernel_rfl) (by kernel_rfl) (by kernel_rfl) ?_
  refine opsK_t 13 (env.get 0) (by kernel_rfl) (by kernel_rfl) (by kernel_rfl) (by kernel_rfl) ?_
  refine opsK_p 14 (by kernel_rfl) (by kernel_rfl) (by kernel_rfl) (by kernel_rfl) fun r3 => ?_
  refine opsK_p 15 (by kernel_rfl) (by kernel_rfl) (by kernel_rfl) (by kernel_rfl) fun r4 => ?_
  refine opsK_t 16 r4.1 (by kernel_rfl) (by kernel_rfl) (by kernel_rfl) (by kernel_rfl) ?_
  refine opsK_p 17 (by kernel_rfl) (by kernel_rfl) (by kernel_rfl) (by kernel_rfl) fun r6 => ?_
  refine opsK_p 18 (by kernel_rfl) (by kernel_rfl) (by kernel_rfl) (by kernel_rfl) fun r7 => ?_
  refine opsK_p 19 (by kernel_rfl) (by kernel_rfl) (by kernel_rfl) (by kernel_rfl) fun r8 => ?_
  refine opsK_p 20 (by kernel_rfl) (by kernel_rfl) (by kernel_rfl) (by kernel_rfl) fun r9 => ?_
  refine opsK_p 21 (by kernel_rfl) (by kernel_rfl) (by kernel_rfl) (by kernel_rfl) fun r10 => ?_
  refine opsK_p 22 (by kernel_rfl) (by kernel_rfl) (by kernel_rfl) (by kernel_rfl) fun r11 => ?_
  refine opsK_p 23 (by kernel_rfl) (by kernel_rfl) (by kernel_rfl) (by kernel_rfl) fun r12 => ?_
  refine opsK_p 24 (by kernel_rfl) (by kernel_rfl) (by kernel_rfl) (by kernel_rfl) fun r13 => ?_
  refine opsK_p 25 (by kernel_rfl) (by kernel_rfl) (by kernel_rfl) (by kernel_rfl) fun r14 => ?_
  refine opsK_p 26 (by kernel_rfl) (by kernel_rfl) (by kernel_rfl) (by kernel_rfl) fun r15 => ?_
  refine opsK_t 27 r15.1 (by kernel_rfl) (by kernel_rfl) (by kernel_rfl) (by kernel_rfl) ?_
  refine opsK_p 28 (by kernel_rfl) (by kernel_rfl) (by kernel_rfl) (by kernel_rfl) fun r17 => ?_
  refine opsK_p 29 (by kernel_rfl) (by kernel_rfl) (by kernel_rfl) (by kernel_rfl) fun r18 => ?_
  refine opsK_p 30 (by kernel_rfl) (by kernel_rfl) (by kernel_rfl) (by kernel_rfl) fun r19 => ?_
  refine opsK_p 31 (by kernel_rfl) (by kernel_rfl) (by kernel_rfl) (by kernel_rfl) fun r20 => ?_
  refine opsK_p 32 (by kernel_rfl) (by kernel_rfl) (by kernel_rfl) (by kernel_rfl) fun r21 => ?_
  refine opsK_p 33 (by kernel_rfl) (by kernel_rfl) (by kernel_rfl) (by kernel_rfl) fun r22 => ?_
  refine opsK_p 34 (by kernel_rfl) (by kernel_rfl) (by kernel_rfl) (by kernel_rfl) fun r23 => ?_
  refine opsK_p 35 (by kernel_rfl) (by kernel_rfl) (by kernel_rfl) (by kernel_rfl) fun r24 => ?_
  refine opsK_p 36 (by kernel_rfl) (by kernel_rfl) (by kernel_rfl) (by kernel_rfl) fun r25 => ?_
  refine opsK_p 37 (by kernel_rfl) (by kernel_rfl) (by kernel_rfl) (by kernel_rfl) fun r26 => ?_
  refine opsK_p 38 (by kernel_rfl) (by kernel_rfl) (by kernel_rfl) (by kernel_rfl) fun r27 => ?_
  refine opsK_p 39 (by kernel_rfl) (by kernel_rfl) (by kernel_rfl) (by kernel_rfl) fun r28 => ?_
  refine opsK_t 40 r28.1 (by kernel_rfl) (by kernel_rfl) (by kernel_rfl) (by kernel_rfl) ?_
  refine opsK_p 41 (by kernel_rfl) (by kernel_rfl) (by kernel_rfl) (by kernel_rfl) fun r30 => ?_
  refine opsK_p 42 (by kernel_rfl) (by kernel_rfl) (by kernel_rfl) (by kernel_rfl) fun r31 => ?_
  refine opsK_p 43 (by kernel_rfl) (by kernel_rfl) (by kernel_rfl) (by kernel_rfl) fun r32 => ?_
  refine opsK_p 44 (by kernel_rfl) (by kernel_rfl) (by kernel_rfl) (by kernel_rfl) fun r33 => ?_
  refine opsK_p 45 (by kernel_rfl) (by kernel_rfl) (by kernel_rfl) (by kernel_rfl) fun r34 => ?_
  refine opsK_t 46 r34.1 (by kernel_rfl) (by kernel_rfl) (by kernel_rfl) (by kernel_rfl) ?_
  refine opsK_p 47 (by kernel_rfl) (by kernel_rfl) (by kernel_rfl) (by kernel_rfl) fun r36 => ?_
  refine opsK_p 48 (by kernel_rfl) (by kernel_rfl) (by kernel_rfl) (by kernel_rfl) fun r37 => ?_
  refine opsK_p 49 (by kernel_rfl) (by kernel_rfl) (by kernel_rfl) (by kernel_rfl) fun r38 => ?_
  refine opsK_p 50 (by kernel_rfl) (by kernel_rfl) (by kernel_rfl) (by kernel_rfl) fun r39 => ?_
  refine opsK_p 51 (by kernel_rfl) (by kernel_rfl) (by kernel_rfl) (by kernel_rfl) fun r40 => ?_
  refine opsK_p 52 (by kernel_rfl) (by kernel_rfl) (by kernel_rfl) (by kernel_rfl) fun r41 => ?_
  refine opsK_p 53 (by kernel_rfl) (by kernel_rfl) (by kernel_rfl) (by kernel_rfl) fun r42 => ?_
  refine opsK_p 54 (by kernel_rfl) (by kernel_rfl) (by kernel_rfl) (by kernel_rfl) fun r43 => ?_
  refine opsK_p 55 (by kernel_rfl) (by kernel_rfl) (by kernel_rfl) (by kernel_rfl) fun r44 => ?_
  refine opsK_p 56 (by kernel_rfl) (by kernel_rfl) (by kernel_rfl) (by kernel_rfl) fun r45 => ?_
  refine opsK_t 57 r45.1 (by kernel_rfl) (by kernel_rfl) (by kernel_rfl) (by kernel_rfl) ?_
  refine opsK_p 58 (by kernel_rfl) (by kernel_rfl) (by kernel_rfl) (by kernel_rfl) fun r47 => ?_
  refine opsK_p 59 (by kernel_rfl) (by kernel_rfl) (by kernel_rfl) (by kernel_rfl) fun r48 => ?_
  refine opsK_p 60 (by kernel_rfl) (by kernel_rfl) (by kernel_rfl) (by kernel_rfl) fun r49 => ?_
  refine opsK_p 61 (by kernel_rfl) (by kernel_rfl) (by kernel_rfl) (by kernel_rfl) fun r50 => ?_
  refine opsK_p 62 (by kernel_rfl) (by kernel_rfl) (by kernel_rfl) (by kernel_rfl) fun r51 => ?_
  refine opsK_p 63 (by kernel_rfl) (by kernel_rfl) (by kernel_rfl) (by kernel_rfl) fun r52 => ?_
  refine opsK_p 64 (by kernel_rfl) (by kernel_rfl) (by kernel_rfl) (by kernel_rfl) fun r53 => ?_
  refine opsK_p 65 (by kernel_rfl) (by kernel_rfl) (by kernel_rfl) (by kernel_rfl) fun r54 => ?_
  refine opsK_p 66 (by kernel_rfl) (by kernel_rfl) (by kernel_rfl) (by kernel_rfl) fun r55 => ?_
  refine opsK_p 67 (by kernel_rfl) (by kernel_rfl) (by kernel_rfl) (by kernel_rfl) fun r56 => ?_
  refine opsK_t 68 r56.1 (by kernel_rfl) (by kernel_rfl) (by kernel_rfl) (by kernel_rfl) ?_
  refine opsK_p 69 (by kernel_rfl) (by kernel_rfl) (by kernel_rfl) (by kernel_rfl) fun r58 => ?_
  refine opsK_p 70 (by kernel_rfl) (by kernel_rfl) (by kernel_rfl) (by kernel_rfl) fun r59 => ?_
  refine opsK_p 71 (by kernel_rfl) (by kernel_rfl) (by kernel_rfl) (by kernel_rfl) fun r60 => ?_
  refine opsK_p 72 (by kernel_rfl) (by kernel_rfl) (by kernel_rfl) (by kernel_rfl) fun r61 => ?_
  refine opsK_p 73 (by kernel_rfl) (by kernel_rfl) (by kernel_rfl) (by kernel_rfl) fun r62 => ?_
  refine opsK_t 74 r62.1 (by kernel_rfl) (by kernel_rfl) (by kernel_rfl) (by kernel_rfl) ?_
  refine opsK_p 75 (by kernel_rfl) (by kernel_rfl) (by kernel_rfl) (by kernel_rfl) fun r64 => ?_
  refine opsK_p 76 (by kernel_rfl) (by kernel_rfl) (by kernel_rfl) (by kernel_rfl) fun r65 => ?_
  refine opsK_t 6 r65.1 (by kernel_rfl) (by kernel_rfl) (by kernel_rfl) (by kernel_rfl) ?_
  exact opsK_e (by kernel_rfl) (by kernel_rfl))
@[simp] theorem n5_1_eq (call : Calling) (env : Env) (h : Heap) : evC (cx5 call) n5_1 ⟨env, h⟩ = (bnd (call 14 [(env.get 0), (env.get 1)] h) fun r2 => evC (cx5 call) n5_2 ⟨(Env.put env 7 r2.1), r2.2⟩) := (ev_seqreg 1 (cOps (cL n5_1)) (cR n5_1) (by kernel_rfl)).trans (by
  refine opsK_0 ?_
  refine opsK_t 8 (env.get 0) (by kernel_rfl) (by kernel_rfl) (by kernel_rfl) (by kernel_rfl) ?_
  refine opsK_t 9 (env.get 1) (by kernel_rfl) (by kernel_rfl) (by kernel_rfl) (by kernel_rfl) ?_
  refine opsK_p 10 (by kernel_rfl) (by kernel_rfl) (by kernel_rfl) (by kernel_rfl) fun r2 => ?_
  refine opsK_t 7 r2.1 (by kernel_rfl) (by kernel_rfl) (by kernel_rfl) (by kernel_rfl) ?_
  exact opsK_e (by kernel_rfl) (by kernel_rfl))
@[simp] theorem n5_0_eq (call : Calling) (env : Env) (h : Heap) : evC (cx5 call) n5_0 ⟨env, h⟩ = ( evC (cx5 call) n5_1 ⟨(Env.put env 6 (.bool false)), h⟩) := (ev_seqreg 0 (cOps (cL n5_0)) (cR n5_0) (by kernel_rfl)).trans (by
  refine opsK_0 ?_
  refine opsK_t 6 (.bool false) (by kernel_rfl) (by kernel_rfl) (by kernel_rfl) (by kernel_rfl) ?_
  exact opsK_e (by kernel_rfl) (by kernel_rfl))
theorem b5 (call : Calling) (a0 a1 a2 : AV) (h : Heap) : evBody (cx5 call) Try.f5 n5_0 [a0, a1, a2] h = bnd (evC (cx5 call) n5_0 ⟨[(0, a0), (1, a1), (2, a2), (3, .junk), (4, .junk), (5, .junk), (6, .junk), (7, .junk)], h⟩) (retK fun s => bnd (bnd (some (s.env.get 6)) fun v => bnd (some []) fun vs => some (v :: vs)) fun vs => some (oneOrTuple vs)) := by kernel_rfl
theorem fn5 : Try.prog.funcs[5]? = some Try.f5 := by kernel_rfl
theorem k5 : Callable Try.prog 5 := ⟨Try.f5, fn5, by kernel_rfl, by kernel_rfl⟩
theorem s5 {call : Calling} (hc : CallOK Try.prog call) {args : List AV} {h h' : Heap} {v : AV} (he : evBody (cx5 call) Try.f5 n5_0 args h = some (v, h')) : Spec Try.prog 5 args h v h' := body_sound (C := cx5 call) TT_ok hc mixed_ok fn5 (by kernel_rfl) (by kernel_rfl) he
end Go.Vab

/-
  Running the evaluator: answers with a property, step by step; the temporaries by what is known of them alone.
-/
namespace Go.Vab
open Go

/-- It answers, and of the answer this is so. -/
def Evs {α : Type} (m : Option α) (Q : α → Prop) : Prop := ∃ r, m = some r ∧ Q r

section
variable {α β : Type} {m m' : Option α} {Q Q' : α → Prop}
theorem Evs.run (h : m = m') (h' : Evs m' Q) : Evs m Q := by rw [h]; exact h'
theorem Evs.ret {r : α} (h : Q r) : Evs (some r) Q := ⟨r, rfl, h⟩
theorem Evs.ret_of {r : α} (h : m = some r) (hq : Q r) : Evs m Q := ⟨r, h, hq⟩
theorem Evs.mono (h : Evs m Q) (hm : ∀ r, Q r → Q' r) : Evs m Q' := let ⟨r, h1, h2⟩ := h; ⟨r, h1, hm r h2⟩
theorem Evs.bnd {f : α → Option β} {R : β → Prop} (h : Evs m Q) (hf : ∀ r, Q r → Evs (f r) R) : Evs (Go.Vab.bnd m f) R := by
  obtain ⟨r, rfl, hq⟩ := h
  exact hf r hq
theorem Evs.step {f : α → Option β} {R : β → Prop} {a : α} (h : m = some a) (hf : Evs (f a) R) : Evs (Go.Vab.bnd m f) R := by
  subst h; exact hf
theorem Evs.assoc {γ : Type} {f : α → Option β} {g : β → Option γ} {R : γ → Prop} (h : Evs (Go.Vab.bnd m fun r => Go.Vab.bnd (f r) g) R) : Evs (Go.Vab.bnd (Go.Vab.bnd m f) g) R := by
  cases m <;> exact h
theorem Evs.some_bnd {f : α → Option β} {R : β → Prop} {a : α} (h : Evs (f a) R) : Evs (Go.Vab.bnd (some a) f) R := h
theorem Evs.cndT {v : AV} (h : v = .bool true) (h' : Evs m Q) : Evs (cnd v m m') Q := by subst h; exact h'
theorem Evs.cndF {v : AV} (h : v = .bool false) (h' : Evs m' Q) : Evs (cnd v m m') Q := by subst h; exact h'
theorem Evs.bcndT {f : α → Option β} {R : β → Prop} {v : AV} (h : v = .bool true) (h' : Evs (Go.Vab.bnd m f) R) : Evs (Go.Vab.bnd (cnd v m m') f) R := by subst h; exact h'
theorem Evs.bcndF {f : α → Option β} {R : β → Prop} {v : AV} (h : v = .bool false) (h' : Evs (Go.Vab.bnd m' f) R) : Evs (Go.Vab.bnd (cnd v m m') f) R := by subst h; exact h'
theorem Evs.eq {r : α} (h : Evs m (fun x => x = r)) : m = some r := by
  obtain ⟨x, h1, rfl⟩ := h; exact h1
theorem Evs.get (h : Evs m Q) : ∃ r, m = some r ∧ Q r := h
end


@[simp] theorem inBlk_same (id : Nat) (s : St) : inBlk id (.exit id, s) = (.nrm, s) := by simp [inBlk]
theorem inBlk_other {id j : Nat} (s : St) (h : j ≠ id) : inBlk id (.exit j, s) = (.exit j, s) := by simp [inBlk, h]

attribute [simp] bnd_assoc

theorem Evs.loop {f : St → Option (Ex × St)} {Q : Ex × St → Prop} (I : Nat → St → Prop) (step : ∀ n s, I n s → Evs (f s) fun r => (r.1 = .nrm ∧ ∃ m, m < n ∧ I m r.2) ∨ (r.1 ≠ .nrm ∧ Q r)) {n : Nat} {s : St} (h0 : I n s) : Evs (evLoop f s) Q :=
  evLoop_rule I step n s h0
theorem Evs.up {f : St → Option (Ex × St)} {Q : Ex × St → Prop} (N : Nat) (I : Nat → St → Prop) (step : ∀ i s, i < N → I i s → Evs (f s) fun r => r.1 = .nrm ∧ I (i + 1) r.2)
    (last : ∀ s, I N s → Evs (f s) fun r => r.1 ≠ .nrm ∧ Q r) {s : St} (h0 : I 0 s) : Evs (evLoop f s) Q :=
  evLoop_up N I step last h0
/-- A loop that counts up, and may be left ahead of its end. -/
theorem Evs.upto {f : St → Option (Ex × St)} {Q : Ex × St → Prop} (N : Nat) (I : Nat → St → Prop) (step : ∀ i s, i < N → I i s → Evs (f s) fun r => (r.1 = .nrm ∧ I (i + 1) r.2) ∨ (r.1 ≠ .nrm ∧ Q r))
    (last : ∀ s, I N s → Evs (f s) fun r => r.1 ≠ .nrm ∧ Q r) {s : St} (h0 : I 0 s) : Evs (evLoop f s) Q := by
  refine evLoop_rule (fun n s => ∃ i, i + n = N ∧ I i s) (fun n s ⟨i, hi, hs⟩ => ?_) N s ⟨0, by omega, h0⟩
  by_cases h : i < N
  · obtain ⟨r, h1, h2⟩ := step i s h hs
    exact ⟨r, h1, h2.imp (fun ⟨h3, h4⟩ => ⟨h3, n - 1, by omega, i + 1, by omega, h4⟩) id⟩
  · have : i = N := by omega
    subst this
    obtain ⟨r, h1, h2⟩ := last s hs
    exact ⟨r, h1, .inr h2⟩

@[simp] theorem env_get_put (env : Env) (t s : Nat) (v : AV) : (env.put t v).get s = if s = t then v else env.get s := get_put env t v s

section
variable {α : Type} {a b : Nat} (x y : α)
@[simp] theorem ite_lt (h : a < b) : (if a < b then x else y) = x := if_pos h
@[simp] theorem ite_nlt (h : ¬ a < b) : (if a < b then x else y) = y := if_neg h
@[simp] theorem ite_le (h : a ≤ b) : (if a ≤ b then x else y) = x := if_pos h
@[simp] theorem ite_nle (h : ¬ a ≤ b) : (if a ≤ b then x else y) = y := if_neg h
@[simp] theorem ite_eq (h : a = b) : (if a = b then x else y) = x := if_pos h
@[simp] theorem ite_neq (h : ¬ a = b) : (if a = b then x else y) = y := if_neg h
end
/-- These temporaries are as they were. -/
def Same (l : List Nat) (env env' : Env) : Prop := ∀ t, l.contains t = true → env'.get t = env.get t
theorem Same.refl (l : List Nat) (env : Env) : Same l env env := fun _ _ => rfl
theorem Same.put {l : List Nat} {env env' : Env} {t : Nat} {v : AV} (h : l.contains t = false) (hs : Same l env env') : Same l env (env'.put t v) := fun u hu => by
  rw [env_get_put, if_neg]
  · exact hs u hu
  · rintro rfl; rw [h] at hu; cases hu
theorem Same.get {l : List Nat} {env env' : Env} (hs : Same l env env') (t : Nat) (h : l.contains t = true) : env'.get t = env.get t := hs t h
theorem Same.trans {l : List Nat} {a b c : Env} (h : Same l a b) (h' : Same l b c) : Same l a c := fun t ht => (h' t ht).trans (h t ht)
theorem Same.sub {l m : List Nat} {a b : Env} (h : Same l a b) (hm : (m.all fun t => l.contains t) = true) : Same m a b := fun t ht => h t (by
  rw [List.all_eq_true] at hm
  exact hm t (by simpa using ht))

section
variable (i ver : Nat) (path : List Nat) (h : Heap)
abbrev stR (i ver : Nat) (path : List Nat) (x : AV) (h : Heap) : Option (AV × Heap) := bnd (blkAt h i ver) fun b => if b.mode = .ro then none else bnd (b.v.put path x) fun v' => some (.undef, h.set i { b with v := v' })
@[simp] theorem stU_u8 (x : BitVec 8) : stU (.int .u8) (.ptr i ver path (.int .u8)) (u8 x) h = stR i ver path (u8 x) h := stU_ptr _ _ _ _ _ _ (by simp)
@[simp] theorem stU_u64 (x : BitVec 64) : stU (.int .u64) (.ptr i ver path (.int .u64)) (u64 x) h = stR i ver path (u64 x) h := stU_ptr _ _ _ _ _ _ (by simp)
@[simp] theorem stU_nat (x : Nat) : stU (.int .i64) (.ptr i ver path (.int .i64)) (nat x) h = stR i ver path (nat x) h := stU_ptr _ _ _ _ _ _ (by simp)
@[simp] theorem stU_arr (n : Nat) (g : Nat → BitVec 8) : stU (.arr n (.int .u8)) (.ptr i ver path (.arr n (.int .u8))) (arr n g) h = stR i ver path (arr n g) h := stU_ptr _ _ _ _ _ _ (by simp)
@[simp] theorem stU_mat (m n : Nat) (g : Nat → Nat → BitVec 8) : stU (.arr m (.arr n (.int .u8))) (.ptr i ver path (.arr m (.arr n (.int .u8)))) (mat m n g) h = stR i ver path (mat m n g) h := stU_ptr _ _ _ _ _ _ (by simp)
@[simp] theorem mNew_u8 (x : BitVec 8) : mNew (.int .u8) (u8 x) h = some (.ptr h.length 0 [] (.int .u8), h ++ [⟨u8 x, 0, .own⟩]) := mNew_ok _ _ _ (by simp)
@[simp] theorem mNew_nat (x : Nat) : mNew (.int .i64) (nat x) h = some (.ptr h.length 0 [] (.int .i64), h ++ [⟨nat x, 0, .own⟩]) := mNew_ok _ _ _ (by simp)
@[simp] theorem mNew_arr (n : Nat) (g : Nat → BitVec 8) : mNew (.arr n (.int .u8)) (arr n g) h = some (.ptr h.length 0 [] (.arr n (.int .u8)), h ++ [⟨arr n g, 0, .own⟩]) := mNew_ok _ _ _ (by simp)
@[simp] theorem mNew_mat (m n : Nat) (g : Nat → Nat → BitVec 8) : mNew (.arr m (.arr n (.int .u8))) (mat m n g) h = some (.ptr h.length 0 [] (.arr m (.arr n (.int .u8))), h ++ [⟨mat m n g, 0, .own⟩]) := mNew_ok _ _ _ (by simp)
end

section
variable {α : Type} {a b : Nat} (x y : Option α)
@[simp high] theorem cnd_lt (h : a < b) : cnd (.bool (decide (a < b))) x y = x := by rw [decide_eq_true h]; rfl
@[simp high] theorem cnd_nlt (h : ¬ a < b) : cnd (.bool (decide (a < b))) x y = y := by rw [decide_eq_false h]; rfl
@[simp high] theorem cnd_le (h : a ≤ b) : cnd (.bool (decide (a ≤ b))) x y = x := by rw [decide_eq_true h]; rfl
@[simp high] theorem cnd_nle (h : ¬ a ≤ b) : cnd (.bool (decide (a ≤ b))) x y = y := by rw [decide_eq_false h]; rfl
@[simp high] theorem cnd_eq (h : a = b) : cnd (.bool (decide (a = b))) x y = x := by rw [decide_eq_true h]; rfl
@[simp high] theorem cnd_neq (h : ¬ a = b) : cnd (.bool (decide (a = b))) x y = y := by rw [decide_eq_false h]; rfl
@[simp high] theorem cnd_ne (h : a = b) : cnd (.bool !decide (a = b)) x y = y := by rw [decide_eq_true h]; rfl
@[simp high] theorem cnd_nne (h : ¬ a = b) : cnd (.bool !decide (a = b)) x y = x := by rw [decide_eq_false h]; rfl
end

@[simp] theorem u8_rem2 (x : BitVec 8) : mBin .rem (u8 x) (u8 2#8) = some (u8 (x % 2#8)) := u8_rem _ _ (by decide)

attribute [simp] nat_add nat_sub nat_mul nat_quo nat_rem nat_shl nat_shr_nat nat_shr_u64 nat_and nat_xor

end Go.Vab

/-
  The statement AesField: its walk.
-/
namespace Go.Vab
open Go Go.Proofs

set_option maxHeartbeats 1000000 in
theorem walk5 (a b c : BitVec 8) (h : Heap) : evBody (cx5 callA7) Try.f5 n5_0 [u8 a, u8 b, u8 c] h = some (.bool true, h) := by
  have f1 : mulB b a = mulB a b := mul_comm b a
  have f2 : mulB (mulB a b) c = mulB a (mulB b c) := mul_assoc a b c
  have f3 : mulB a (b ^^^ c) = mulB a b ^^^ mulB a c := mul_addR a b c
  have f5 : ¬ subB a = a := sub_ne a
  have f6 : decide (subB a = subB b) = decide (a = b) := by
    rw [decide_eq_decide]; exact ⟨sub_inj, fun e => by rw [e]⟩
  have main : ∀ p q : Prop, ((a = 0#8) = p) → ((b = 0#8) = q) → ((mulB a b = 0#8) = (p ∨ q)) → (p = True ∨ p = False) → (q = True ∨ q = False) →
      Evs (evC (cx5 callA7) n5_0 ⟨[(0, u8 a), (1, u8 b), (2, u8 c), (3, .junk), (4, .junk), (5, .junk), (6, .junk), (7, .junk)], h⟩) (fun r => ∃ env, r = (.ret, ⟨env, h⟩) ∧ env.get 6 = .bool true) := by
    intro p q hp hq hm h1 h2
    rw [n5_0_eq, n5_1_eq]
    refine Evs.step (by conv => lhs; simp [Env.get, Env.put]) ?_
    rw [n5_2_eq]
    rcases h1 with rfl | rfl
    · repeat (refine Evs.step (by conv => lhs; simp [Env.get, Env.put, f1, f2, f3, mul_one, f5, f6, hp, hm]) ?_; dsimp only)
      exact Evs.ret_of (n5_3_eq _ _) ⟨_, rfl, by simp [Env.get, Env.put]⟩
    · rcases h2 with rfl | rfl
      · repeat (refine Evs.step (by conv => lhs; simp [Env.get, Env.put, f1, f2, f3, mul_one, f5, f6, hp, hq, hm]) ?_; dsimp only)
        exact Evs.ret_of (n5_3_eq _ _) ⟨_, rfl, by simp [Env.get, Env.put]⟩
      · repeat (refine Evs.step (by conv => lhs; simp [Env.get, Env.put, f1, f2, f3, mul_one, f5, f6, hp, hq, hm]) ?_; dsimp only)
        exact Evs.ret_of (n5_3_eq _ _) ⟨_, rfl, by simp [Env.get, Env.put]⟩
  obtain ⟨r, hr, env, rfl, e6⟩ := main (a = 0#8) (b = 0#8) rfl rfl (propext ⟨mul_eq_zero, by rintro (e | e); (rw [e]; exact zero_mul b); (rw [e]; exact mul_zero a)⟩) (Classical.propComplete _) (Classical.propComplete _)
  rw [b5, hr]
  simp [e6, oneOrTuple]

end Go.Vab
