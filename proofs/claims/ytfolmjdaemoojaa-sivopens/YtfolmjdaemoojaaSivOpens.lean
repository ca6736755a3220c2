/-
  The statement SivOpens, whole: the package opens as the document opens, for every key, nonce, aad and sealed text. No condition.
-/
import Derived.Test.YtfolmjdaemoojaaV5
import Derived.Test.YtfolmjdaemoojaaV8
set_option linter.all false
set_option linter.unusedSectionVars false
namespace Go.Proofs.Ytfolmjdaemoojaa
open Go.Vab

theorem slim37 {ts : List TypeId} {avs : List AV} {h : Heap} {j m : Nat} {a : AV} {g : Nat → BitVec 8} (hs : Slim Try.prog ts avs) (ht : ts[j]? = some 37) (ha : avs[j]? = some a) (hb : Byt h a m g) : m < 140737488355328 := by
  have hr := reachBytes_lt
  have h2 := hb.2
  unfold slOk at h2
  split at h2
  · omega
  · obtain ⟨e1, _, _⟩ := h2
    have := hs j 37 5 _ _ _ _ _ _ _ ht und37 (by kernel_rfl) ha
    omega
  · obtain ⟨e1, _, _⟩ := h2
    have := hs j 37 5 _ _ _ _ _ _ _ ht und37 (by kernel_rfl) ha
    omega
  · cases h2

theorem sivOpens_lifted (os : Os) (started : os.Started) (H : Type) (enc : TypeId × Value → H) :
    ReturnsInHanded {} Try.checked os 9 .any (Rows.sivOpensSpec.pre6 enc Try.prog Try.f9 [] false) (Rows.sivOpensSpec.post enc Try.prog Try.f9 false true false false) := by
  refine law_lifted_sized (b := 4) TT_ok plainV ownV laidV started (by kernel_rfl) fn9 rfl (by kernel_rfl) (by kernel_rfl) boolV ?_
    (ChangeSpec.witness6 (enc := enc) (C := Try.checked) false ⟨#[], #[.agg (Array.replicate 32 (.int .u8 0)), .agg (Array.replicate 12 (.int .u8 0)), .slice none 0 0, .slice none 0 0], []⟩ 8 (by kernel_rfl) (by kernel_rfl) (by kernel_rfl) (by kernel_rfl)) ?_
  · intro ds hd
    match ds, hd with
    | [_, _, _, _], _ => rfl
  · intro xs h ⟨hl, hr⟩ hsl
    match xs, hl with
    | [a, b, c, d], _ =>
      obtain ⟨_, _, ht0, hy0, r0⟩ := hr 0 26 a rfl rfl
      obtain ⟨_, _, ht1, hy1, r1⟩ := hr 1 36 b rfl rfl
      obtain ⟨_, _, ht2, hy2, r2⟩ := hr 2 37 c rfl rfl
      obtain ⟨_, _, ht3, hy3, r3⟩ := hr 3 37 d rfl rfl
      obtain ⟨x, rfl⟩ := rd26 ht0 hy0 r0
      obtain ⟨y, rfl⟩ := rd36 ht1 hy1 r1
      obtain ⟨na, fa, ha, _⟩ := rd37 r2
      obtain ⟨nt, ft, ht, _⟩ := rd37 r3
      obtain ⟨t, hw⟩ := walk9 h x y c d na nt fa ft ha ht (slim37 (j := 2) hsl rfl rfl ha) (slim37 (j := 3) hsl rfl rfl ht)
      exact ⟨h ++ t, s9 callS35_ok hw⟩

theorem sivOpens_holds : Rows.SivOpensSaid :=
  OpenClaim.holds_of_wide 9 Try.f9 rfl rfl rfl rfl rfl rfl rfl ⟨rfl, rfl, rfl, rfl, rfl⟩ rfl rfl rfl rfl rfl (by kernel_rfl) fn9 (by kernel_rfl)
    (of_decide_eq_true (by kernel_rfl)) (by unfold Func.isWrapper; rw [if_neg (of_decide_eq_false (by kernel_rfl))]; exact ⟨rfl, rfl⟩)
    (fun os started H enc _ => sivOpens_lifted os started H enc)

end Go.Proofs.Ytfolmjdaemoojaa
