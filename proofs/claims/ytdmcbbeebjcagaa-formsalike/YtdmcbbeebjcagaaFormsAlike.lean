/-
  The statement FormsAlike, whole: the package's requests and replies are alike exactly where the document's are, for all of them. No condition.
-/
import Derived.Test.YtdmcbbeebjcagaaV4
import Derived.Test.YtdmcbbeebjcagaaV7
import Derived.Test.YtdmcbbeebjcagaaRows
set_option linter.all false
set_option linter.unusedSectionVars false
namespace Go.Proofs.Ytdmcbbeebjcagaa
open Go.Vab Go.RowKit Go.WideShapes Go.ChangeShapes

/-- Cells, all zero. -/
def w8 (n : Nat) : List Value := List.replicate n (.int .u8 0)
def w32 : List Value := [.int .u32 0]
def wSl : List Value := [.slice none 0 0]
def wSt : List Value := w32 ++ w8 64 ++ wSl ++ w8 3 ++ List.replicate 5 (.slice none 0 0)
def wAct : List Value := w32 ++ w8 98 ++ wSl ++ w8 3 ++ wSl
def wPrf : List Value := w8 32 ++ wSl
def wReq : List Value := w8 17 ++ (w32 ++ (w8 64 ++ (wSl ++ (w8 67 ++ (wSl ++ (wAct ++ (w32 ++ (w8 96 ++ (wPrf ++ (w8 32 ++ (wPrf ++ (w8 160 ++ wPrf))))))))))))
def wRep : List Value := .int .i64 0 :: (w8 1 ++ (wSt ++ (wSl ++ (w8 64 ++ wPrf))))
def args4 : Array Value := #[.agg wReq.toArray, .agg wReq.toArray, .agg wRep.toArray, .agg wRep.toArray]

theorem wit1 (os : Os) : (World.plainHolding Try.checked.prog os ⟨#[], args4, []⟩).variablesB Try.checked.prog = true := by kernel_rfl
theorem okReq1 : (match Try.prog.underlying 65 with | some (.struct _) => true | _ => false) = true := by kernel_rfl
theorem okReq2 : decide (List.length wReq = Try.prog.cellsOf 65) = true := by kernel_rfl
theorem okReq3 (w : World) : (match Try.prog.cellTypes Try.prog.depth 65 with | some ts => Vas.okW Try.prog w ts wReq | none => false) = true := by kernel_rfl
set_option maxRecDepth 1000000 in
theorem okReq (w : World) (base : Nat) : Value.okWide Try.prog w .any base 65 (.agg (List.toArray wReq)) := Vas.okWide_of_okW okReq1 okReq2 (okReq3 w)
theorem okRep1 : (match Try.prog.underlying 73 with | some (.struct _) => true | _ => false) = true := by kernel_rfl
theorem okRep2 : decide (List.length wRep = Try.prog.cellsOf 73) = true := by kernel_rfl
theorem okRep3 (w : World) : (match Try.prog.cellTypes Try.prog.depth 73 with | some ts => Vas.okW Try.prog w ts wRep | none => false) = true := by kernel_rfl
set_option maxRecDepth 1000000 in
theorem okRep (w : World) (base : Nat) : Value.okWide Try.prog w .any base 73 (.agg (List.toArray wRep)) := Vas.okWide_of_okW okRep1 okRep2 (okRep3 w)
theorem par4 : Try.f4.params = #[65, 65, 73, 73] := by kernel_rfl
set_option maxRecDepth 1000000 in
theorem wit3 (w : World) (base : Nat) : Input.okWide Try.checked.prog w .any base 4 ⟨#[], args4, []⟩ := Vas.okWide4 (by kernel_rfl) fn4 (by kernel_rfl) (by kernel_rfl) (by kernel_rfl) par4 (okReq w base) (okReq w base) (okRep w base) (okRep w base)
theorem wit4 (os : Os) {H : Type} (enc : TypeId × Value → H) : Rows.formsAlikeSpec.preB enc Try.checked.prog Try.f4 [] false (World.plainHolding Try.checked.prog os ⟨#[], args4, []⟩).memory args4 10 = true := by kernel_rfl
theorem wit5 (os : Os) {H : Type} (enc : TypeId × Value → H) : Rows.formsAlikeSpec.sizedB enc Try.checked.prog Try.f4 false (World.plainHolding Try.checked.prog os ⟨#[], args4, []⟩).memory args4 10 = true := by kernel_rfl

theorem formsAlike_lifted (os : Os) (started : os.Started) (H : Type) (enc : TypeId × Value → H) :
    ReturnsInHanded {} Try.checked os 4 .any (Rows.formsAlikeSpec.pre6 enc Try.prog Try.f4 [] false) (Rows.formsAlikeSpec.post enc Try.prog Try.f4 false true false false) := by
  refine Vas.law_lifted_sized (b := 4) TT_ok Vas.plainV2 Vas.ownV Vas.laidV started (by kernel_rfl) fn4 rfl (by kernel_rfl) (by kernel_rfl) Vas.boolV ?_
    ⟨World.holding Try.checked.prog os ⟨#[], args4, []⟩, fun _ _ => 0, ⟨#[], args4, []⟩, rfl, World.shaped_of_B (wit1 os) (by kernel_rfl), rfl, wit3 _ _, ⟨ChangeSpec.pre_of_preB (wit4 os enc), sizedMet_of_sizedB (wit5 os enc)⟩, by
      simp only [Assume.holds]
      exact ⟨by simp, by simp, fun _ => Modest.zero, by simp, by simp⟩⟩ (by kernel_rfl) (by kernel_rfl) ?_
  · intro ds hd
    match ds, hd with
    | [_, _, _, _], _ => rfl
  · intro xs h ⟨hl, hr⟩
    match xs, hl with
    | [a, b, c, d], _ =>
      obtain ⟨_, _, ht0, hy0, r0⟩ := hr 0 65 a rfl rfl
      obtain ⟨_, _, ht1, hy1, r1⟩ := hr 1 65 b rfl rfl
      obtain ⟨_, _, ht2, hy2, r2⟩ := hr 2 73 c rfl rfl
      obtain ⟨_, _, ht3, hy3, r3⟩ := hr 3 73 d rfl rfl
      obtain ⟨xa, _, _, _, _, _, _, _, rfl, ra⟩ := Vas.rd_req ht0 hy0 r0
      obtain ⟨xb, _, _, _, _, _, _, _, rfl, rb⟩ := Vas.rd_req ht1 hy1 r1
      obtain ⟨xc, _, _, _, _, _, _, _, _, rfl, rc⟩ := Vas.rd_rep ht2 hy2 r2
      obtain ⟨xd, _, _, _, _, _, _, _, _, rfl, rd⟩ := Vas.rd_rep ht3 hy3 r3
      exact c4 ra rb rc rd

theorem formsAlike_holds : Rows.FormsAlikeSaid :=
  OpenClaim.holds_of_wide 4 Try.f4 rfl rfl rfl rfl rfl rfl rfl ⟨rfl, rfl, rfl, rfl, rfl⟩ rfl rfl rfl rfl rfl (by kernel_rfl) fn4 (by kernel_rfl)
    (of_decide_eq_true (by kernel_rfl)) (by unfold Func.isWrapper; rw [if_neg (of_decide_eq_false (by kernel_rfl))]; exact ⟨rfl, rfl⟩)
    (fun os started H enc _ => formsAlike_lifted os started H enc)

end Go.Proofs.Ytdmcbbeebjcagaa
