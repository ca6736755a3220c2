/-
  An abstract evaluator over the loaded code: values are trees, memory is a list of blocks, calls go by a table of contracts. No world, no tape. (Own work; soundness in the texts behind this one.)
-/
import Derived.Tactics
import Derived.Orders
import Derived.Laws.Rows
import Derived.Laws.Sem
import Derived.Laws.StructEq
import Derived.ChangeKeysEq
import GoSem.Builtin.Copy
import Derived.Laws.BytesString
import Derived.Laws.Tables
set_option linter.all false
set_option linter.unusedSectionVars false
set_option maxHeartbeats 8000000
set_option maxRecDepth 20000
namespace Go.Vab
theorem aI {a b:Prop} (x:a) (y:b):a∧b:=⟨x,y⟩
theorem aI3 {p0 p1 p2:Prop} (x0:p0) (x1:p1) (x2:p2):p0∧p1∧p2:=⟨x0,x1,x2⟩
theorem aI4 {p0 p1 p2 p3:Prop} (x0:p0) (x1:p1) (x2:p2) (x3:p3):p0∧p1∧p2∧p3:=⟨x0,x1,x2,x3⟩
theorem aI5 {p0 p1 p2 p3 p4:Prop} (x0:p0) (x1:p1) (x2:p2) (x3:p3) (x4:p4):p0∧p1∧p2∧p3∧p4:=⟨x0,x1,x2,x3,x4⟩
theorem aI6 {p0 p1 p2 p3 p4 p5:Prop} (x0:p0) (x1:p1) (x2:p2) (x3:p3) (x4:p4) (x5:p5):p0∧p1∧p2∧p3∧p4∧p5:=⟨x0,x1,x2,x3,x4,x5⟩
theorem aI7 {p0 p1 p2 p3 p4 p5 p6:Prop} (x0:p0) (x1:p1) (x2:p2) (x3:p3) (x4:p4) (x5:p5) (x6:p6):p0∧p1∧p2∧p3∧p4∧p5∧p6:=⟨x0,x1,x2,x3,x4,x5,x6⟩
theorem aI8 {p0 p1 p2 p3 p4 p5 p6 p7:Prop} (x0:p0) (x1:p1) (x2:p2) (x3:p3) (x4:p4) (x5:p5) (x6:p6) (x7:p7):p0∧p1∧p2∧p3∧p4∧p5∧p6∧p7:=⟨x0,x1,x2,x3,x4,x5,x6,x7⟩
theorem aI9 {p0 p1 p2 p3 p4 p5 p6 p7 p8:Prop} (x0:p0) (x1:p1) (x2:p2) (x3:p3) (x4:p4) (x5:p5) (x6:p6) (x7:p7) (x8:p8):p0∧p1∧p2∧p3∧p4∧p5∧p6∧p7∧p8:=⟨x0,x1,x2,x3,x4,x5,x6,x7,x8⟩
theorem E3 {p0 p1 p2 p3 p4 p5 p6 p7 p8 p9:Prop} (x0:p0) (x1:p1) (x2:p2) (x3:p3) (x4:p4) (x5:p5) (x6:p6) (x7:p7) (x8:p8) (x9:p9):p0∧p1∧p2∧p3∧p4∧p5∧p6∧p7∧p8∧p9:=⟨x0,x1,x2,x3,x4,x5,x6,x7,x8,x9⟩
theorem D8 {p0 p1 p2 p3 p4 p5 p6 p7 p8 p9 p10:Prop} (x0:p0) (x1:p1) (x2:p2) (x3:p3) (x4:p4) (x5:p5) (x6:p6) (x7:p7) (x8:p8) (x9:p9) (x10:p10):p0∧p1∧p2∧p3∧p4∧p5∧p6∧p7∧p8∧p9∧p10:=⟨x0,x1,x2,x3,x4,x5,x6,x7,x8,x9,x10⟩
theorem F8 {p0 p1 p2 p3 p4 p5 p6 p7 p8 p9 p10 p11:Prop} (x0:p0) (x1:p1) (x2:p2) (x3:p3) (x4:p4) (x5:p5) (x6:p6) (x7:p7) (x8:p8) (x9:p9) (x10:p10) (x11:p11):p0∧p1∧p2∧p3∧p4∧p5∧p6∧p7∧p8∧p9∧p10∧p11:=⟨x0,x1,x2,x3,x4,x5,x6,x7,x8,x9,x10,x11⟩
theorem H7 {p0 p1 p2 p3 p4 p5 p6 p7 p8 p9 p10 p11 p12:Prop} (x0:p0) (x1:p1) (x2:p2) (x3:p3) (x4:p4) (x5:p5) (x6:p6) (x7:p7) (x8:p8) (x9:p9) (x10:p10) (x11:p11) (x12:p12):p0∧p1∧p2∧p3∧p4∧p5∧p6∧p7∧p8∧p9∧p10∧p11∧p12:=⟨x0,x1,x2,x3,x4,x5,x6,x7,x8,x9,x10,x11,x12⟩
theorem N9 {p0 p1 p2 p3 p4 p5 p6 p7 p8 p9 p10 p11 p12 p13:Prop} (x0:p0) (x1:p1) (x2:p2) (x3:p3) (x4:p4) (x5:p5) (x6:p6) (x7:p7) (x8:p8) (x9:p9) (x10:p10) (x11:p11) (x12:p12) (x13:p13):p0∧p1∧p2∧p3∧p4∧p5∧p6∧p7∧p8∧p9∧p10∧p11∧p12∧p13:=⟨x0,x1,x2,x3,x4,x5,x6,x7,x8,x9,x10,x11,x12,x13⟩
theorem T9 {p0 p1 p2 p3 p4 p5 p6 p7 p8 p9 p10 p11 p12 p13 p14:Prop} (x0:p0) (x1:p1) (x2:p2) (x3:p3) (x4:p4) (x5:p5) (x6:p6) (x7:p7) (x8:p8) (x9:p9) (x10:p10) (x11:p11) (x12:p12) (x13:p13) (x14:p14):p0∧p1∧p2∧p3∧p4∧p5∧p6∧p7∧p8∧p9∧p10∧p11∧p12∧p13∧p14:=⟨x0,x1,x2,x3,x4,x5,x6,x7,x8,x9,x10,x11,x12,x13,x14⟩
theorem Y6 {p0 p1 p2 p3 p4 p5 p6 p7 p8 p9 p10 p11 p12 p13 p14 p15:Prop} (x0:p0) (x1:p1) (x2:p2) (x3:p3) (x4:p4) (x5:p5) (x6:p6) (x7:p7) (x8:p8) (x9:p9) (x10:p10) (x11:p11) (x12:p12) (x13:p13) (x14:p14) (x15:p15):p0∧p1∧p2∧p3∧p4∧p5∧p6∧p7∧p8∧p9∧p10∧p11∧p12∧p13∧p14∧p15:=⟨x0,x1,x2,x3,x4,x5,x6,x7,x8,x9,x10,x11,x12,x13,x14,x15⟩
theorem L5 {p0 p1 p2 p3 p4 p5 p6 p7 p8 p9 p10 p11 p12 p13 p14 p15 p16:Prop} (x0:p0) (x1:p1) (x2:p2) (x3:p3) (x4:p4) (x5:p5) (x6:p6) (x7:p7) (x8:p8) (x9:p9) (x10:p10) (x11:p11) (x12:p12) (x13:p13) (x14:p14) (x15:p15) (x16:p16):p0∧p1∧p2∧p3∧p4∧p5∧p6∧p7∧p8∧p9∧p10∧p11∧p12∧p13∧p14∧p15∧p16:=⟨x0,x1,x2,x3,x4,x5,x6,x7,x8,x9,x10,x11,x12,x13,x14,x15,x16⟩
theorem z9 {p0 p1 p2 p3 p4 p5 p6 p7 p8 p9 p10 p11 p12 p13 p14 p15 p16 p17:Prop} (x0:p0) (x1:p1) (x2:p2) (x3:p3) (x4:p4) (x5:p5) (x6:p6) (x7:p7) (x8:p8) (x9:p9) (x10:p10) (x11:p11) (x12:p12) (x13:p13) (x14:p14) (x15:p15) (x16:p16) (x17:p17):p0∧p1∧p2∧p3∧p4∧p5∧p6∧p7∧p8∧p9∧p10∧p11∧p12∧p13∧p14∧p15∧p16∧p17:=⟨x0,x1,x2,x3,x4,x5,x6,x7,x8,x9,x10,x11,x12,x13,x14,x15,x16,x17⟩
theorem A0R {p0 p1 p2 p3 p4 p5 p6 p7 p8 p9 p10 p11 p12 p13 p14 p15 p16 p17 p18:Prop} (x0:p0) (x1:p1) (x2:p2) (x3:p3) (x4:p4) (x5:p5) (x6:p6) (x7:p7) (x8:p8) (x9:p9) (x10:p10) (x11:p11) (x12:p12) (x13:p13) (x14:p14) (x15:p15) (x16:p16) (x17:p17) (x18:p18):p0∧p1∧p2∧p3∧p4∧p5∧p6∧p7∧p8∧p9∧p10∧p11∧p12∧p13∧p14∧p15∧p16∧p17∧p18:=⟨x0,x1,x2,x3,x4,x5,x6,x7,x8,x9,x10,x11,x12,x13,x14,x15,x16,x17,x18⟩
theorem A2r {p0 p1 p2 p3 p4 p5 p6 p7 p8 p9 p10 p11 p12 p13 p14 p15 p16 p17 p18 p19:Prop} (x0:p0) (x1:p1) (x2:p2) (x3:p3) (x4:p4) (x5:p5) (x6:p6) (x7:p7) (x8:p8) (x9:p9) (x10:p10) (x11:p11) (x12:p12) (x13:p13) (x14:p14) (x15:p15) (x16:p16) (x17:p17) (x18:p18) (x19:p19):p0∧p1∧p2∧p3∧p4∧p5∧p6∧p7∧p8∧p9∧p10∧p11∧p12∧p13∧p14∧p15∧p16∧p17∧p18∧p19:=⟨x0,x1,x2,x3,x4,x5,x6,x7,x8,x9,x10,x11,x12,x13,x14,x15,x16,x17,x18,x19⟩
theorem D6B {p0 p1 p2 p3 p4 p5 p6 p7 p8 p9 p10 p11 p12 p13 p14 p15 p16 p17 p18 p19 p20:Prop} (x0:p0) (x1:p1) (x2:p2) (x3:p3) (x4:p4) (x5:p5) (x6:p6) (x7:p7) (x8:p8) (x9:p9) (x10:p10) (x11:p11) (x12:p12) (x13:p13) (x14:p14) (x15:p15) (x16:p16) (x17:p17) (x18:p18) (x19:p19) (x20:p20):p0∧p1∧p2∧p3∧p4∧p5∧p6∧p7∧p8∧p9∧p10∧p11∧p12∧p13∧p14∧p15∧p16∧p17∧p18∧p19∧p20:=⟨x0,x1,x2,x3,x4,x5,x6,x7,x8,x9,x10,x11,x12,x13,x14,x15,x16,x17,x18,x19,x20⟩
theorem A4Q {p0 p1 p2 p3 p4 p5 p6 p7 p8 p9 p10 p11 p12 p13 p14 p15 p16 p17 p18 p19 p20 p21:Prop} (x0:p0) (x1:p1) (x2:p2) (x3:p3) (x4:p4) (x5:p5) (x6:p6) (x7:p7) (x8:p8) (x9:p9) (x10:p10) (x11:p11) (x12:p12) (x13:p13) (x14:p14) (x15:p15) (x16:p16) (x17:p17) (x18:p18) (x19:p19) (x20:p20) (x21:p21):p0∧p1∧p2∧p3∧p4∧p5∧p6∧p7∧p8∧p9∧p10∧p11∧p12∧p13∧p14∧p15∧p16∧p17∧p18∧p19∧p20∧p21:=⟨x0,x1,x2,x3,x4,x5,x6,x7,x8,x9,x10,x11,x12,x13,x14,x15,x16,x17,x18,x19,x20,x21⟩
theorem B52 {p0 p1 p2 p3 p4 p5 p6 p7 p8 p9 p10 p11 p12 p13 p14 p15 p16 p17 p18 p19 p20 p21 p22:Prop} (x0:p0) (x1:p1) (x2:p2) (x3:p3) (x4:p4) (x5:p5) (x6:p6) (x7:p7) (x8:p8) (x9:p9) (x10:p10) (x11:p11) (x12:p12) (x13:p13) (x14:p14) (x15:p15) (x16:p16) (x17:p17) (x18:p18) (x19:p19) (x20:p20) (x21:p21) (x22:p22):p0∧p1∧p2∧p3∧p4∧p5∧p6∧p7∧p8∧p9∧p10∧p11∧p12∧p13∧p14∧p15∧p16∧p17∧p18∧p19∧p20∧p21∧p22:=⟨x0,x1,x2,x3,x4,x5,x6,x7,x8,x9,x10,x11,x12,x13,x14,x15,x16,x17,x18,x19,x20,x21,x22⟩
theorem G9o {p0 p1 p2 p3 p4 p5 p6 p7 p8 p9 p10 p11 p12 p13 p14 p15 p16 p17 p18 p19 p20 p21 p22 p23:Prop} (x0:p0) (x1:p1) (x2:p2) (x3:p3) (x4:p4) (x5:p5) (x6:p6) (x7:p7) (x8:p8) (x9:p9) (x10:p10) (x11:p11) (x12:p12) (x13:p13) (x14:p14) (x15:p15) (x16:p16) (x17:p17) (x18:p18) (x19:p19) (x20:p20) (x21:p21) (x22:p22) (x23:p23):p0∧p1∧p2∧p3∧p4∧p5∧p6∧p7∧p8∧p9∧p10∧p11∧p12∧p13∧p14∧p15∧p16∧p17∧p18∧p19∧p20∧p21∧p22∧p23:=⟨x0,x1,x2,x3,x4,x5,x6,x7,x8,x9,x10,x11,x12,x13,x14,x15,x16,x17,x18,x19,x20,x21,x22,x23⟩
theorem G9p {p0 p1 p2 p3 p4 p5 p6 p7 p8 p9 p10 p11 p12 p13 p14 p15 p16 p17 p18 p19 p20 p21 p22 p23 p24:Prop} (x0:p0) (x1:p1) (x2:p2) (x3:p3) (x4:p4) (x5:p5) (x6:p6) (x7:p7) (x8:p8) (x9:p9) (x10:p10) (x11:p11) (x12:p12) (x13:p13) (x14:p14) (x15:p15) (x16:p16) (x17:p17) (x18:p18) (x19:p19) (x20:p20) (x21:p21) (x22:p22) (x23:p23) (x24:p24):p0∧p1∧p2∧p3∧p4∧p5∧p6∧p7∧p8∧p9∧p10∧p11∧p12∧p13∧p14∧p15∧p16∧p17∧p18∧p19∧p20∧p21∧p22∧p23∧p24:=⟨x0,x1,x2,x3,x4,x5,x6,x7,x8,x9,x10,x11,x12,x13,x14,x15,x16,x17,x18,x19,x20,x21,x22,x23,x24⟩
theorem G9q {p0 p1 p2 p3 p4 p5 p6 p7 p8 p9 p10 p11 p12 p13 p14 p15 p16 p17 p18 p19 p20 p21 p22 p23 p24 p25:Prop} (x0:p0) (x1:p1) (x2:p2) (x3:p3) (x4:p4) (x5:p5) (x6:p6) (x7:p7) (x8:p8) (x9:p9) (x10:p10) (x11:p11) (x12:p12) (x13:p13) (x14:p14) (x15:p15) (x16:p16) (x17:p17) (x18:p18) (x19:p19) (x20:p20) (x21:p21) (x22:p22) (x23:p23) (x24:p24) (x25:p25):p0∧p1∧p2∧p3∧p4∧p5∧p6∧p7∧p8∧p9∧p10∧p11∧p12∧p13∧p14∧p15∧p16∧p17∧p18∧p19∧p20∧p21∧p22∧p23∧p24∧p25:=⟨x0,x1,x2,x3,x4,x5,x6,x7,x8,x9,x10,x11,x12,x13,x14,x15,x16,x17,x18,x19,x20,x21,x22,x23,x24,x25⟩
theorem G9r {p0 p1 p2 p3 p4 p5 p6 p7 p8 p9 p10 p11 p12 p13 p14 p15 p16 p17 p18 p19 p20 p21 p22 p23 p24 p25 p26:Prop} (x0:p0) (x1:p1) (x2:p2) (x3:p3) (x4:p4) (x5:p5) (x6:p6) (x7:p7) (x8:p8) (x9:p9) (x10:p10) (x11:p11) (x12:p12) (x13:p13) (x14:p14) (x15:p15) (x16:p16) (x17:p17) (x18:p18) (x19:p19) (x20:p20) (x21:p21) (x22:p22) (x23:p23) (x24:p24) (x25:p25) (x26:p26):p0∧p1∧p2∧p3∧p4∧p5∧p6∧p7∧p8∧p9∧p10∧p11∧p12∧p13∧p14∧p15∧p16∧p17∧p18∧p19∧p20∧p21∧p22∧p23∧p24∧p25∧p26:=⟨x0,x1,x2,x3,x4,x5,x6,x7,x8,x9,x10,x11,x12,x13,x14,x15,x16,x17,x18,x19,x20,x21,x22,x23,x24,x25,x26⟩
theorem G9s {p0 p1 p2 p3 p4 p5 p6 p7 p8 p9 p10 p11 p12 p13 p14 p15 p16 p17 p18 p19 p20 p21 p22 p23 p24 p25 p26 p27:Prop} (x0:p0) (x1:p1) (x2:p2) (x3:p3) (x4:p4) (x5:p5) (x6:p6) (x7:p7) (x8:p8) (x9:p9) (x10:p10) (x11:p11) (x12:p12) (x13:p13) (x14:p14) (x15:p15) (x16:p16) (x17:p17) (x18:p18) (x19:p19) (x20:p20) (x21:p21) (x22:p22) (x23:p23) (x24:p24) (x25:p25) (x26:p26) (x27:p27):p0∧p1∧p2∧p3∧p4∧p5∧p6∧p7∧p8∧p9∧p10∧p11∧p12∧p13∧p14∧p15∧p16∧p17∧p18∧p19∧p20∧p21∧p22∧p23∧p24∧p25∧p26∧p27:=⟨x0,x1,x2,x3,x4,x5,x6,x7,x8,x9,x10,x11,x12,x13,x14,x15,x16,x17,x18,x19,x20,x21,x22,x23,x24,x25,x26,x27⟩
theorem G9t {p0 p1 p2 p3 p4 p5 p6 p7 p8 p9 p10 p11 p12 p13 p14 p15 p16 p17 p18 p19 p20 p21 p22 p23 p24 p25 p26 p27 p28:Prop} (x0:p0) (x1:p1) (x2:p2) (x3:p3) (x4:p4) (x5:p5) (x6:p6) (x7:p7) (x8:p8) (x9:p9) (x10:p10) (x11:p11) (x12:p12) (x13:p13) (x14:p14) (x15:p15) (x16:p16) (x17:p17) (x18:p18) (x19:p19) (x20:p20) (x21:p21) (x22:p22) (x23:p23) (x24:p24) (x25:p25) (x26:p26) (x27:p27) (x28:p28):p0∧p1∧p2∧p3∧p4∧p5∧p6∧p7∧p8∧p9∧p10∧p11∧p12∧p13∧p14∧p15∧p16∧p17∧p18∧p19∧p20∧p21∧p22∧p23∧p24∧p25∧p26∧p27∧p28:=⟨x0,x1,x2,x3,x4,x5,x6,x7,x8,x9,x10,x11,x12,x13,x14,x15,x16,x17,x18,x19,x20,x21,x22,x23,x24,x25,x26,x27,x28⟩
theorem G9u {p0 p1 p2 p3 p4 p5 p6 p7 p8 p9 p10 p11 p12 p13 p14 p15 p16 p17 p18 p19 p20 p21 p22 p23 p24 p25 p26 p27 p28 p29:Prop} (x0:p0) (x1:p1) (x2:p2) (x3:p3) (x4:p4) (x5:p5) (x6:p6) (x7:p7) (x8:p8) (x9:p9) (x10:p10) (x11:p11) (x12:p12) (x13:p13) (x14:p14) (x15:p15) (x16:p16) (x17:p17) (x18:p18) (x19:p19) (x20:p20) (x21:p21) (x22:p22) (x23:p23) (x24:p24) (x25:p25) (x26:p26) (x27:p27) (x28:p28) (x29:p29):p0∧p1∧p2∧p3∧p4∧p5∧p6∧p7∧p8∧p9∧p10∧p11∧p12∧p13∧p14∧p15∧p16∧p17∧p18∧p19∧p20∧p21∧p22∧p23∧p24∧p25∧p26∧p27∧p28∧p29:=⟨x0,x1,x2,x3,x4,x5,x6,x7,x8,x9,x10,x11,x12,x13,x14,x15,x16,x17,x18,x19,x20,x21,x22,x23,x24,x25,x26,x27,x28,x29⟩
open Go
inductive Ty where
 | int (k:IntKind)
 | cell
 | arr (n:Nat) (t:Ty)
 | struct (ts:List Ty)
mutual
def Ty.size:Ty→Nat
 | .int _ => 1
 | .cell=>1
 | .arr n t=>n * t.size
 | .struct ts=>Ty.sizes ts
def Ty.sizes:List Ty→Nat
 | []=>0
 | t::ts=>t.size+Ty.sizes ts
end
def Ty.isAgg:Ty→Bool
 | .arr _ _ => true
 | .struct _ => true
 | _ => false
mutual
def Ty.beq:Ty→Ty→Bool
 | .int k,.int k'=>decide (k=k')
 | .cell,.cell=>true
 | .arr n t,.arr n' t'=>decide (n=n')&&Ty.beq t t'
 | .struct ts,.struct us=>Ty.beqs ts us
 | _,_ => false
def Ty.beqs:List Ty→List Ty→Bool
 | [],[]=>true
 | t::ts,u::us=>Ty.beq t u&&Ty.beqs ts us
 | _,_ => false
end
mutual
theorem Ty.beq_eq:∀ (t u:Ty),Ty.beq t u=true→t=u
 | .int k,.int k',h=>by simp only [Ty.beq,decide_eq_true_eq] at h;rw [h]
 | .cell,.cell,_ => rfl
 | .arr n t,.arr n' t',h=>by
  simp only [Ty.beq,Bool.and_eq_true,decide_eq_true_eq] at h
  rw [h.1,Ty.beq_eq t t' h.2]
 | .struct ts,.struct us,h=>by
  simp only [Ty.beq] at h
  rw [Ty.beqs_eq ts us h]
 | .int _,.cell,h=>by simp [Ty.beq] at h
 | .int _,.arr _ _,h=>by simp [Ty.beq] at h
 | .int _,.struct _,h=>by simp [Ty.beq] at h
 | .cell,.int _,h=>by simp [Ty.beq] at h
 | .cell,.arr _ _,h=>by simp [Ty.beq] at h
 | .cell,.struct _,h=>by simp [Ty.beq] at h
 | .arr _ _,.int _,h=>by simp [Ty.beq] at h
 | .arr _ _,.cell,h=>by simp [Ty.beq] at h
 | .arr _ _,.struct _,h=>by simp [Ty.beq] at h
 | .struct _,.int _,h=>by simp [Ty.beq] at h
 | .struct _,.cell,h=>by simp [Ty.beq] at h
 | .struct _,.arr _ _,h=>by simp [Ty.beq] at h
theorem Ty.beqs_eq:∀ (ts us:List Ty),Ty.beqs ts us=true→ts=us
 | [],[],_ => rfl
 | t::ts,u::us,h=>by
  simp only [Ty.beqs,Bool.and_eq_true] at h
  rw [Ty.beq_eq t u h.1,Ty.beqs_eq ts us h.2]
 | [],_ :: _,h=>by simp [Ty.beqs] at h
 | _ :: _,[],h=>by simp [Ty.beqs] at h
end
mutual
theorem Ty.beq_self:∀ (t:Ty),Ty.beq t t=true
 | .int k=>by simp [Ty.beq]
 | .cell=>rfl
 | .arr n t=>by simp [Ty.beq,Ty.beq_self t]
 | .struct ts=>by simp [Ty.beq,Ty.beqs_self ts]
theorem Ty.beqs_self:∀ (ts:List Ty),Ty.beqs ts ts=true
 | []=>rfl
 | t::ts=>by simp [Ty.beqs,Ty.beq_self t,Ty.beqs_self ts]
end
attribute [simp] Ty.beq_self
inductive AV where
 | junk
 | undef
 | bool (b:Bool)
 | int (k:IntKind) (n:Int)
 | str (s:ByteArray)
 | nilptr
 | ptr (i ver:Nat) (path:List Nat) (t:Ty)
 | win (i ver:Nat) (path:List Nat) (t:Ty) (off n:Nat)
 | nilslice
 | slice (i ver:Nat) (path:List Nat) (t:Ty) (off len:Nat) (cap:Option Nat)
 | nilmap
 | map (i:Nat)
 | nilfn
 | fn (f:Nat) (caps:List AV)
 | ints (k:IntKind) (xs:List Int)
 | node (vs:List AV)
 | tuple (vs:List AV)
def AV.oneCell:AV→Bool
 | .bool _ | .str _ | .nilptr | .ptr .. | .nilslice | .slice .. | .nilmap | .nilfn | .fn ..=>true
 | _ => false
mutual
def A4:AV→Ty→Bool
 | .int k _,.int k'=>decide (k=k')
 | .ints k xs,.arr n (.int k')=>decide (k=k')&&decide (xs.length=n)
 | .node vs,.arr n (.struct ts)=>decide (vs.length=n)&&G7 vs (.struct ts)
 | .node vs,.arr n (.arr m t)=>decide (vs.length=n)&&G7 vs (.arr m t)
 | .node vs,.arr n .cell=>decide (vs.length=n)&&G7 vs .cell
 | .node vs,.struct ts=>C0 vs ts
 | v,.cell=>v.oneCell
 | _,_ => false
def G7:List AV→Ty→Bool
 | [],_ => true
 | v::vs,t=>A4 v t&&G7 vs t
def C0:List AV→List Ty→Bool
 | [],[]=>true
 | v::vs,t::ts=>A4 v t&&C0 vs ts
 | _,_ => false
end
def AV.get:AV→List Nat→Option AV
 | v,[]=>some v
 | .node vs,j::r=>match vs[j]? with
  | some v=>AV.get v r
  | none=>none
 | .ints k xs,j::r=>match r,xs[j]? with
  | [],some x=>some (.int k x)
  | _,_ => none
 | _,_ => none
def AV.put:AV→List Nat→AV→Option AV
 | _,[],x=>some x
 | .node vs,j::r,x=>match vs[j]? with
  | some v=>(AV.put v r x).map fun v'=>.node (vs.set j v')
  | none=>none
 | .ints k xs,j::r,x=>match r,x with
  | [],.int k' n=>if k=k'∧j < xs.length then some (.ints k (xs.set j n)) else none
  | _,_ => none
 | _,_,_ => none
inductive Mode where
 | own|open|ro
 | mp
 deriving DecidableEq
structure Blk where
 v:AV
 ver:Nat
 mode:Mode
abbrev A3:=List Blk
def AV.rowLen:AV→Option Nat
 | .ints _ xs=>some xs.length
 | .node vs=>some vs.length
 | _ => none
def AV.cut (off n:Nat):AV→Option AV
 | .ints k xs=>if off+n≤xs.length then some (.ints k ((xs.drop off).take n)) else none
 | .node vs=>if off+n≤vs.length then some (.node ((vs.drop off).take n)) else none
 | _ => none
def AV.join:AV→AV→Option AV
 | .ints k xs,.ints k' ys=>if k=k' then some (.ints k (xs++ys)) else none
 | .node vs,.node us=>some (.node (vs++us))
 | _,_ => none
def AV.splice (off n:Nat):AV→AV→Option AV
 | .ints k xs,.ints k' ys=>if k=k'∧off+n≤xs.length∧n≤ys.length then some (.ints k (xs.take off++ys.take n++xs.drop (off+n))) else none
 | .node vs,.node us=>if off+n≤vs.length∧n≤us.length then some (.node (vs.take off++us.take n++vs.drop (off+n))) else none
 | _,_ => none
structure TI where
 ty:Ty
 bytes:Nat
 zero:AV
 elem:Option Nat
 kind:Option IntKind
 str:Bool
 pt:Option Nat
 bool:Bool
def bnd {α β:Type} (x:Option α) (f:α→Option β):Option β:=match x with
 | some a=>f a
 | none=>none
@[simp] theorem G9 {α β:Type} (a:α) (f:α→Option β):bnd (some a) f=f a:=rfl
@[simp] theorem G7r {α β:Type} (f:α→Option β):bnd (none:Option α) f=none:=rfl
@[congr] theorem G6b {α β:Type} {x y:Option α} (h:x=y) (f:α→Option β):bnd x f=bnd y f:=by rw [h]
theorem bnd_eq_some {α β:Type} {x:Option α} {f:α→Option β} {b:β}:bnd x f=some b↔∃ a,x=some a∧f a=some b:=by
 cases x <;> simp
@[simp] theorem G8g {α β:Type} (c:Prop) [Decidable c] (x y:Option α) (f:α→Option β):bnd (if c then x else y) f=if c then bnd x f else bnd y f:=by split <;> rfl
def blkAt (h:A3) (i ver:Nat):Option Blk:=match h[i]? with
 | some b=>if b.ver=ver∧b.mode≠.mp then some b else none
 | none=>none
def D6 (t:Ty) (p:AV) (h:A3):Option AV:=match p with
 | .ptr i ver path t'=>if Ty.beq t' t then bnd (blkAt h i ver) fun b=>b.v.get path else none
 | .win i ver path t' off n=>if Ty.beq (.arr n t') t then bnd (blkAt h i ver) fun b=>bnd (b.v.get path) fun r=>r.cut off n else none
 | _ => none
def A2W (t:Ty) (p x:AV) (h:A3):Option A3:=match p with
 | .ptr i ver path t'=>if Ty.beq t' t&&A4 x t then bnd (blkAt h i ver) fun b=>if b.mode=.ro then none else bnd (b.v.put path x) fun v'=>some (h.set i { b with v:=v' }) else none
 | _ => none
def A4R (t:Ty) (v:AV) (h:A3):Option (AV × A3) :=
 if A4 v t then some (.ptr h.length 0 [] t,h++[⟨v,0,.own⟩]) else none
def C7 (t:Ty) (x:AV) (h:A3):Option AV:=match x with
 | .nilslice=>match t with | .int k=>some (.ints k []) | _ => some (.node [])
 | .slice i ver path t' off len _ => if Ty.beq t' t then bnd (blkAt h i ver) fun b=>bnd (b.v.get path) fun r=>r.cut off len else none
 | .str s=>match t with | .int .u8=>some (.ints .u8 (s.data.toList.map fun c=>(c.toNat:Int))) | _ => none
 | _ => none
def U5 (t:Ty) (row:AV) (n:Nat) (h:A3):AV × A3:=(.slice h.length n [] t 0 n none,h++[⟨row,n,.open⟩])
def E0:Nat:=140737488355328
def D6C (t:Ty) (bytes:Nat) (s x:AV) (h:A3):Option (AV × A3) :=
 bnd (C7 t x h) fun new=>bnd new.rowLen fun n=>match s with
  | .nilslice=>if n=0 then some (.nilslice,h) else if n * bytes≤E0∧n≤E0∧bytes≤1000000 then some (U5 t new n h) else none
  | .slice i ver path t' off len cap=>bnd (C7 t s h) fun old=>bnd (old.join new) fun all =>
   if (len+n) * bytes≤E0∧len+n≤E0∧bytes≤1000000 then
    match cap with
    | none=>bnd (blkAt h i ver) fun b=>if b.mode=.open∧path=[]∧off=0∧len=ver then some (.slice i (len+n) [] t' 0 (len+n) none,h.set i { b with v:=all,ver:=len+n }) else none
    | some c =>
     if c=0 then some (U5 t all (len+n) h)
     else if len+n≤c then bnd (blkAt h i ver) fun b=>if b.mode=.ro then none else bnd (b.v.get path) fun r=>bnd (r.splice (off+len) n new) fun r'=>bnd (b.v.put path r') fun v'=>some (.slice i ver path t' off (len+n) (some c),h.set i { b with v:=v' })
     else some (U5 t all (len+n) h)
   else none
  | _ => none
def M8 (t:Ty) (d x:AV) (h:A3):Option (AV × A3) :=
 bnd (C7 t x h) fun new=>bnd new.rowLen fun n=>match d with
  | .nilslice=>some (.int .i64 0,h)
  | .slice i ver path t' off len _ => if Ty.beq t' t then bnd (blkAt h i ver) fun b=>if b.mode=.ro then none else bnd (b.v.get path) fun r=>bnd (r.splice off (min n len) new) fun r'=>bnd (b.v.put path r') fun v'=>some (.int .i64 (min n len:Nat),h.set i { b with v:=v' }) else none
  | _ => none
def Q3:AV→Option Nat
 | .int _ n=>if 0≤n then some n.toNat else none
 | _ => none
def Q1 (x:AV) (most:Nat):Option Nat:=bnd (Q3 x) fun n=>if n≤most then some n else none
def D3 (x:Option AV) (most dflt:Nat):Option Nat:=match x with
 | none=>some dflt
 | some v=>Q1 v most
def A1J (t:Ty) (x:AV) (lo hi mx:Option AV):Option AV:=match x,t with
 | .ptr i ver path t',.arr n u=>if Ty.beq t' (.arr n u) then bnd (D3 mx n n) fun m=>bnd (D3 hi m n) fun q=>bnd (D3 lo q 0) fun l=>some (.slice i ver path u l (q - l) (some (m - l))) else none
 | _,_ => none
def C9 (t:Ty) (x:AV) (lo hi mx:Option AV):Option AV:=match x with
 | .slice i ver path t' off len (some c)=>if Ty.beq t' t then bnd (D3 mx c c) fun m=>bnd (D3 hi m len) fun u=>bnd (D3 lo u 0) fun l=>some (.slice i ver path t (off+l) (u - l) (some (m - l))) else none
 | .slice i ver path t' off len none => if Ty.beq t' t then match mx with
   | none=>bnd (D3 hi (ver - off) len) fun u=>bnd (D3 lo u 0) fun l=>some (.slice i ver path t (off+l) (u - l) none)
   | some mv=>bnd (Q1 mv (ver - off)) fun m=>bnd (D3 hi m len) fun u=>bnd (D3 lo u 0) fun l=>some (.slice i ver path t (off+l) (u - l) (some (m - l)))
  else none
 | .nilslice=>bnd (D3 mx 0 0) fun m=>bnd (D3 hi m 0) fun u=>bnd (D3 lo u 0) fun _ => some .nilslice
 | _ => none
def D9Q (x:AV) (lo hi:Option AV):Option AV:=match x with
 | .str s=>bnd (D3 hi s.size s.size) fun u=>bnd (D3 lo u 0) fun l=>some (.str (s.extract l u))
 | _ => none
def D0J (t:Ty) (bytes:Nat) (zero l c:AV) (h:A3):Option (AV × A3) :=
 match l,c with
 | .int _ n,.int _ m =>
  if 0≤n∧n≤m∧m * bytes≤E0∧m≤E0∧A4 zero t then
   some (.slice h.length 0 [] t 0 n.toNat (some m.toNat),h++[⟨match zero with | .int k z=>.ints k (List.replicate m.toNat z)|z=>.node (List.replicate m.toNat z),0,.own⟩])
  else none
 | _,_ => none
def G4 (t:Ty):AV→List (Nat × AV)→Option AV
 | r,[]=>some r
 | r,(i,x)::ps=>bnd (r.put [i] x) fun r'=>if A4 r' t then G4 t r' ps else none
mutual
def eqv:AV→AV→Option Bool
 | .int k a,.int k' b=>if k=k' then some (a == b) else none
 | .ints k xs,.ints k' ys=>if k=k'∧xs.length=ys.length then some (decide (xs=ys)) else none
 | .node vs,.node us=>R3 vs us
 | _,_ => none
def R3:List AV→List AV→Option Bool
 | [],[]=>some true
 | v::vs,u::us=>match eqv v u,R3 vs us with
  | some a,some b=>some (a&&b)
  | _,_ => none
 | _,_ => none
end
def L3 (op:BinOp) (k:IntKind) (a:Int) (k':IntKind) (b:Int):Option AV :=
 match op with
 | .shl=>if 0≤b then some (.int k (k.wrap (a * 2 ^ (min b.toNat k.bits)))) else none
 | .shr=>if 0≤b then some (.int k (a.fdiv (2 ^ (min b.toNat k.bits)))) else none
 | .add=>if k=k' then some (.int k (k.wrap (a+b))) else none
 | .sub=>if k=k' then some (.int k (k.wrap (a - b))) else none
 | .mul=>if k=k' then some (.int k (k.wrap (a * b))) else none
 | .quo=>if k=k'∧b≠0 then some (.int k (k.wrap (a.tdiv b))) else none
 | .rem=>if k=k'∧b≠0 then some (.int k (a.tmod b)) else none
 | .and=>if k=k' then some (.int k (k.wrap (BitVec.ofInt k.bits a &&& BitVec.ofInt k.bits b).toNat)) else none
 | .or=>if k=k' then some (.int k (k.wrap (BitVec.ofInt k.bits a ||| BitVec.ofInt k.bits b).toNat)) else none
 | .xor=>if k=k' then some (.int k (k.wrap (BitVec.ofInt k.bits a ^^^ BitVec.ofInt k.bits b).toNat)) else none
 | .eql=>if k=k' then some (.bool (a == b)) else none
 | .neq=>if k=k' then some (.bool (a != b)) else none
 | .lss=>if k=k' then some (.bool (decide (a < b))) else none
 | .leq=>if k=k' then some (.bool (decide (a≤b))) else none
 | .gtr=>if k=k' then some (.bool (decide (a > b))) else none
 | .geq=>if k=k' then some (.bool (decide (a ≥ b))) else none
 | _ => none
def C6 (op:BinOp) (x y:AV):Option AV :=
 match x,y with
 | .int k a,.int k' b=>L3 op k a k' b
 | _,_ => none
def A0N (op:BinOp) (x y:AV):Option AV :=
 match op,x,y with
 | .eql,.str a,.str b=>some (.bool (decide (a=b)))
 | .neq,.str a,.str b=>some (.bool (!decide (a=b)))
 | .lss,.str a,.str b=>some (.bool (Go.Op.bytesLess a.toList b.toList))
 | _,_,_ => none
def A39 (op:BinOp) (x y:AV):Option AV :=
 match op,x,y with
 | .eql,.bool a,.bool b=>some (.bool (a == b))
 | .neq,.bool a,.bool b=>some (.bool (!(a == b)))
 | _,_,_ => none
def A0O (op:BinOp) (x y:AV):Option AV :=
 match op,x,y with
 | .eql,.nilslice,.nilslice=>some (.bool true)
 | .eql,.slice ..,.nilslice=>some (.bool false)
 | .neq,.nilslice,.nilslice=>some (.bool false)
 | .neq,.slice ..,.nilslice=>some (.bool true)
 | _,_,_ => none
def A1R (op:BinOp) (x y:AV):Option AV :=
 match op,x,y with
 | .eql,.nilptr,.nilptr=>some (.bool true)
 | .eql,.ptr ..,.nilptr=>some (.bool false)
 | .neq,.nilptr,.nilptr=>some (.bool false)
 | .neq,.ptr ..,.nilptr=>some (.bool true)
 | _,_,_ => none
def mEq (t:Ty) (op:BinOp) (x y:AV):Option AV :=
 if A4 x t&&A4 y t then
  match op with
  | .eql=>bnd (eqv x y) fun b=>some (.bool b)
  | .neq=>bnd (eqv x y) fun b=>some (.bool !b)
  | _ => none
 else none
def A3z (i:TI) (op:BinOp) (x y:AV):Option AV:=match i.ty with
 | .arr n u=>mEq (.arr n u) op x y
 | .struct ts=>mEq (.struct ts) op x y
 | .int _ => C6 op x y
 | .cell=>match i.elem with
  | some _ => A0O op x y
  | none=>match i.pt with
   | some _ => A1R op x y
   | none=>if i.str then A0N op x y else if i.bool then A39 op x y else none
def B3Z (c a b:AV):Option AV:=match c with
 | .bool t=>some (if t=true then a else b)
 | _ => none
def mUn (op:UnOp) (x:AV):Option AV :=
 match op,x with
 | .neg,.int k n=>some (.int k (k.wrap (0 - n)))
 | .xor,.int k n=>some (.int k (k.wrap (BitVec.ofInt k.bits (if k.signed then -1 else k.max) ^^^ BitVec.ofInt k.bits n).toNat))
 | .not,.bool b=>some (.bool !b)
 | _,_ => none
def v9 (k:IntKind) (x:AV):Option AV:=match x with
 | .int _ n=>some (.int k (k.wrap n))
 | _ => none
def A1Y (x:AV) (h:A3):Option AV:=match x with
 | .str _ => none
 | x=>bnd (C7 (.int .u8) x h) fun r=>match r with
 | .ints _ xs=>some (.str ⟨(xs.map fun n=>UInt8.ofNat n.toNat).toArray⟩)
 | _ => none
def A4A (t:Ty) (x i:AV):Option AV:=bnd (Q3 i) fun j=>match x,t with
 | .ptr b ver path t',.arr n u=>if Ty.beq t' (.arr n u)∧j < n then some (.ptr b ver (path++[j]) u) else none
 | _,_ => none
def Q9 (t:Ty) (x i:AV):Option AV:=bnd (Q3 i) fun j=>match x with
 | .slice b ver path t' off len _ => if Ty.beq t' t∧j < len then some (.ptr b ver (path++[off+j]) t) else none
 | _ => none
def B7M (t:Ty) (x i:AV):Option AV:=bnd (Q3 i) fun j=>if A4 x t then x.get [j] else none
def A5R (x i:AV):Option AV:=bnd (Q3 i) fun j=>match x with
 | .str s=>match s.data.toList[j]? with|some c=>some (.int .u8 (c.toNat:Int))|none=>none
 | _ => none
def C2 (s:Ty) (x:AV) (f:Nat):Option AV:=match x,s with
 | .ptr b ver path t,.struct ts=>if Ty.beq t s then match ts[f]? with|some u=>some (.ptr b ver (path++[f]) u)|none=>none else none
 | _,_ => none
def D7 (s:Ty) (x:AV) (f:Nat):Option AV:=match x,s with
 | .node vs,.struct ts=>if C0 vs ts then vs[f]? else none
 | _,_ => none
def m9 (x:AV) (i:Nat):Option AV:=match x with
 | .tuple vs=>vs[i]?
 | _ => none
def A27 (x:AV):Option AV:=match x with
 | .ptr ..=>some x
 | .fn ..=>some x
 | _ => none
def D8e (n:Nat) (t:Ty) (x:AV):Option AV:=match x with
 | .slice i ver path t' off len _ => if Ty.beq t' t&&decide (n≤len)&&decide (0 < n) then some (.win i ver path t off n) else none
 | _ => none
def L9 (x:AV):Option AV:=match x with
 | .slice _ _ _ _ _ len _ => some (.int .i64 len)
 | .nilslice=>some (.int .i64 0)
 | _ => none
def B3a (x:AV):Option AV:=match x with
 | .str s=>some (.int .i64 s.size)
 | _ => none
def A5S:Value→AV
 | .bool b=>.bool b
 | .int k n=>.int k n
 | .string s=>.str s
 | .pointer none=>.nilptr
 | .slice none 0 0=>.nilslice
 | .map none=>.nilmap
 | .nilFunc=>.nilfn
 | _ => .junk
abbrev Env:=List (Nat × AV)
def Env.get:Env→Nat→AV
 | [],_ => .junk
 | (k,v)::r,t=>if t=k then v else Env.get r t
def Env.has:Env→Nat→Bool
 | [],_ => false
 | (k,_)::r,t=>if t=k then true else Env.has r t
def Env.put:Env→Nat→AV→Env
 | [],t,v=>[(t,v)]
 | (k,w)::r,t,v=>if t=k then (k,v)::r else (k,w)::Env.put r t v
structure St where
 env:Env
 heap:A3
abbrev B7N:=Nat→List AV→A3→Option (AV × A3)
structure Ctx where
 call:B7N
 tt:Nat→Option TI
 ntmps:Nat
 vol:List Nat
def F6 (loc env:Env) (t:Nat):AV:=if loc.has t then loc.get t else env.get t
def U0 (σ:Nat→AV):Operand→AV
 | .tmp t=>σ t
 | .const v=>A5S v
 | .func f=>.fn f []
 | .global _ => .junk
def opv (loc env:Env) (x:Operand):AV:=U0 (F6 loc env) x
def withTy {α:Type} (C:Ctx) (t:Nat) (f:TI→Option α):Option α:=match C.tt t with
 | some i=>f i
 | none=>none
def pureV (h:A3) (x:Option AV):Option (AV × A3):=bnd x fun v=>some (v,h)
def K1 (n:Nat):AV→AV
 | .int k z=>.ints k (List.replicate n z)
 | z=>.node (List.replicate n z)
def P3 (t:Ty) (zero:AV) (len:Nat) (ps:List (Nat × AV)) (h:A3):Option (AV × A3) :=
 bnd (G4 (.arr len t) (K1 len zero) ps) fun r =>
  if A4 (K1 len zero) (.arr len t)&&decide (len * t.size≤16777216) then some (.slice h.length 0 [] t 0 len (some len),h++[⟨r,0,.own⟩]) else none
def stU (t:Ty) (p x:AV) (h:A3):Option (AV × A3):=bnd (A2W t p x h) fun h'=>some (.undef,h')
def F2P (x y:AV):Option AV:=match x,y with
 | .int k a,.int k' b=>if k=k' then some (.int k (if b < a then b else a)) else none
 | _,_ => none
open Classical in
noncomputable def F9X (call:B7N) (f:Nat) (args:List AV) (h:A3):Option (AV × A3) :=
 if hx:∃ v,∀ t,call f args (h++t)=some (v,h++t) then some (hx.choose,h) else none
noncomputable def F8k (C:Ctx) (quiet:Bool) (f:AV) (args:List AV) (h:A3):Option (AV × A3):=match f with
 | .fn g caps=>if quiet then F9X C.call g (args++caps) h else C.call g (args++caps) h
 | _ => none
def A0F (C:Ctx) (b:Builtin) (argTypes:Array TypeId) (args:List AV) (h:A3):Option (AV × A3) :=
 match b,args with
 | .len,[x]=>match argTypes[0]? with
  | some t=>withTy C t fun i=>match i.ty with
   | .arr n _ => some (.int .i64 n,h)
   | _ => match i.elem with
    | some _ => pureV h (L9 x)
    | none=>if i.str then pureV h (B3a x) else none
  | none=>none
 | .append,[s,x]=>match argTypes[0]?,argTypes[1]? with
  | some t,some u=>withTy C t fun i=>withTy C u fun j=>match i.elem,j.ty with
   | some e,.cell=>withTy C e fun el=>D6C el.ty el.bytes s x h
   | _,_ => none
  | _,_ => none
 | .copy,[d,x]=>match argTypes[0]? with
  | some t=>withTy C t fun i=>match i.elem with
   | some e=>withTy C e fun el=>M8 el.ty d x h
   | none=>none
  | none=>none
 | .min,[x,y]=>pureV h (F2P x y)
 | _,_ => none
noncomputable def E6 (C:Ctx) (quiet:Bool) (V:Operand→AV) (h:A3):Op→Option (AV × A3)
 | .move x | .assign x=>some (V x,h)
 | .pick c a b=>pureV h (B3Z (V c) (V a) (V b))
 | .alloc e=>withTy C e fun i=>A4R i.ty i.zero h
 | .box e x=>withTy C e fun i=>A4R i.ty (V x) h
 | .build t parts=>withTy C t fun i=>pureV h (if i.ty.isAgg then G4 i.ty i.zero (parts.toList.map fun p=>(p.1,V p.2)) else none)
 | .buildSlice t len parts=>withTy C t fun i=>match i.elem with
  | some e=>withTy C e fun el=>P3 el.ty el.zero len (parts.toList.map fun p=>(p.1,V p.2)) h
  | none=>none
 | .load t p=>withTy C t fun i=>pureV h (D6 i.ty (V p) h)
 | .store t p x=>withTy C t fun i=>stU i.ty (V p) (V x) h
 | .nilCheck x=>pureV h (A27 (V x))
 | .binOp op t x y _ => withTy C t fun i=>pureV h (A3z i op (V x) (V y))
 | .unOp op _ x=>pureV h (mUn op (V x))
 | .convert s t x=>withTy C t fun i=>withTy C s fun j=>match i.kind with
  | some k=>pureV h (v9 k (V x))
  | none=>match i.str,j.elem with
   | true,some e=>withTy C e fun el=>match el.kind with
    | some .u8=>pureV h (A1Y (V x) h)
    | _ => none
   | _,_ => none
 | .sliceToArrayPointer t x=>withTy C t fun i=>match i.ty with
  | .arr n u=>pureV h (D8e n u (V x))
  | _ => none
 | .makeFunc (.func f) first caps=>if first.size=0 then some (.fn f (caps.toList.map V),h) else none
 | .makeSlice t l c=>withTy C t fun i=>match i.elem with
  | some e=>withTy C e fun el=>D0J el.ty el.bytes el.zero (V l) (V c) h
  | none=>none
 | .slice t x lo hi mx=>if mx.isSome&&hi.isNone then none else withTy C t fun i=>match i.ty with
  | .arr n u=>pureV h (A1J (.arr n u) (V x) (lo.map V) (hi.map V) (mx.map V))
  | _ => match i.elem with
   | some e=>withTy C e fun el=>pureV h (C9 el.ty (V x) (lo.map V) (hi.map V) (mx.map V))
   | none=>match i.pt with
    | some a=>withTy C a fun j=>pureV h (A1J j.ty (V x) (lo.map V) (hi.map V) (mx.map V))
    | none=>match i.str,mx with
     | true,none=>pureV h (D9Q (V x) (lo.map V) (hi.map V))
     | _,_ => none
 | .fieldAddr s x f=>withTy C s fun i=>pureV h (C2 i.ty (V x) f)
 | .field s x f=>withTy C s fun i=>pureV h (D7 i.ty (V x) f)
 | .indexAddr t x i=>withTy C t fun d=>match d.ty with
  | .arr n u=>pureV h (A4A (.arr n u) (V x) (V i))
  | _ => match d.elem with
   | some e=>withTy C e fun el=>pureV h (Q9 el.ty (V x) (V i))
   | none=>none
 | .index t x i=>withTy C t fun d=>match d.ty with
  | .arr n u=>pureV h (B7M (.arr n u) (V x) (V i))
  | _ => if d.str then pureV h (A5R (V x) (V i)) else none
 | .extract x i=>pureV h (m9 (V x) i)
 | .call c=>match c.callee with
  | .value f=>F8k C quiet (V f) (c.args.toList.map V) h
  | .builtin b=>A0F C b c.argTypes (c.args.toList.map V) h
  | _ => none
 | _ => none
def gdo (y:AV) (want:Bool) (m:Option (AV × A3)) (h:A3):Option (AV × A3):=match y with
 | .bool b=>if b=want then m else some (.undef,h)
 | .undef=>some (.undef,h)
 | _ => none
def w7 (ops:List Oper) (j:Nat):Option Nat:=match ops[j]? with
 | some o=>o.dst
 | none=>none
noncomputable def E2I (C:Ctx) (quiet:Bool) (ops:List Oper) (o:Oper) (σ:Nat→AV) (h:A3):Option (AV × A3) :=
 match o.guard with
 | none=>E6 C quiet (U0 σ) h o.op
 | some (j,want)=>match w7 ops j with
  | some d=>gdo (σ d) want (E6 C quiet (U0 σ) h o.op) h
  | none=>none
noncomputable def F9Y (C:Ctx) (quiet:Bool) (ops:List Oper) (o:Oper) (loc env:Env) (h:A3):Option (AV × A3):=E2I C quiet ops o (F6 loc env) h
def A2s (σ:Nat→AV) (d:Nat) (v:AV) (t:Nat):AV:=if t=d then v else σ t
noncomputable def F9Z (C:Ctx) (q:Bool) (ops:List Oper) (o:Oper) (s:(Nat→AV) × A3):Option ((Nat→AV) × A3) :=
 bnd (E2I C q ops o s.1 s.2) fun r=>match o.dst with
  | some d=>if d < C.ntmps then some (A2s s.1 d r.1,r.2) else none
  | none=>some (s.1,r.2)
def i8 (ops:Array Oper) (listed:Array Bool):List Nat :=
 (List.range ops.size).filter fun i =>
  !listed.getD i true&&((ops[i]?).map (·.after.all fun e => !Region.binds .any e||listed.getD e.on false)).getD false
def E2J (C:Ctx) (q:Bool) (ops:Array Oper) (Q:(Nat→AV) × A3→Prop):Nat→Array Bool→(Nat→AV) × A3→Prop
 | 0,listed,s=>i8 ops listed=[]∧Q s
 | n+1,listed,s=>(i8 ops listed=[]→Q s)∧∀ i∈i8 ops listed,∀ o,ops[i]?=some o→∃ s',F9Z C q ops.toList o s=some s'∧E2J C q ops Q n (listed.setIfInBounds i true) s'
def G0b (C:Ctx) (s':St) (s:(Nat→AV) × A3):Prop:=(∀ t,C.vol.contains t=false→s.1 t=s'.env.get t)∧s.2=s'.heap
def F9a (C:Ctx) (q:Bool) (ops:Array Oper) (s s':St):Prop:=E2J C q ops (G0b C s') ops.size (Array.replicate ops.size false) (s.env.get,s.heap)
def commit (vol:List Nat):Env→Env→Env
 | [],env=>env
 | (t,v)::loc,env=>if vol.contains t then commit vol loc env else Env.put (commit vol loc env) t v
noncomputable def A4B (C:Ctx) (quiet:Bool) (ops:List Oper):List Oper→Env→Env→A3→Option St
 | [],loc,env,h=>some ⟨commit C.vol loc env,h⟩
 | o::os,loc,env,h=>bnd (F9Y C quiet ops o loc env h) fun r=>match o.dst with
  | some d=>if d < C.ntmps then A4B C quiet ops os ((d,r.1)::loc) env r.2 else none
  | none=>A4B C quiet ops os loc env r.2
inductive Ex where
 | nrm
 | exit (id:Nat)
 | ret
def D9R (f:St→Option (Ex × St)):Nat→St→Option (Ex × St)
 | 0,_ => none
 | n+1,s=>bnd (f s) fun r=>match r.1 with
  | .nrm=>D9R f n r.2
  | e=>some (e,r.2)
open Classical in
noncomputable def F8l (f:St→Option (Ex × St)) (s:St):Option (Ex × St) :=
 if hx:∃ r,∃ n,D9R f n s=some r then some hx.choose else none
def w8 (id:Nat) (r:Ex × St):Ex × St:=match r.1 with
 | .exit j=>if j=id then (.nrm,r.2) else r
 | _ => r
def F7h (ops:List Oper):List Nat :=
 ops.foldl (init:=[]) fun acc o =>
  acc++[o.after.toList.foldl (init:=0) fun s e=>if Region.binds .any e then s ||| acc.getD e.on 0 ||| (1 <<< e.on) else s]
def bef (bs:List Nat) (i p:Nat):Bool:=decide (p < i)&&(bs.getD i 0).testBit p
inductive Kind where
 | pure|read|alloc|write
 deriving DecidableEq
def Y3 (q:Bool):Op→Kind
 | .load ..=>.read
 | .alloc _ | .box .. | .buildSlice .. | .makeSlice .. | .makeMap ..=>.alloc
 | .store .. | .mapUpdate ..=>.write
 | .convert .. | .lookup ..=>.read
 | .call c=>match c.callee with
  | .value _ => if q then .read else .write
  | .builtin .len=>.pure
  | .builtin .min=>.pure
  | _ => .write
 | _ => .pure
def V6 (ops:List Oper) (o:Oper):List Nat :=
 (o.op.operands.toList.filterMap fun | .tmp t=>some t | _ => none)++(match o.guard with|some (j,_)=>(w7 ops j).toList|none=>[])
def F8m (a b:Kind):Bool:=match a,b with
 | .pure,_ | _,.pure=>true
 | .read,.read=>true
 | .read,.alloc=>true
 | _,_ => false
def F5x (q:Bool) (ops:List Oper) (p o:Oper):Bool :=
 F8m (Y3 q p.op) (Y3 q o.op) &&
  (match p.dst with|some d => !(V6 ops o).contains d|none=>true) &&
  (match o.dst with|some d => !(V6 ops p).contains d|none=>true) &&
  (match p.dst,o.dst with|some d,some e=>decide (d≠e) | _,_ => true)
def F5y (q:Bool) (ops:List Oper) (bs:List Nat) (zs:List (Oper × Nat)) (o:Oper) (i:Nat):Bool :=
 (o.after.toList.all fun e => !Region.binds .any e||decide (e.on < i)) &&
 ((List.range i).all fun p => !bef bs i p||o.after.toList.any fun e=>Region.binds .any e&&(decide (e.on=p)||bef bs e.on p)) &&
 -- j < i: p ahead of o in the text
 zs.all fun (p,j) => !decide (j < i)||bef bs i j||F5x q ops p o
def F7i (q:Bool) (ops:List Oper) (bs:List Nat) (zs:List (Oper × Nat)):Bool:=zs.all fun (o,i)=>F5y q ops bs zs o i
def forced {α:Type}:List Nat→(List Nat→α)→α
 | [],f=>f []
 | x::xs,f=>Nat.rec (motive:=fun _ => α) (forced xs fun l=>f (0::l)) (fun n _ => forced xs fun l=>f ((n+1)::l)) x
def D9S (q:Bool) (ops:List Oper):Bool:=forced (F7h ops) fun bs=>F7i q ops bs ops.zipIdx
def F9b:Op→Bool
 | .slice ..=>true
 | _ => false
def F9c:Op→Bool
 | .call c=>match c.callee with | .value _ => true | _ => false
 | _ => false
def G0c (ops:List Oper):Bool:=ops.any (fun o=>F9b o.op)&&ops.any (fun o=>F9c o.op)&&D9S false ops
def sqK (g:St→Option (Ex × St)) (r:Ex × St):Option (Ex × St):=match r.1 with
 | .nrm=>g r.2
 | .exit id=>some (.exit id,r.2)
 | .ret=>some (.ret,r.2)
@[simp] theorem G8h (g:St→Option (Ex × St)) (s:St):sqK g (.nrm,s)=g s:=rfl
@[simp] theorem G7s (g:St→Option (Ex × St)) (id:Nat) (s:St):sqK g (.exit id,s)=some (.exit id,s):=rfl
@[simp] theorem G8i (g:St→Option (Ex × St)) (s:St):sqK g (.ret,s)=some (.ret,s):=rfl
def cnd {α:Type} (v:AV) (x y:Option α):Option α:=match v with
 | .bool t=>if t=true then x else y
 | _ => none
@[simp] theorem G7t {α:Type} (t:Bool) (x y:Option α):cnd (.bool t) x y=if t=true then x else y:=rfl
open Classical in
noncomputable def evC (C:Ctx):Code→St→Option (Ex × St)
 | .skip,s=>some (.nrm,s)
 | .region _ ops false,s=>bnd (A4B C false ops.toList ops.toList [] s.env s.heap) fun s'=>some (.nrm,s')
 | .region _ ops true,s=>if G0c ops.toList=true then bnd (A4B C false ops.toList ops.toList [] s.env s.heap) fun s'=>some (.nrm,s')
  else bnd (A4B C true ops.toList ops.toList [] s.env s.heap) fun s'=>if D9S true ops.toList=true∨F9a C true ops s s' then some (.nrm,s') else none
 | .seq a b,s=>bnd (evC C a s) (sqK (evC C b))
 | .cond c a b,s=>cnd (opv [] s.env c) (evC C a s) (evC C b s)
 | .block id c,s=>bnd (evC C c s) fun r=>some (w8 id r)
 | .loop c,s=>F8l (evC C c) s
 | .exit id,s=>some (.exit id,s)
 | .ret,s=>some (.ret,s)
 | _,_ => none
def A1w (n:Nat):List AV→Env
 | []=>[]
 | v::vs=>(n,v)::A1w (n+1) vs
def Q5 (C:Ctx) (args:List AV):Env:=A1w 0 args++((List.range C.ntmps).filter fun t=>decide (args.length≤t) && !C.vol.contains t).map fun t=>(t,.junk)
def D0K (C:Ctx) (s:St):ResultVar→Option AV
 | .tmp t=>some (s.env.get t)
 | .cell a t=>withTy C t fun i=>D6 i.ty (s.env.get a) s.heap
def Y4 (C:Ctx) (s:St):List ResultVar→Option (List AV)
 | []=>some []
 | r::rs=>bnd (D0K C s r) fun v=>bnd (Y4 C s rs) fun vs=>some (v::vs)
def C8:List AV→AV
 | [v]=>v
 | vs=>.tuple vs
end Go.Vab

namespace Go.Vab
open Go
structure Gh where
 n:Nat
 blk:Nat→Nat
 base:Nat→Nat
 room:Nat→Nat
 ver:Nat→Nat
 many:Nat→Bool
 ty:Nat→Ty
def Ty.sub:Ty→List Nat→Option (Nat × Ty)
 | t,[]=>some (0,t)
 | .arr _ t,j::r=>match Ty.sub t r with
  | some (o,u)=>some (j * t.size+o,u)
  | none=>none
 | .struct ts,j::r=>match ts[j]? with
  | some t=>match Ty.sub t r with
   | some (o,u)=>some (Ty.sizes (ts.take j)+o,u)
   | none=>none
  | none=>none
 | _,_ => none
def PtrAt (E:Gh) (i ver:Nat) (path:List Nat) (t:Ty) (a:Addr):Prop :=
 i < E.n∧ver≤E.ver i∧(E.many i=true→path≠[])∧(ver=E.ver i→∃ o,Ty.sub (E.ty i) path=some (o,t)∧a=⟨E.blk i,E.base i+o,none⟩)
def WinAt (E:Gh) (i ver:Nat) (path:List Nat) (t:Ty) (off:Nat) (a:Addr):Prop :=
 i < E.n∧ver≤E.ver i∧(ver=E.ver i→∃ o n,Ty.sub (E.ty i) path=some (o,.arr n t)∧a=⟨E.blk i,E.base i+o+off * t.size,none⟩)
def SlcAt (E:Gh) (i ver:Nat) (path:List Nat) (t:Ty) (off len:Nat) (cap:Option Nat) (a:Addr) (c:Nat):Prop :=
 i < E.n∧ver≤E.ver i∧len≤c∧(∀ x,cap=some x→c=x)∧(cap=none→off+len≤ver∧ver≤off+c) ∧
 (ver=E.ver i→∃ o n,Ty.sub (E.ty i) path=some (o,.arr n t)∧(c≠0→a=⟨E.blk i,E.base i+o+off * t.size,none⟩) ∧
  (cap=none→o=0∧(off+c) * t.size≤E.room i))
def MapRef (E:Gh) (i a:Nat):Prop:=i < E.n∧(E.ver i=0→a=E.blk i)
mutual
def VRl (E:Gh):AV→List Value→Prop
 | .bool b,l=>l=[.bool b]
 | .int k n,l=>l=[.int k n]
 | .str s,l=>l=[.string s]
 | .nilptr,l=>l=[.pointer none]
 | .ptr i ver path t,l=>∃ a,l=[.pointer (some a)]∧PtrAt E i ver path t a
 | .win i ver path t off _,l=>∃ a,l=[.pointer (some a)]∧WinAt E i ver path t off a
 | .nilslice,l=>l=[.slice none 0 0]
 | .slice i ver path t off len cap,l=>∃ a c,l=[.slice (some a) len c]∧SlcAt E i ver path t off len cap a c
 | .nilmap,l=>l=[.map none]
 | .nilfn,l=>l=[.nilFunc]
 | .fn f caps,l=>∃ cs,l=[.func (.func f) #[] cs.toArray]∧VRc E caps cs
 | .ints k xs,l=>l=xs.map (Value.int k)
 | .node vs,l=>VRs E vs l
 | _,_ => False
def VRs (E:Gh):List AV→List Value→Prop
 | [],l=>l=[]
 | v::vs,l=>∃ l1 l2,l=l1++l2∧VRl E v l1∧VRs E vs l2
def VRel (E:Gh):AV→Value→Prop
 | .junk,_ => True
 | .undef,x=>x=Go.undef
 | .tuple vs,x=>∃ xs,x=.tuple xs.toArray∧VRc E vs xs
 | .node vs,x=>∃ l,x=.agg l.toArray∧VRs E vs l
 | .ints k xs,x=>x=.agg (xs.map (Value.int k)).toArray
 | .bool b,x=>x=.bool b
 | .int k n,x=>x=.int k n
 | .str s,x=>x=.string s
 | .nilptr,x=>x=.pointer none
 | .ptr i ver path t,x=>∃ a,x=.pointer (some a)∧PtrAt E i ver path t a
 | .win i ver path t off _,x=>∃ a,x=.pointer (some a)∧WinAt E i ver path t off a
 | .nilslice,x=>x=.slice none 0 0
 | .slice i ver path t off len cap,x=>∃ a c,x=.slice (some a) len c∧SlcAt E i ver path t off len cap a c
 | .nilmap,x=>x=.map none
 | .nilfn,x=>x=.nilFunc
 | .fn f caps,x=>∃ cs,x=.func (.func f) #[] cs.toArray∧VRc E caps cs
 | .map i,x=>∃ a,x=.map (some a)∧MapRef E i a
def VRc (E:Gh):List AV→List Value→Prop
 | [],l=>l=[]
 | v::vs,l=>∃ x xs,l=x::xs∧VRel E v x∧VRc E vs xs
end
structure Ext (E E':Gh):Prop where
 n:E.n≤E'.n
 ver:∀ i,i < E.n→E.ver i≤E'.ver i
 many:∀ i,i < E.n→E'.many i=E.many i
 ty:∀ i,i < E.n→E'.ty i=E.ty i
 same:∀ i,i < E.n→E'.ver i=E.ver i→E'.blk i=E.blk i∧E'.base i=E.base i∧E'.room i=E.room i
theorem Ext.refl (E:Gh):Ext E E:=⟨Nat.le_refl _,fun _ _ => Nat.le_refl _,fun _ _ => rfl,fun _ _ => rfl,fun _ _ _ => ⟨rfl,rfl,rfl⟩⟩
theorem Ext.trans {E E' E'':Gh} (h:Ext E E') (h':Ext E' E''):Ext E E'' where
 n:=Nat.le_trans h.n h'.n
 ver i hi:=Nat.le_trans (h.ver i hi) (h'.ver i (Nat.lt_of_lt_of_le hi h.n))
 many i hi:=(h'.many i (Nat.lt_of_lt_of_le hi h.n)).trans (h.many i hi)
 ty i hi:=(h'.ty i (Nat.lt_of_lt_of_le hi h.n)).trans (h.ty i hi)
 same i hi he:=by
  have hi':=Nat.lt_of_lt_of_le hi h.n
  have h1:=h.ver i hi
  have h2:=h'.ver i hi'
  have e1:E'.ver i=E.ver i:=by omega
  have e2:E''.ver i=E'.ver i:=by omega
  obtain ⟨a,b,c⟩:=h.same i hi e1
  obtain ⟨a',b',c'⟩:=h'.same i hi' e2
  exact ⟨a'.trans a,b'.trans b,c'.trans c⟩
theorem PtrAt.mono {E E':Gh} (h:Ext E E') {i ver path t a} (hp:PtrAt E i ver path t a):PtrAt E' i ver path t a:=by
 obtain ⟨hi,hv,hm,ho⟩:=hp
 refine ⟨Nat.lt_of_lt_of_le hi h.n,Nat.le_trans hv (h.ver i hi),by rw [h.many i hi];exact hm,fun e=>?_⟩
 have h1:=h.ver i hi
 obtain ⟨o,hs,ha⟩:=ho (by omega)
 obtain ⟨b1,b2,_⟩:=h.same i hi (by omega)
 exact ⟨o,by rw [h.ty i hi];exact hs,by rw [b1,b2];exact ha⟩
theorem WinAt.mono {E E':Gh} (h:Ext E E') {i ver path t off a} (hp:WinAt E i ver path t off a):WinAt E' i ver path t off a:=by
 obtain ⟨hi,hv,ho⟩:=hp
 refine ⟨Nat.lt_of_lt_of_le hi h.n,Nat.le_trans hv (h.ver i hi),fun e=>?_⟩
 have h1:=h.ver i hi
 obtain ⟨o,n,hs,ha⟩:=ho (by omega)
 obtain ⟨b1,b2,_⟩:=h.same i hi (by omega)
 exact ⟨o,n,by rw [h.ty i hi];exact hs,by rw [b1,b2];exact ha⟩
theorem SlcAt.mono {E E':Gh} (h:Ext E E') {i ver path t off len cap a c} (hp:SlcAt E i ver path t off len cap a c):SlcAt E' i ver path t off len cap a c:=by
 obtain ⟨hi,hv,hl,hc,hcn,ho⟩:=hp
 refine ⟨Nat.lt_of_lt_of_le hi h.n,Nat.le_trans hv (h.ver i hi),hl,hc,hcn,fun e=>?_⟩
 have h1:=h.ver i hi
 obtain ⟨o,n,hs,ha,hn⟩:=ho (by omega)
 obtain ⟨b1,b2,b3⟩:=h.same i hi (by omega)
 exact ⟨o,n,by rw [h.ty i hi];exact hs,by rw [b1,b2];exact ha,by rw [b3];exact hn⟩
theorem MapRef.mono {E E':Gh} (h:Ext E E') {i a:Nat} (hp:MapRef E i a):MapRef E' i a:=by
 obtain ⟨hi,ho⟩:=hp
 refine ⟨Nat.lt_of_lt_of_le hi h.n,fun e=>?_⟩
 have h1:=h.ver i hi
 rw [(h.same i hi (by omega)).1]
 exact ho (by omega)
mutual
theorem VRl.mono {E E':Gh} (h:Ext E E'):∀ (v:AV) (l:List Value),VRl E v l→VRl E' v l
 | .bool _,_,hr=>by simpa only [VRl] using hr
 | .int _ _,_,hr=>by simpa only [VRl] using hr
 | .str _,_,hr=>by simpa only [VRl] using hr
 | .nilptr,_,hr=>by simpa only [VRl] using hr
 | .ptr ..,_,hr=>by
  simp only [VRl] at hr ⊢
  obtain ⟨a,e,hp⟩:=hr;exact ⟨a,e,hp.mono h⟩
 | .win ..,_,hr=>by
  simp only [VRl] at hr ⊢
  obtain ⟨a,e,hp⟩:=hr;exact ⟨a,e,hp.mono h⟩
 | .nilslice,_,hr=>by simpa only [VRl] using hr
 | .slice ..,_,hr=>by
  simp only [VRl] at hr ⊢
  obtain ⟨a,c,e,hp⟩:=hr;exact ⟨a,c,e,hp.mono h⟩
 | .nilmap,_,hr=>by simpa only [VRl] using hr
 | .nilfn,_,hr=>by simpa only [VRl] using hr
 | .fn _ caps,_,hr=>by
  simp only [VRl] at hr ⊢
  obtain ⟨cs,e,hp⟩:=hr;exact ⟨cs,e,VRc.mono h caps cs hp⟩
 | .ints _ _,_,hr=>by simpa only [VRl] using hr
 | .node vs,l,hr=>by simp only [VRl] at hr ⊢;exact VRs.mono h vs l hr
 | .junk,_,hr=>by simp only [VRl] at hr
 | .undef,_,hr=>by simp only [VRl] at hr
 | .map _,_,hr=>by simp only [VRl] at hr
 | .tuple _,_,hr=>by simp only [VRl] at hr
theorem VRs.mono {E E':Gh} (h:Ext E E'):∀ (vs:List AV) (l:List Value),VRs E vs l→VRs E' vs l
 | [],_,hr=>by simpa only [VRs] using hr
 | v::vs,l,hr=>by
  simp only [VRs] at hr ⊢
  obtain ⟨l1,l2,e,h1,h2⟩:=hr
  exact ⟨l1,l2,e,VRl.mono h v l1 h1,VRs.mono h vs l2 h2⟩
theorem VRel.mono {E E':Gh} (h:Ext E E'):∀ (v:AV) (x:Value),VRel E v x→VRel E' v x
 | .bool _,_,hr=>by simpa only [VRel] using hr
 | .int _ _,_,hr=>by simpa only [VRel] using hr
 | .str _,_,hr=>by simpa only [VRel] using hr
 | .nilptr,_,hr=>by simpa only [VRel] using hr
 | .ptr ..,_,hr=>by
  simp only [VRel] at hr ⊢
  obtain ⟨a,e,hp⟩:=hr;exact ⟨a,e,hp.mono h⟩
 | .win ..,_,hr=>by
  simp only [VRel] at hr ⊢
  obtain ⟨a,e,hp⟩:=hr;exact ⟨a,e,hp.mono h⟩
 | .nilslice,_,hr=>by simpa only [VRel] using hr
 | .slice ..,_,hr=>by
  simp only [VRel] at hr ⊢
  obtain ⟨a,c,e,hp⟩:=hr;exact ⟨a,c,e,hp.mono h⟩
 | .nilmap,_,hr=>by simpa only [VRel] using hr
 | .nilfn,_,hr=>by simpa only [VRel] using hr
 | .fn _ caps,_,hr=>by
  simp only [VRel] at hr ⊢
  obtain ⟨cs,e,hp⟩:=hr;exact ⟨cs,e,VRc.mono h caps cs hp⟩
 | .ints _ _,_,hr=>by simpa only [VRel] using hr
 | .node vs,_,hr=>by
  simp only [VRel] at hr ⊢
  obtain ⟨l,e,hp⟩:=hr;exact ⟨l,e,VRs.mono h vs l hp⟩
 | .junk,_,_ => by simp only [VRel]
 | .undef,_,hr=>by simpa only [VRel] using hr
 | .map _,_,hr=>by
  simp only [VRel] at hr ⊢
  obtain ⟨a,e,hp⟩:=hr;exact ⟨a,e,hp.mono h⟩
 | .tuple vs,_,hr=>by
  simp only [VRel] at hr ⊢
  obtain ⟨xs,e,hp⟩:=hr;exact ⟨xs,e,VRc.mono h vs xs hp⟩
theorem VRc.mono {E E':Gh} (h:Ext E E'):∀ (vs:List AV) (l:List Value),VRc E vs l→VRc E' vs l
 | [],_,hr=>by simpa only [VRc] using hr
 | v::vs,l,hr=>by
  simp only [VRc] at hr ⊢
  obtain ⟨x,xs,e,h1,h2⟩:=hr
  exact ⟨x,xs,e,VRel.mono h v x h1,VRc.mono h vs xs h2⟩
end
theorem VRel.cells {E:Gh} {v:AV} {x:Value} {t:Ty} (ht:A4 v t=true) (h:VRel E v x):VRl E v x.cells.toList:=by
 cases v <;> simp only [VRel,VRl] at h ⊢ <;> (try (cases t <;> simp [A4,AV.oneCell] at ht;done)) <;>
  (try (subst h;rfl))
 all_goals first
  | (obtain ⟨a,c,rfl,hp⟩:=h;exact ⟨a,c,rfl,hp⟩)
  | (obtain ⟨a,rfl,hp⟩:=h;exact ⟨a,rfl,hp⟩)
  | (obtain ⟨l,rfl,hp⟩:=h;simpa [Value.cells] using hp)
  | (subst h;simp [Value.cells])
mutual
theorem VRl.len {E:Gh}:∀ (v:AV) (t:Ty) (l:List Value),A4 v t=true→VRl E v l→l.length=t.size
 | .int k n,t,l,ht,h=>by
  simp only [VRl] at h;subst h
  cases t <;> simp [A4,AV.oneCell] at ht <;> simp [Ty.size]
 | .bool b,t,l,ht,h=>by
  simp only [VRl] at h;subst h
  cases t <;> simp [A4,AV.oneCell] at ht <;> simp [Ty.size]
 | .str b,t,l,ht,h=>by
  simp only [VRl] at h;subst h
  cases t <;> simp [A4,AV.oneCell] at ht <;> simp [Ty.size]
 | .nilptr,t,l,ht,h=>by
  simp only [VRl] at h;subst h
  cases t <;> simp [A4,AV.oneCell] at ht <;> simp [Ty.size]
 | .nilslice,t,l,ht,h=>by
  simp only [VRl] at h;subst h
  cases t <;> simp [A4,AV.oneCell] at ht <;> simp [Ty.size]
 | .nilmap,t,l,ht,h=>by
  simp only [VRl] at h;subst h
  cases t <;> simp [A4,AV.oneCell] at ht <;> simp [Ty.size]
 | .nilfn,t,l,ht,h=>by
  simp only [VRl] at h;subst h
  cases t <;> simp [A4,AV.oneCell] at ht <;> simp [Ty.size]
 | .ptr ..,t,l,ht,h=>by
  simp only [VRl] at h;obtain ⟨a,rfl,_⟩:=h
  cases t <;> simp [A4,AV.oneCell] at ht <;> simp [Ty.size]
 | .win ..,t,l,ht,h=>by cases t <;> simp [A4,AV.oneCell] at ht
 | .slice ..,t,l,ht,h=>by
  simp only [VRl] at h;obtain ⟨a,c,rfl,_⟩:=h
  cases t <;> simp [A4,AV.oneCell] at ht <;> simp [Ty.size]
 | .fn ..,t,l,ht,h=>by
  simp only [VRl] at h;obtain ⟨a,rfl,_⟩:=h
  cases t <;> simp [A4,AV.oneCell] at ht <;> simp [Ty.size]
 | .ints k xs,t,l,ht,h=>by
  simp only [VRl] at h;subst h
  cases t with
  | arr n u =>
   cases u <;> simp [A4] at ht
   simp [Ty.size,ht.2]
  | _ => simp [A4,AV.oneCell] at ht
 | .node vs,t,l,ht,h=>by
  simp only [VRl] at h
  cases t with
  | arr n u =>
   cases u with
   | int k=>simp [A4] at ht
   | _ =>
    simp [A4] at ht
    rw [VRs.lenAll vs _ l ht.2 h,ht.1];rfl
  | struct ts =>
   simp only [A4] at ht
   exact VRs.lens vs ts l ht h
  | _ => simp [A4,AV.oneCell] at ht
 | .junk,_,_,_,h=>by simp only [VRl] at h
 | .undef,_,_,_,h=>by simp only [VRl] at h
 | .map _,_,_,_,h=>by simp only [VRl] at h
 | .tuple _,_,_,_,h=>by simp only [VRl] at h
theorem VRs.lenAll {E:Gh}:∀ (vs:List AV) (t:Ty) (l:List Value),G7 vs t=true→VRs E vs l→l.length=vs.length * t.size
 | [],t,l,_,h=>by simp only [VRs] at h;subst h;simp
 | v::vs,t,l,ht,h=>by
  simp only [VRs] at h;obtain ⟨l1,l2,rfl,h1,h2⟩:=h
  simp only [G7,Bool.and_eq_true] at ht
  rw [List.length_append,VRl.len v t l1 ht.1 h1,VRs.lenAll vs t l2 ht.2 h2,List.length_cons,Nat.succ_mul];omega
theorem VRs.lens {E:Gh}:∀ (vs:List AV) (ts:List Ty) (l:List Value),C0 vs ts=true→VRs E vs l→l.length=(Ty.struct ts).size
 | [],[],l,_,h=>by simp only [VRs] at h;subst h;simp [Ty.size,Ty.sizes]
 | v::vs,t::ts,l,ht,h=>by
  simp only [VRs] at h;obtain ⟨l1,l2,rfl,h1,h2⟩:=h
  simp only [C0,Bool.and_eq_true] at ht
  have:=VRs.lens vs ts l2 ht.2 h2
  rw [List.length_append,VRl.len v t l1 ht.1 h1,this];simp [Ty.size,Ty.sizes]
 | [],_ :: _,_,ht,_ => by simp [C0] at ht
 | _ :: _,[],_,ht,_ => by simp [C0] at ht
end
end Go.Vab

namespace Go.Vab
open Go
theorem VRs.getAt {E : Gh} : ∀ (vs : List AV) (l : List Value) (j : Nat) (v : AV), VRs E vs l → vs[j]? = some v →
  ∃ pre mid post,l=pre++mid++post∧VRs E (vs.take j) pre∧VRl E v mid∧VRs E (vs.drop (j+1)) post
 | [],_,_,_,_,hv=>by simp at hv
 | w::vs,l,0,v,h,hv=>by
  simp at hv;subst hv
  simp only [VRs] at h;obtain ⟨l1,l2,rfl,h1,h2⟩:=h
  exact ⟨[],l1,l2,by simp,by simp [VRs],h1,by simpa using h2⟩
 | w::vs,l,j+1,v,h,hv=>by
  simp at hv
  simp only [VRs] at h;obtain ⟨l1,l2,rfl,h1,h2⟩:=h
  obtain ⟨pre,mid,post,rfl,ha,hb,hc⟩:=VRs.getAt vs l2 j v h2 hv
  exact ⟨l1++pre,mid,post,by simp,by simp only [List.take_succ_cons,VRs];exact ⟨l1,pre,rfl,h1,ha⟩,hb,by simpa using hc⟩
theorem VRs.app {E:Gh}:∀ (vs us:List AV) (l m:List Value),VRs E vs l→VRs E us m→VRs E (vs++us) (l++m)
 | [],us,l,m,h,h'=>by simp only [VRs] at h;subst h;simpa using h'
 | v::vs,us,l,m,h,h'=>by
  simp only [VRs] at h;obtain ⟨l1,l2,rfl,h1,h2⟩:=h
  simp only [List.cons_append,VRs]
  exact ⟨l1,l2++m,by simp,h1,VRs.app vs us l2 m h2 h'⟩
theorem VRs.cons {E:Gh} {v:AV} {vs:List AV} {l m:List Value} (h:VRl E v l) (h':VRs E vs m):VRs E (v::vs) (l++m):=by
 simp only [VRs];exact ⟨l,m,rfl,h,h'⟩
theorem VRs.split {E:Gh}:∀ (vs us:List AV) (l:List Value),VRs E (vs++us) l→∃ l1 l2,l=l1++l2∧VRs E vs l1∧VRs E us l2
 | [],us,l,h=>⟨[],l,rfl,by simp [VRs],by simpa using h⟩
 | v::vs,us,l,h=>by
  simp only [List.cons_append,VRs] at h;obtain ⟨l1,l2,rfl,h1,h2⟩:=h
  obtain ⟨m1,m2,rfl,ha,hb⟩:=VRs.split vs us l2 h2
  exact ⟨l1++m1,m2,by simp,VRs.cons h1 ha,hb⟩
theorem A1e {α:Type}:∀ (l:List α) (j:Nat) (x:α),j < l.length→l.set j x=l.take j++x::l.drop (j+1)
 | [],_,_,h=>by simp at h
 | a::l,0,x,_ => by simp
 | a::l,j+1,x,h=>by
  have:=A1e l j x (by simpa using h)
  simp [this]
theorem Q7:∀ (vs:List AV) (t:Ty),G7 vs t=true↔∀ v∈vs,A4 v t=true
 | [],t=>by simp [G7]
 | v::vs,t=>by simp [G7,Q7 vs t]
theorem A1h:∀ (vs:List AV) (ts:List Ty) (j:Nat) (v:AV),C0 vs ts=true→vs[j]?=some v→∃ t,ts[j]?=some t∧A4 v t=true
 | [],_,_,_,_,h=>by simp at h
 | _ :: _,[],_,_,h,_ => by simp [C0] at h
 | w::vs,t::ts,0,v,h,hv=>by
  simp at hv;subst hv;simp only [C0,Bool.and_eq_true] at h
  exact ⟨t,rfl,h.1⟩
 | w::vs,t::ts,j+1,v,h,hv=>by
  simp at hv;simp only [C0,Bool.and_eq_true] at h
  simpa using A1h vs ts j v h.2 hv
theorem D7T:∀ (vs:List AV) (ts:List Ty) (j:Nat) (v:AV) (t:Ty),C0 vs ts=true→ts[j]?=some t→A4 v t=true→C0 (vs.set j v) ts=true
 | [],[],_,_,_,_,h,_ => by simp at h
 | [],_ :: _,_,_,_,h,_,_ => by simp [C0] at h
 | _ :: _,[],_,_,_,h,_,_ => by simp [C0] at h
 | w::vs,t::ts,0,v,u,h,hu,hv=>by
  simp at hu;subst hu;simp only [C0,Bool.and_eq_true,List.set_cons_zero] at h ⊢
  exact ⟨hv,h.2⟩
 | w::vs,t::ts,j+1,v,u,h,hu,hv=>by
  simp at hu;simp only [C0,Bool.and_eq_true,List.set_cons_succ] at h ⊢
  exact ⟨h.1,D7T vs ts j v u h.2 hu hv⟩
theorem VRs.lenTake {E:Gh}:∀ (vs:List AV) (ts:List Ty) (j:Nat) (l:List Value),C0 vs ts=true→VRs E (vs.take j) l→l.length=Ty.sizes (ts.take j)
 | vs,ts,0,l,_,h=>by simp [VRs] at h;subst h;simp [Ty.sizes]
 | [],[],_ + 1,l,_,h=>by simp [VRs] at h;subst h;simp [Ty.sizes]
 | [],_ :: _,_ + 1,_,h,_ => by simp [C0] at h
 | _ :: _,[],_ + 1,_,h,_ => by simp [C0] at h
 | v::vs,t::ts,j+1,l,ht,h=>by
  simp only [C0,Bool.and_eq_true] at ht
  simp only [List.take_succ_cons,VRs] at h;obtain ⟨l1,l2,rfl,h1,h2⟩:=h
  rw [List.length_append,VRl.len v t l1 ht.1 h1,VRs.lenTake vs ts j l2 ht.2 h2]
  simp [Ty.sizes]
theorem W6 {vs:List AV} {n:Nat} {t:Ty} (h:A4 (.node vs) (.arr n t)=true):vs.length=n∧G7 vs t=true:=by
 cases t <;> simp [A4] at h <;> exact h
theorem U3 {k:IntKind} {xs:List Int} {n:Nat} {t:Ty} (h:A4 (.ints k xs) (.arr n t)=true):t=.int k∧xs.length=n:=by
 cases t <;> simp [A4] at h
 exact ⟨by rw [h.1],h.2⟩
theorem F3n {vs:List AV} {n:Nat} {t:Ty} {j:Nat} {v:AV} (h:A4 (.node vs) (.arr n t)=true) (hv:A4 v t=true):A4 (.node (vs.set j v)) (.arr n t)=true:=by
 obtain ⟨h1,h2⟩:=W6 h
 have h3:G7 (vs.set j v) t=true:=by
  rw [Q7] at h2 ⊢
  intro u hu
  rcases List.mem_or_eq_of_mem_set hu with h|h
  ·exact h2 u h
  ·rw [h];exact hv
 cases t with
 | int k=>simp [A4] at h
 | _ => simp [A4,h1,h3]
theorem A3G {E : Gh} : ∀ (path : List Nat) (v x : AV) (t : Ty), v.get path = some x → A4 v t = true → ∀ l, VRl E v l →
  ∀ o u,Ty.sub t path=some (o,u)→A4 x u=true∧∃ pre mid post,l=pre++mid++post∧pre.length=o∧VRl E x mid
 | [],v,x,t,hg,ht,l,hl,o,u,hs=>by
  have e:v=x:=by cases v <;> simpa [AV.get] using hg
  subst e
  have e2:o=0∧u=t:=by cases t <;> simp [Ty.sub] at hs <;> exact ⟨hs.1.symm,hs.2.symm⟩
  obtain ⟨rfl,rfl⟩:=e2
  exact ⟨ht,[],l,[],by simp,rfl,hl⟩
 | j::r,.node vs,x,.arr n t,hg,ht,l,hl,o,u,hs=>by
  simp only [AV.get] at hg
  simp only [Ty.sub] at hs
  obtain ⟨h1,h2⟩:=W6 ht
  cases hv:vs[j]? with
  | none=>rw [hv] at hg;cases hg
  | some w =>
   rw [hv] at hg
   cases hsub:Ty.sub t r with
   | none=>rw [hsub] at hs;cases hs
   | some p =>
    obtain ⟨o',u'⟩:=p
    rw [hsub] at hs;simp at hs;obtain ⟨rfl,rfl⟩:=hs
    simp only [VRl] at hl
    obtain ⟨pre,mid,post,rfl,ha,hb,hc⟩:=VRs.getAt vs l j w hl hv
    have hw:A4 w t=true:=(Q7 vs t).1 h2 w (List.mem_of_getElem? hv)
    obtain ⟨g1,p1,m1,q1,e1,e2,e3⟩:=A3G r w x t hg hw mid hb o' u' hsub
    have hj:j < vs.length:=(List.getElem?_eq_some_iff.1 hv).1
    have hpl:=VRs.lenAll (vs.take j) t pre (by rw [Q7] at h2 ⊢;intro v hv;exact h2 v (List.mem_of_mem_take hv)) ha
    rw [List.length_take,Nat.min_eq_left (Nat.le_of_lt hj)] at hpl
    exact ⟨g1,pre++p1,m1,q1++post,by rw [e1];simp,by rw [List.length_append,hpl,e2],e3⟩
 | j::r,.node vs,x,.struct ts,hg,ht,l,hl,o,u,hs=>by
  simp only [AV.get] at hg
  simp only [Ty.sub] at hs
  simp only [A4] at ht
  cases hv:vs[j]? with
  | none=>rw [hv] at hg;cases hg
  | some w =>
   rw [hv] at hg
   obtain ⟨t,htj,hw⟩:=A1h vs ts j w ht hv
   simp only [htj] at hs
   cases hsub:Ty.sub t r with
   | none=>rw [hsub] at hs;cases hs
   | some p =>
    obtain ⟨o',u'⟩:=p
    rw [hsub] at hs;simp at hs;obtain ⟨rfl,rfl⟩:=hs
    simp only [VRl] at hl
    obtain ⟨pre,mid,post,rfl,ha,hb,hc⟩:=VRs.getAt vs l j w hl hv
    obtain ⟨g1,p1,m1,q1,e1,e2,e3⟩:=A3G r w x t hg hw mid hb o' u' hsub
    have hpl:=VRs.lenTake vs ts j pre ht ha
    exact ⟨g1,pre++p1,m1,q1++post,by rw [e1];simp,by rw [List.length_append,hpl,e2],e3⟩
 | j::r,.ints k xs,x,.arr n t,hg,ht,l,hl,o,u,hs=>by
  obtain ⟨rfl,hn⟩:=U3 ht
  simp only [AV.get] at hg
  cases r with
  | cons a r=>simp at hg
  | nil =>
   cases hx:xs[j]? with
   | none=>rw [hx] at hg;cases hg
   | some y =>
    rw [hx] at hg;simp at hg;subst hg
    simp only [Ty.sub,Ty.size] at hs;simp at hs;obtain ⟨rfl,rfl⟩:=hs
    simp only [VRl] at hl;subst hl
    have hj:j < xs.length:=(List.getElem?_eq_some_iff.1 hx).1
    refine ⟨by simp [A4],(xs.take j).map (Value.int k),[.int k y],(xs.drop (j+1)).map (Value.int k),?_,by simp;omega,by simp [VRl]⟩
    have e:xs=xs.take j++y::xs.drop (j+1):=by
     have:=(List.getElem?_eq_some_iff.1 hx).2
     rw [←this,List.getElem_cons_drop];simp
    conv=>lhs;rw [e]
    simp
 | _ :: _,.ints k xs,_,.int _,_,ht,_,_,_,_,_ => by simp [A4] at ht
 | _ :: _,.ints k xs,_,.cell,_,ht,_,_,_,_,_ => by simp [A4,AV.oneCell] at ht
 | _ :: _,.ints k xs,_,.struct _,_,ht,_,_,_,_,_ => by simp [A4] at ht
 | _ :: _,.node vs,_,.int _,_,ht,_,_,_,_,_ => by simp [A4] at ht
 | _ :: _,.node vs,_,.cell,_,ht,_,_,_,_,_ => by simp [A4,AV.oneCell] at ht
 | _ :: _,.junk,_,_,hg,_,_,_,_,_,_ => by simp [AV.get] at hg
 | _ :: _,.undef,_,_,hg,_,_,_,_,_,_ => by simp [AV.get] at hg
 | _ :: _,.bool _,_,_,hg,_,_,_,_,_,_ => by simp [AV.get] at hg
 | _ :: _,.int _ _,_,_,hg,_,_,_,_,_,_ => by simp [AV.get] at hg
 | _ :: _,.str _,_,_,hg,_,_,_,_,_,_ => by simp [AV.get] at hg
 | _ :: _,.nilptr,_,_,hg,_,_,_,_,_,_ => by simp [AV.get] at hg
 | _ :: _,.ptr ..,_,_,hg,_,_,_,_,_,_ => by simp [AV.get] at hg
 | _ :: _,.win ..,_,_,hg,_,_,_,_,_,_ => by simp [AV.get] at hg
 | _ :: _,.nilslice,_,_,hg,_,_,_,_,_,_ => by simp [AV.get] at hg
 | _ :: _,.slice ..,_,_,hg,_,_,_,_,_,_ => by simp [AV.get] at hg
 | _ :: _,.nilmap,_,_,hg,_,_,_,_,_,_ => by simp [AV.get] at hg
 | _ :: _,.map _,_,_,hg,_,_,_,_,_,_ => by simp [AV.get] at hg
 | _ :: _,.nilfn,_,_,hg,_,_,_,_,_,_ => by simp [AV.get] at hg
 | _ :: _,.fn ..,_,_,hg,_,_,_,_,_,_ => by simp [AV.get] at hg
 | _ :: _,.tuple _,_,_,hg,_,_,_,_,_,_ => by simp [AV.get] at hg
theorem VRl.unique_len {E:Gh} {x y:AV} {u:Ty} {m m':List Value} (hx:A4 x u=true) (hy:A4 y u=true) (h:VRl E x m) (h':VRl E y m'):m'.length=m.length:=by
 rw [VRl.len x u m hx h,VRl.len y u m' hy h']
theorem A3H {E : Gh} : ∀ (path : List Nat) (v v' x : AV) (t : Ty), v.put path x = some v' → A4 v t = true → ∀ l, VRl E v l →
  ∀ o u,Ty.sub t path=some (o,u)→A4 x u=true→∀ m,VRl E x m →
  A4 v' t=true∧∃ pre mid post,l=pre++mid++post∧pre.length=o∧mid.length=m.length∧VRl E v' (pre++m++post)
 | [],v,v',x,t,hg,ht,l,hl,o,u,hs,hx,m,hm=>by
  have e:x=v':=by cases v <;> simpa [AV.put] using hg
  subst e
  have e2:o=0∧u=t:=by cases t <;> simp [Ty.sub] at hs <;> exact ⟨hs.1.symm,hs.2.symm⟩
  obtain ⟨rfl,rfl⟩:=e2
  exact ⟨hx,[],l,[],by simp,rfl,VRl.unique_len hx ht hm hl,by simpa using hm⟩
 | j::r,.node vs,v',x,.arr n t,hg,ht,l,hl,o,u,hs,hx,m,hm=>by
  simp only [AV.put] at hg
  simp only [Ty.sub] at hs
  obtain ⟨h1,h2⟩:=W6 ht
  cases hv:vs[j]? with
  | none=>rw [hv] at hg;cases hg
  | some w =>
   rw [hv] at hg
   simp only [Option.map_eq_some_iff] at hg
   obtain ⟨w',hg,rfl⟩:=hg
   cases hsub:Ty.sub t r with
   | none=>rw [hsub] at hs;cases hs
   | some p =>
    obtain ⟨o',u'⟩:=p
    rw [hsub] at hs;simp at hs;obtain ⟨rfl,rfl⟩:=hs
    simp only [VRl] at hl
    obtain ⟨pre,mid,post,rfl,ha,hb,hc⟩:=VRs.getAt vs l j w hl hv
    have hw:A4 w t=true:=(Q7 vs t).1 h2 w (List.mem_of_getElem? hv)
    obtain ⟨g1,p1,m1,q1,e1,e2,e3,e4⟩:=A3H r w w' x t hg hw mid hb o' u' hsub hx m hm
    have hj:j < vs.length:=(List.getElem?_eq_some_iff.1 hv).1
    have hpl:=VRs.lenAll (vs.take j) t pre (by rw [Q7] at h2 ⊢;intro v hv;exact h2 v (List.mem_of_mem_take hv)) ha
    rw [List.length_take,Nat.min_eq_left (Nat.le_of_lt hj)] at hpl
    refine ⟨F3n ht g1,pre++p1,m1,q1++post,by rw [e1];simp,by rw [List.length_append,hpl,e2],e3,?_⟩
    simp only [VRl]
    rw [A1e vs j w' hj]
    have:=VRs.app _ _ _ _ ha (VRs.cons e4 hc)
    simpa [List.append_assoc] using this
 | j::r,.node vs,v',x,.struct ts,hg,ht,l,hl,o,u,hs,hx,m,hm=>by
  simp only [AV.put] at hg
  simp only [Ty.sub] at hs
  simp only [A4] at ht
  cases hv:vs[j]? with
  | none=>rw [hv] at hg;cases hg
  | some w =>
   rw [hv] at hg
   simp only [Option.map_eq_some_iff] at hg
   obtain ⟨w',hg,rfl⟩:=hg
   obtain ⟨t,htj,hw⟩:=A1h vs ts j w ht hv
   simp only [htj] at hs
   cases hsub:Ty.sub t r with
   | none=>rw [hsub] at hs;cases hs
   | some p =>
    obtain ⟨o',u'⟩:=p
    rw [hsub] at hs;simp at hs;obtain ⟨rfl,rfl⟩:=hs
    simp only [VRl] at hl
    obtain ⟨pre,mid,post,rfl,ha,hb,hc⟩:=VRs.getAt vs l j w hl hv
    obtain ⟨g1,p1,m1,q1,e1,e2,e3,e4⟩:=A3H r w w' x t hg hw mid hb o' u' hsub hx m hm
    have hj:j < vs.length:=(List.getElem?_eq_some_iff.1 hv).1
    have hpl:=VRs.lenTake vs ts j pre ht ha
    refine ⟨by simp only [A4];exact D7T vs ts j w' t ht htj g1,pre++p1,m1,q1++post,by rw [e1];simp,by rw [List.length_append,hpl,e2],e3,?_⟩
    simp only [VRl]
    rw [A1e vs j w' hj]
    have:=VRs.app _ _ _ _ ha (VRs.cons e4 hc)
    simpa [List.append_assoc] using this
 | j::r,.ints k xs,v',x,.arr n t,hg,ht,l,hl,o,u,hs,hx,m,hm=>by
  obtain ⟨rfl,hn⟩:=U3 ht
  simp only [AV.put] at hg
  cases r with
  | cons a r=>simp at hg
  | nil =>
   cases x with
   | int k' y =>
    simp at hg
    obtain ⟨⟨rfl,hj⟩,rfl⟩:=hg
    simp only [Ty.sub,Ty.size] at hs;simp at hs;obtain ⟨rfl,rfl⟩:=hs
    simp only [VRl] at hl hm;subst hl;subst hm
    refine ⟨by simp [A4,hn],(xs.take j).map (Value.int k),[.int k xs[j]],(xs.drop (j+1)).map (Value.int k),?_,by simp;omega,rfl,?_⟩
    ·have e:xs=xs.take j++xs[j]::xs.drop (j+1):=by rw [List.getElem_cons_drop];simp
     conv=>lhs;rw [e]
     simp only [List.map_append,List.map_cons,List.append_assoc,List.singleton_append]
    ·simp only [VRl]
     rw [A1e xs j y hj];simp
   | _ => simp at hg
 | _ :: _,.ints k xs,_,_,.int _,_,ht,_,_,_,_,_,_,_,_ => by simp [A4] at ht
 | _ :: _,.ints k xs,_,_,.cell,_,ht,_,_,_,_,_,_,_,_ => by simp [A4,AV.oneCell] at ht
 | _ :: _,.ints k xs,_,_,.struct _,_,ht,_,_,_,_,_,_,_,_ => by simp [A4] at ht
 | _ :: _,.node vs,_,_,.int _,_,ht,_,_,_,_,_,_,_,_ => by simp [A4] at ht
 | _ :: _,.node vs,_,_,.cell,_,ht,_,_,_,_,_,_,_,_ => by simp [A4,AV.oneCell] at ht
 | _ :: _,.junk,_,_,_,hg,_,_,_,_,_,_,_,_,_ => by simp [AV.put] at hg
 | _ :: _,.undef,_,_,_,hg,_,_,_,_,_,_,_,_,_ => by simp [AV.put] at hg
 | _ :: _,.bool _,_,_,_,hg,_,_,_,_,_,_,_,_,_ => by simp [AV.put] at hg
 | _ :: _,.int _ _,_,_,_,hg,_,_,_,_,_,_,_,_,_ => by simp [AV.put] at hg
 | _ :: _,.str _,_,_,_,hg,_,_,_,_,_,_,_,_,_ => by simp [AV.put] at hg
 | _ :: _,.nilptr,_,_,_,hg,_,_,_,_,_,_,_,_,_ => by simp [AV.put] at hg
 | _ :: _,.ptr ..,_,_,_,hg,_,_,_,_,_,_,_,_,_ => by simp [AV.put] at hg
 | _ :: _,.win ..,_,_,_,hg,_,_,_,_,_,_,_,_,_ => by simp [AV.put] at hg
 | _ :: _,.nilslice,_,_,_,hg,_,_,_,_,_,_,_,_,_ => by simp [AV.put] at hg
 | _ :: _,.slice ..,_,_,_,hg,_,_,_,_,_,_,_,_,_ => by simp [AV.put] at hg
 | _ :: _,.nilmap,_,_,_,hg,_,_,_,_,_,_,_,_,_ => by simp [AV.put] at hg
 | _ :: _,.map _,_,_,_,hg,_,_,_,_,_,_,_,_,_ => by simp [AV.put] at hg
 | _ :: _,.nilfn,_,_,_,hg,_,_,_,_,_,_,_,_,_ => by simp [AV.put] at hg
 | _ :: _,.fn ..,_,_,_,hg,_,_,_,_,_,_,_,_,_ => by simp [AV.put] at hg
 | _ :: _,.tuple _,_,_,_,hg,_,_,_,_,_,_,_,_,_ => by simp [AV.put] at hg
end Go.Vab

namespace Go.Vab
open Go
theorem T3 (b o n:Nat):(⟨b,o,none⟩:Addr).add n=⟨b,o+n,none⟩:=by unfold Addr.add;split <;> simp_all
def G8 (E:Gh) (i:Nat) (b:Blk):Prop:=¬ (b.mode=.open∧E.room i=0)
def Own (E:Gh) (i:Nat) (b:Blk):Prop:=b.mode≠.ro∧G8 E i b
def O1 (E:Gh) (i:Nat) (v:AV):Prop:=if E.many i=true then ∃ n t,E.ty i=.arr 0 t∧A4 v (.arr n t)=true else A4 v (E.ty i)=true
def P5 (xs:List Int):Value:=.agg (xs.map (Value.int .u8)).toArray
def y9 (xs:List Int):Bool:=decide (xs.length=32)&&xs.all fun x=>decide (0≤x∧x < 256)
def MapAt (E:Gh) (w:World) (i:Nat) (v:AV):Prop :=
 ∃ (ks:List (List Int)) (es:Array MapEntry) (clock:Nat),v=.node (ks.map (AV.ints .u8))∧w.heap[E.blk i]?=some (.map es clock)∧(∀ k∈ks,y9 k=true) ∧
  es.toList.map (fun e=>(e.key,e.val))=ks.map (fun k=>(P5 k,Value.int .i64 1))∧E.ty i=.arr 0 (.arr 32 (.int .u8))∧E.many i=true
structure BlkAt (E:Gh) (w:World) (i:Nat) (b:Blk):Prop where
 ver:b.ver=E.ver i
 fits:O1 E i b.v
 mp:b.mode=.mp→MapAt E w i b.v
 body:b.mode≠.mp→∃ l,VRl E b.v l ∧
  (G8 E i b→∃ arr te fr pre post,w.heap[E.blk i]?=some (.cells arr te fr)∧arr.toList=pre++l++post∧pre.length=E.base i ∧
   (b.mode≠.ro→E.base i=0∧E.room i=arr.size∧∀ o,o < arr.size→¬ (fr.1≤o∧o < fr.2))) ∧
  (¬ G8 E i b→l=[])
 grow:b.mode=.open→E.many i=true∧b.v.rowLen=some b.ver
theorem A0W {E:Gh} {i:Nat} {b:Blk} (hm:b.mode=.mp):G8 E i b:=fun h=>by rw [hm] at h;exact absurd h.1 (by decide)
theorem MapAt.same {E:Gh} {w w':World} {i:Nat} {v:AV} (h:MapAt E w i v) (e:w'.heap[E.blk i]?=w.heap[E.blk i]?):MapAt E w' i v:=by
 obtain ⟨ks,es,clock,h1,h2,h3⟩:=h
 exact ⟨ks,es,clock,h1,e.trans h2,h3⟩
theorem MapAt.ghost {E E':Gh} {w w':World} {i:Nat} {v:AV} (h:MapAt E w i v) (e:w'.heap[E'.blk i]?=w.heap[E.blk i]?) (ht:E'.ty i=E.ty i) (hm:E'.many i=E.many i):MapAt E' w' i v:=by
 obtain ⟨ks,es,clock,h1,h2,h3,h4,h5,h6⟩:=h
 exact ⟨ks,es,clock,h1,e.trans h2,h3,h4,ht.trans h5,hm.trans h6⟩
structure RelHeap (E:Gh) (h:A3) (w:World):Prop where
 n:E.n=h.length
 at_:∀ i b,h[i]?=some b→BlkAt E w i b
 inj:∀ i j b c,h[i]?=some b→h[j]?=some c→G8 E i b→Own E j c→E.blk i=E.blk j→i=j
def A1S (E:Gh) (h:A3) (x:Nat):Prop:=∃ i c,h[i]?=some c∧Own E i c∧E.blk i=x
structure Io (w w':World):Prop where
 os:w'.os=w.os
 tape:w'.tape=w.tape
 output:w'.output=w.output
theorem Io.refl (w:World):Io w w:=⟨rfl,rfl,rfl⟩
theorem Io.trans {a b c:World} (h:Io a b) (h':Io b c):Io a c:=⟨h'.os.trans h.os,h'.tape.trans h.tape,h'.output.trans h.output⟩
structure Moves (E:Gh) (h:A3) (w:World) (E':Gh) (h':A3) (w':World):Prop where
 ext:Ext E E'
 rel:RelHeap E' h' w'
 size:w.heap.size≤w'.heap.size
 keep:∀ x,x < w.heap.size→¬ A1S E h x→w'.heap[x]?=w.heap[x]?
 img:∀ x,A1S E' h' x→A1S E h x∨w.heap.size≤x
 io:Io w w'
theorem Moves.refl {E h w} (R:RelHeap E h w):Moves E h w E h w :=
 ⟨Ext.refl E,R,Nat.le_refl _,fun _ _ _ => rfl,fun _ hx=>.inl hx,Io.refl w⟩
theorem Moves.trans {E h w E' h' w' E'' h'' w''} (m:Moves E h w E' h' w') (m':Moves E' h' w' E'' h'' w''):Moves E h w E'' h'' w'' where
 ext:=m.ext.trans m'.ext
 rel:=m'.rel
 size:=Nat.le_trans m.size m'.size
 keep x hx hn:=by
  rw [m'.keep x (Nat.lt_of_lt_of_le hx m.size) ?_,m.keep x hx hn]
  intro hx'
  rcases m.img x hx' with h|h
  ·exact hn h
  ·omega
 img x hx:=by
  rcases m'.img x hx with h|h
  ·exact m.img x h
  ·exact .inr (Nat.le_trans m.size h)
 io:=m.io.trans m'.io
theorem Q8 {h:A3} {i ver:Nat} {b:Blk} (hb:blkAt h i ver=some b):h[i]?=some b∧b.ver=ver:=by
 unfold blkAt at hb
 split at hb
 ·split at hb
  ·rename_i h1;simp at hb;subst hb;exact ⟨by assumption,h1.1⟩
  ·cases hb
 ·cases hb
theorem d8 {h:A3} {i ver:Nat} {b:Blk} (hb:blkAt h i ver=some b):b.mode≠.mp:=by
 unfold blkAt at hb
 split at hb
 ·split at hb
  ·rename_i h1;simp at hb;subst hb;exact h1.2
  ·cases hb
 ·cases hb
theorem j9 {v:AV} {n:Nat} {t:Ty} (h:A4 v (.arr n t)=true):v.rowLen=some n:=by
 cases v with
 | ints k xs=>simp [AV.rowLen,(U3 h).2]
 | node vs=>simp [AV.rowLen,(W6 h).1]
 | _ => simp [A4] at h
theorem B6y {E : Gh} {i : Nat} {v : AV} (hf : O1 E i v) (path : List Nat) (hm : E.many i = true → path ≠ []) :
  ∃ T,A4 v T=true∧Ty.sub T path=Ty.sub (E.ty i) path∧∀ v',A4 v' T=true→O1 E i v'∧(E.many i=true→v'.rowLen=v.rowLen):=by
 unfold O1 at hf
 split at hf
 ·rename_i he
  obtain ⟨n,t,e,ht⟩:=hf
  refine ⟨.arr n t,ht,?_,fun v' hv'=>⟨by unfold O1;rw [if_pos he];exact ⟨n,t,e,hv'⟩,fun _ => by rw [j9 hv',j9 ht]⟩⟩
  rw [e]
  cases path with
  | nil=>exact absurd rfl (hm he)
  | cons j r=>rfl
 ·rename_i he
  exact ⟨_,hf,rfl,fun v' hv'=>⟨by unfold O1;rw [if_neg he];exact hv',fun h=>absurd h he⟩⟩
mutual
theorem VRl.one {E:Gh}:∀ (v:AV) (l:List Value),VRl E v l→∀ x∈l,x.oneCell'=true
 | .bool _,l,h=>by simp only [VRl] at h;subst h;simp [Value.oneCell']
 | .int _ _,l,h=>by simp only [VRl] at h;subst h;simp [Value.oneCell']
 | .str _,l,h=>by simp only [VRl] at h;subst h;simp [Value.oneCell']
 | .nilptr,l,h=>by simp only [VRl] at h;subst h;simp [Value.oneCell']
 | .ptr ..,l,h=>by simp only [VRl] at h;obtain ⟨a,rfl,_⟩:=h;simp [Value.oneCell']
 | .win ..,l,h=>by simp only [VRl] at h;obtain ⟨a,rfl,_⟩:=h;simp [Value.oneCell']
 | .nilslice,l,h=>by simp only [VRl] at h;subst h;simp [Value.oneCell']
 | .slice ..,l,h=>by simp only [VRl] at h;obtain ⟨a,c,rfl,_⟩:=h;simp [Value.oneCell']
 | .nilmap,l,h=>by simp only [VRl] at h;subst h;simp [Value.oneCell']
 | .nilfn,l,h=>by simp only [VRl] at h;subst h;simp [Value.oneCell']
 | .fn ..,l,h=>by simp only [VRl] at h;obtain ⟨a,rfl,_⟩:=h;simp [Value.oneCell']
 | .ints k xs,l,h=>by
  simp only [VRl] at h;subst h
  intro x hx
  obtain ⟨y,_,rfl⟩:=List.mem_map.1 hx
  rfl
 | .node vs,l,h=>by simp only [VRl] at h;exact VRs.one vs l h
 | .junk,_,h=>by simp only [VRl] at h
 | .undef,_,h=>by simp only [VRl] at h
 | .map _,_,h=>by simp only [VRl] at h
 | .tuple _,_,h=>by simp only [VRl] at h
theorem VRs.one {E:Gh}:∀ (vs:List AV) (l:List Value),VRs E vs l→∀ x∈l,x.oneCell'=true
 | [],l,h=>by simp only [VRs] at h;subst h;simp
 | v::vs,l,h=>by
  simp only [VRs] at h;obtain ⟨l1,l2,rfl,h1,h2⟩:=h
  intro x hx
  rcases List.mem_append.1 hx with hx|hx
  ·exact VRl.one v l1 h1 x hx
  ·exact VRs.one vs l2 h2 x hx
end
theorem D7U {E : Gh} {h : A3} {w : World} (R : RelHeap E h w) {i ver : Nat} {path : List Nat} {t : Ty} {a : Addr} (hp : PtrAt E i ver path t a)
  {b:Blk} {v:AV} (hb:blkAt h i ver=some b) (hg:b.v.get path=some v) :
  A4 v t=true∧∃ l,VRl E v l∧∀ k x,l[k]?=some x→w.cell? (a.add k)=some x:=by
 obtain ⟨hi,hv⟩:=Q8 hb
 have B:=R.at_ i b hi
 obtain ⟨_,_,hm,ho⟩:=hp
 obtain ⟨o,hs,rfl⟩:=ho (by rw [←hv,B.ver])
 obtain ⟨T,hT,hsub,_⟩:=B6y B.fits path hm
 obtain ⟨l,hl,hpl,hnp⟩:=B.body (d8 hb)
 obtain ⟨g1,pre,mid,post,rfl,e2,e3⟩:=A3G path b.v v T hg hT l hl o t (hsub.trans hs)
 refine ⟨g1,mid,e3,fun k x hk=>?_⟩
 by_cases hP:G8 E i b
 ·obtain ⟨arr,te,fr,pre',post',ha,hlist,hbase,_⟩:=hpl hP
  have hkl:k < mid.length:=(List.getElem?_eq_some_iff.1 hk).1
  rw [T3]
  simp only [World.cell?,ha,Option.isSome_none,Bool.false_eq_true,if_false]
  rw [←Array.getElem?_toList,hlist,←hbase,←e2]
  rw [show pre'++(pre++mid++post)++post'=(pre'++pre)++(mid++(post++post')) by simp,←List.length_append,List.getElem?_append_right (by omega),Nat.add_sub_cancel_left,
   List.getElem?_append_left hkl,hk]
 ·have hz:=hnp hP
  have hm0:mid=[]:=(List.append_eq_nil_iff.1 (List.append_eq_nil_iff.1 hz).1).2
  rw [hm0] at hk
  simp at hk
theorem A4Y {P : Program} (te : TypeId) (fr : Nat × Nat) (b o : Nat) : ∀ (m : List Value) (w : World) (i : Nat) (arr : Array Value), w.heap[b]? = some (.cells arr te fr) →
  (∀ v∈m,v.oneCell'=true)→o+i+m.length≤arr.size→(∀ k,k < arr.size→¬ (fr.1≤k∧k < fr.2)) →
  ∃ w' arr',(storeCells ⟨b,o,none⟩ m i).run P w=.ok () w'∧Io w w'∧w'.heap.size=w.heap.size∧(∀ k,k≠b→w'.heap[k]?=w.heap[k]?)∧w'.heap[b]?=some (.cells arr' te fr) ∧
   arr'.size=arr.size∧arr'.toList=arr.toList.take (o+i)++m++arr.toList.drop (o+i+m.length)
 | [],w,i,arr,hb,_,_,_ => ⟨w,arr,by simp [storeCells],Io.refl w,rfl,fun _ _ => rfl,hb,rfl,by simp⟩
 | v::m,w,i,arr,hb,hone,hlen,hfr=>by
  simp only [List.length_cons] at hlen
  have hlt:o+i < arr.size:=by omega
  have hcell:w.cell? ⟨b,o+i,none⟩=some arr[o+i]:=by
   simp [World.cell?,hb,hlt]
  have hf:w.frozen? ⟨b,o+i,none⟩=false:=by
   have:=hfr (o+i) hlt
   simp only [World.frozen?,hb]
   simp only [Bool.and_eq_false_iff,decide_eq_false_iff_not]
   by_cases h1:fr.1≤o+i
   ·exact .inr (fun h2=>this ⟨h1,h2⟩)
   ·exact .inl h1
  have hbl:b < w.heap.size:=by
   by_cases h:b < w.heap.size
   ·exact h
   ·rw [Array.getElem?_eq_none (by omega)] at hb;cases hb
  have hset:(w.setCell ⟨b,o+i,none⟩ v).heap[b]?=some (.cells (arr.setIfInBounds (o+i) v) te fr):=by
   simp [World.setCell,Array.getElem?_modify,hb]
  obtain ⟨w',arr',h1,hio,h2,h3,h4,h5,h6⟩:=A4Y te fr b o m (w.setCell ⟨b,o+i,none⟩ v) (i+1) (arr.setIfInBounds (o+i) v) hset
   (fun x hx=>hone x (List.mem_cons_of_mem _ hx)) (by simp;omega) (by simpa using hfr)
  refine ⟨w',arr',?_,Io.trans (b:=w.setCell ⟨b,o+i,none⟩ v) ⟨rfl,rfl,rfl⟩ hio,by rw [h2];simp,fun k hk=>?_,h4,by rw [h5];simp,?_⟩
  ·simp only [storeCells,Sem.run_bind,T3]
   rw [run_store P w _ v _ (hone v (List.mem_cons_self ..)),hcell]
   simp only [hf,Bool.false_eq_true,if_false,Result.andThen_ok]
   exact h1
  ·rw [h3 k hk]
   simp only [World.setCell,Array.getElem?_modify]
   rw [if_neg (fun e=>hk e.symm)]
  ·rw [h6]
   have hl:o+i < arr.toList.length:=by simpa using hlt
   rw [Array.toList_setIfInBounds,A1e _ _ _ hl]
   have e1:(List.take (o+i) arr.toList).length=o+i:=by simp;omega
   have e2:o+(i+1)=(o+i)+1:=by omega
   rw [e2,List.length_cons]
   generalize hA:List.take (o+i) arr.toList=A at *
   generalize hD:List.drop (o+i+1) arr.toList=D at *
   rw [show A++v::D=(A++[v])++D by simp]
   have e3:(A++[v]).length=o+i+1:=by simp [e1]
   rw [←e3,List.take_left']
   ·rw [show (A++[v]).length+m.length=(A++[v]).length+m.length from rfl,List.drop_append,e3]
    have:List.drop (o+i+1+m.length) (A++[v])=[]:=List.drop_eq_nil_of_le (by rw [e3];omega)
    rw [this,←hD,List.drop_drop]
    simp only [List.nil_append,List.append_assoc,List.cons_append]
    congr 4
    omega
   ·rfl
theorem A28 {E : Gh} {h : A3} {w w' : World} (R : RelHeap E h w) {i : Nat} {b : Blk} (hi : h[i]? = some b) (v' : AV) (hmode : b.mode ≠ .ro) (hmp : b.mode ≠ .mp)
  (hfits:O1 E i v') (hrow:b.mode=.open→v'.rowLen=some b.ver) {l':List Value} (hl:VRl E v' l')
  (hbody:(G8 E i b→∃ arr te fr post,w'.heap[E.blk i]?=some (.cells arr te fr)∧arr.toList=l'++post∧E.base i=0∧E.room i=arr.size∧∀ o,o < arr.size→¬ (fr.1≤o∧o < fr.2))∧(¬ G8 E i b→l'=[]))
  (hsize:w'.heap.size=w.heap.size) (hoth:∀ k,(G8 E i b→k≠E.blk i)→w'.heap[k]?=w.heap[k]?) (hio:Io w w') :
  Moves E h w E (h.set i { b with v:=v' }) w':=by
 have hil:i < h.length:=(List.getElem?_eq_some_iff.1 hi).1
 have hget:∀ (j:Nat) (c:Blk),(h.set i { b with v:=v' })[j]?=some c→(j=i∧c={ b with v:=v' })∨(j≠i∧h[j]?=some c):=by
  intro j c hj
  by_cases e:j=i
  ·subst e;rw [List.getElem?_set_self hil] at hj;simp at hj;exact .inl ⟨rfl,hj.symm⟩
  ·rw [List.getElem?_set_ne (fun x=>e x.symm)] at hj;exact .inr ⟨e,hj⟩
 have hback:∀ (j:Nat) (c:Blk),(h.set i { b with v:=v' })[j]?=some c→∃ c':Blk,h[j]?=some c'∧c'.mode=c.mode:=by
  intro j c hj
  rcases hget j c hj with ⟨rfl,rfl⟩|⟨_,hj⟩
  ·exact ⟨b,hi,rfl⟩
  ·exact ⟨c,hj,rfl⟩
 have hown:∀ x,A1S E (h.set i { b with v:=v' }) x→A1S E h x:=by
  rintro x ⟨j,c,hj,⟨ho,hp⟩,hx⟩
  obtain ⟨c',hc',hm⟩:=hback j c hj
  exact ⟨j,c',hc',⟨by rw [hm];exact ho,by unfold G8 at *;rw [hm];exact hp⟩,hx⟩
 refine ⟨Ext.refl E,⟨by rw [List.length_set];exact R.n,fun j c hj=>?_,fun j k c d hj hk hP hO e=>?_⟩,by omega,fun x hx hn=>hoth x (fun hP e=>hn ⟨i,b,hi,⟨hmode,hP⟩,e.symm⟩),fun x hx=>.inl (hown x hx),hio⟩
 ·rcases hget j c hj with ⟨rfl,rfl⟩|⟨hne,hj⟩
  ·refine ⟨(R.at_ j b hi).ver,hfits,fun hm=>absurd hm hmp,fun _ => ⟨l',hl,fun hP=>?_,fun hP=>hbody.2 hP⟩,fun hm=>⟨((R.at_ j b hi).grow hm).1,hrow hm⟩⟩
   obtain ⟨arr,te,fr,post,h1,h2,h3,h4,h5⟩:=hbody.1 hP
   exact ⟨arr,te,fr,[],post,h1,by simpa using h2,by simp [h3],fun _ => ⟨h3,h4,h5⟩⟩
  ·have B:=R.at_ j c hj
   have hsame:G8 E j c→w'.heap[E.blk j]?=w.heap[E.blk j]?:=fun hP=>hoth (E.blk j) (fun hPi e=>hne (R.inj j i c b hj hi hP ⟨hmode,hPi⟩ e))
   refine ⟨B.ver,B.fits,fun hm=>(B.mp hm).same (hsame (A0W hm)),fun hm=>?_,B.grow⟩
   obtain ⟨l,hl1,hl2,hl3⟩:=B.body hm
   refine ⟨l,hl1,fun hP=>?_,hl3⟩
   obtain ⟨arr,te,fr,pre,post,h1,h2⟩:=hl2 hP
   refine ⟨arr,te,fr,pre,post,?_,h2⟩
   rw [hsame hP];exact h1
 ·obtain ⟨c',hc',hm⟩:=hback j c hj
  obtain ⟨d',hd',hn⟩:=hback k d hk
  exact R.inj j k c' d' hc' hd' (by unfold G8 at *;rw [hm];exact hP) ⟨by rw [hn];exact hO.1,by have:=hO.2;unfold G8 at *;rw [hn];exact this⟩ e
theorem F5z {P : Program} {E : Gh} {h : A3} {w : World} (R : RelHeap E h w) {i ver : Nat} {path : List Nat} {t : Ty} {a : Addr} (hp : PtrAt E i ver path t a)
  {b:Blk} {v' x:AV} (hb:blkAt h i ver=some b) (hmode:b.mode≠.ro) (hput:b.v.put path x=some v') (hx:A4 x t=true) {m:List Value} (hxm:VRl E x m) :
  ∃ w',(storeCells a m).run P w=.ok () w'∧Moves E h w E (h.set i { b with v:=v' }) w':=by
 obtain ⟨hi,hv⟩:=Q8 hb
 have B:=R.at_ i b hi
 obtain ⟨_,_,hm,ho⟩:=hp
 obtain ⟨o,hs,rfl⟩:=ho (by rw [←hv,B.ver])
 obtain ⟨T,hT,hsub,hback⟩:=B6y B.fits path hm
 obtain ⟨l,hl,hpl,hnp⟩:=B.body (d8 hb)
 obtain ⟨g1,pre,mid,post,rfl,e2,e3,e4⟩:=A3H path b.v v' x T hput hT l hl o t (hsub.trans hs) hx m hxm
 obtain ⟨hf',hr'⟩:=hback v' g1
 have hrow:b.mode=.open→v'.rowLen=some b.ver:=fun hM=>by
  obtain ⟨h1,h2⟩:=B.grow hM
  rw [hr' h1,h2]
 by_cases hP:G8 E i b
 ·obtain ⟨arr,te,fr,pre',post',ha,hlist,hbase,hrest⟩:=hpl hP
  obtain ⟨hb0,hroom,hfr⟩:=hrest hmode
  have hpre:pre'=[]:=List.eq_nil_of_length_eq_zero (by omega)
  subst hpre
  have hsz:arr.size=pre.length+mid.length+post.length+post'.length:=by
   rw [←Array.length_toList,hlist];simp;omega
  obtain ⟨w',arr',r1,rio,r2,r3,r4,r5,r6⟩:=A4Y (P:=P) te fr (E.blk i) (E.base i+o) m w 0 arr ha (VRl.one x m hxm) (by omega) hfr
  refine ⟨w',r1,A28 R hi v' hmode (d8 hb) hf' hrow e4 ⟨fun _ => ⟨arr',te,fr,post',r4,?_,hb0,by rw [r5];exact hroom,by rw [r5];exact hfr⟩,fun hn=>absurd hP hn⟩ r2 (fun k hk=>r3 k (hk hP)) rio⟩
  rw [r6,hlist,hb0,←e2]
  simp only [Nat.zero_add,Nat.add_zero,List.nil_append]
  rw [show pre++mid++post++post'=pre++(mid++(post++post')) by simp,List.take_left',←e3,List.drop_append]
  ·simp only [List.append_assoc,List.append_cancel_left_eq]
   rw [show pre.length+mid.length - pre.length=mid.length by omega,List.drop_left']
   ·have:List.drop (pre.length+mid.length) pre=[]:=List.drop_eq_nil_of_le (by omega)
    rw [this];rfl
   ·rfl
  ·rfl
 ·have hz:=hnp hP
  have hpz:pre=[]∧mid=[]∧post=[]:=⟨(List.append_eq_nil_iff.1 (List.append_eq_nil_iff.1 hz).1).1,(List.append_eq_nil_iff.1 (List.append_eq_nil_iff.1 hz).1).2,(List.append_eq_nil_iff.1 hz).2⟩
  obtain ⟨rfl,rfl,rfl⟩:=hpz
  have hm0:m=[]:=List.eq_nil_of_length_eq_zero (by simpa using e3.symm)
  subst hm0
  exact ⟨w,by simp [storeCells],A28 R hi v' hmode (d8 hb) hf' hrow e4 ⟨fun h=>absurd h hP,fun _ => by simp⟩ rfl (fun k _ => rfl) (Io.refl w)⟩
theorem a8 {E:Gh} {h:A3} {w:World} (R:RelHeap E h w) {i:Nat} {b:Blk} (hi:h[i]?=some b) (hP:G8 E i b):E.blk i < w.heap.size:=by
 have:∃ o,w.heap[E.blk i]?=some o:=by
  by_cases hm:b.mode=.mp
  ·obtain ⟨ks,es,clock,_,h2,_⟩:=(R.at_ i b hi).mp hm
   exact ⟨_,h2⟩
  ·obtain ⟨l,_,h1,_⟩:=(R.at_ i b hi).body hm
   obtain ⟨arr,te,fr,pre,post,ha,_⟩:=h1 hP
   exact ⟨_,ha⟩
 obtain ⟨o,ha⟩:=this
 by_cases h:E.blk i < w.heap.size
 ·exact h
 ·rw [Array.getElem?_eq_none (by omega)] at ha;cases ha
def Gh.push (E:Gh) (blk room ver:Nat) (many:Bool) (ty:Ty):Gh where
 n:=E.n+1
 blk i:=if i=E.n then blk else E.blk i
 base i:=if i=E.n then 0 else E.base i
 room i:=if i=E.n then room else E.room i
 ver i:=if i=E.n then ver else E.ver i
 many i:=if i=E.n then many else E.many i
 ty i:=if i=E.n then ty else E.ty i
theorem Gh.push_ext (E:Gh) (blk room ver:Nat) (many:Bool) (ty:Ty):Ext E (E.push blk room ver many ty):=by
 refine ⟨Nat.le_succ _,fun i hi=>?_,fun i hi=>?_,fun i hi=>?_,fun i hi _ => ?_⟩ <;> simp [Gh.push,Nat.ne_of_lt hi]
theorem A1i {E : Gh} {h : A3} {w w' : World} (R : RelHeap E h w) (b : Blk) (room : Nat) (many : Bool) (ty : Ty) (hmode : b.mode ≠ .ro)
  (hfits:if many=true then ∃ n t,ty=.arr 0 t∧A4 b.v (.arr n t)=true else A4 b.v ty=true)
  (hrow:b.mode=.open→many=true∧b.v.rowLen=some b.ver) {l:List Value} (hl:VRl E b.v l)
  (hcell:(∃ arr te fr post,w'.heap=w.heap.push (.cells arr te fr)∧arr.toList=l++post∧room=arr.size∧(∀ o,o < arr.size→¬ (fr.1≤o∧o < fr.2))) ∨
   (w'.heap=w.heap∧b.mode=.open∧room=0∧l=[])) (hio:Io w w') (hmp:b.mode≠.mp:=by simp) :
  Moves E h w (E.push w.heap.size room b.ver many ty) (h++[b]) w':=by
 have hX:=Gh.push_ext E w.heap.size room b.ver many ty
 have hold:∀ k,k < w.heap.size→w'.heap[k]?=w.heap[k]?:=by
  intro k hk
  rcases hcell with ⟨arr,te,fr,post,e,_⟩|⟨e,_⟩
  ·rw [e,Array.getElem?_push,if_neg (by omega)]
  ·rw [e]
 have hsz:w.heap.size≤w'.heap.size:=by
  rcases hcell with ⟨arr,te,fr,post,e,_⟩|⟨e,_⟩ <;> rw [e] <;> simp
 have hget:∀ (j:Nat) (c:Blk),(h++[b])[j]?=some c→(j=E.n∧c=b)∨(j < E.n∧h[j]?=some c):=by
  intro j c hj
  rw [R.n]
  by_cases e:j < h.length
  ·rw [List.getElem?_append_left e] at hj;exact .inr ⟨e,hj⟩
  ·rw [List.getElem?_append_right (by omega)] at hj
   have:j - h.length=0:=by
    have:=(List.getElem?_eq_some_iff.1 hj).1
    simp at this;omega
   rw [this] at hj;simp at hj
   exact .inl ⟨by omega,hj.symm⟩
 have hroom:∀ j,j < E.n→(E.push w.heap.size room b.ver many ty).room j=E.room j:=fun j hj=>by simp [Gh.push,Nat.ne_of_lt hj]
 have hblk:∀ j,j < E.n→(E.push w.heap.size room b.ver many ty).blk j=E.blk j:=fun j hj=>by simp [Gh.push,Nat.ne_of_lt hj]
 have hplaced:∀ (j:Nat) (c:Blk),j < E.n→(G8 (E.push w.heap.size room b.ver many ty) j c↔G8 E j c):=fun j c hj=>by unfold G8;rw [hroom j hj]
 refine ⟨hX,⟨by simp [Gh.push,R.n],fun j c hj=>?_,fun j k c d hj hk hP hO e=>?_⟩,hsz,fun x hx _ => hold x hx,fun x hx=>?_,hio⟩
 ·rcases hget j c hj with ⟨rfl,rfl⟩|⟨hjn,hj⟩
  ·refine ⟨by simp [Gh.push],?_,fun hm=>absurd hm hmp,fun _ => ⟨l,VRl.mono hX _ _ hl,fun hP=>?_,fun hP=>?_⟩,fun hm=>?_⟩
   ·unfold O1;simpa [Gh.push] using hfits
   ·rcases hcell with ⟨arr,te,fr,post,e,e1,e2,e3⟩|⟨e,e1,e2,e3⟩
    ·refine ⟨arr,te,fr,[],post,?_,by simpa using e1,by simp [Gh.push],fun _ => ⟨by simp [Gh.push],by simp [Gh.push,e2],e3⟩⟩
     simp [Gh.push,e]
    ·exact absurd ⟨e1,by simp [Gh.push,e2]⟩ hP
   ·rcases hcell with ⟨arr,te,fr,post,e,e1,e2,e3⟩|⟨e,e1,e2,e3⟩
    ·have : room = 0 := by
      unfold G8 at hP
      have:=Classical.not_not.1 hP
      simpa [Gh.push] using this.2
     have hz:arr.toList.length=0:=by rw [Array.length_toList];omega
     rw [e1,List.length_append] at hz
     exact List.eq_nil_of_length_eq_zero (by omega)
    ·exact e3
   ·simpa [Gh.push] using hrow hm
  ·have B:=R.at_ j c hj
   refine ⟨by simp [Gh.push,Nat.ne_of_lt hjn];exact B.ver,?_,fun hm=>(B.mp hm).ghost (by rw [hblk j hjn,hold _ (a8 R hj (A0W hm))]) (by simp [Gh.push,Nat.ne_of_lt hjn]) (by simp [Gh.push,Nat.ne_of_lt hjn]),fun hmm=>?_,fun hm=>?_⟩
   ·have:=B.fits;unfold O1 at *;simpa [Gh.push,Nat.ne_of_lt hjn] using this
   ·obtain ⟨l1,hl1,hl2,hl3⟩:=B.body hmm
    refine ⟨l1,VRl.mono hX _ _ hl1,fun hP=>?_,fun hP=>hl3 (fun h=>hP ((hplaced j c hjn).2 h))⟩
    have hP':=(hplaced j c hjn).1 hP
    obtain ⟨arr,te,fr,pre,post,h1,h2,h3,h4⟩:=hl2 hP'
    refine ⟨arr,te,fr,pre,post,?_,h2,by simpa [Gh.push,Nat.ne_of_lt hjn] using h3,by simpa [Gh.push,Nat.ne_of_lt hjn] using h4⟩
    rw [hblk j hjn,hold _ (a8 R hj hP')];exact h1
   ·have:=B.grow hm;simpa [Gh.push,Nat.ne_of_lt hjn] using this
 ·rcases hget j c hj with ⟨ej,ec⟩|⟨hjn,hj'⟩ <;> rcases hget k d hk with ⟨ek,ed⟩|⟨hkn,hk'⟩
  ·omega
  ·have:=a8 R hk' ((hplaced k d hkn).1 hO.2)
   rw [hblk k hkn,ej] at e;simp [Gh.push] at e;omega
  ·have:=a8 R hj' ((hplaced j c hjn).1 hP)
   rw [hblk j hjn,ek] at e;simp [Gh.push] at e;omega
  ·rw [hblk j hjn,hblk k hkn] at e
   exact R.inj j k c d hj' hk' ((hplaced j c hjn).1 hP) ⟨hO.1,(hplaced k d hkn).1 hO.2⟩ e
 ·obtain ⟨j,c,hj,hO,e⟩:=hx
  rcases hget j c hj with ⟨rfl,rfl⟩|⟨hjn,hj⟩
  ·right;simp [Gh.push] at e;omega
  ·left;exact ⟨j,c,hj,⟨hO.1,(hplaced j c hjn).1 hO.2⟩,by rw [←e,hblk j hjn]⟩
end Go.Vab

namespace Go.Vab
open Go
mutual
def Ty.height:Ty→Nat
 | .int _ => 0
 | .cell=>0
 | .arr _ t=>t.height+1
 | .struct ts=>Ty.heights ts+1
def Ty.heights:List Ty→Nat
 | []=>0
 | t::ts=>max t.height (Ty.heights ts)
end
structure TTok (P:Program) (tt:Nat→Option TI):Prop where
 info:∀ t i,tt t=some i→∃ f z,P.info? t=some f∧f.size=i.ty.size∧f.bytes=i.bytes∧f.zero=some z∧∀ E,VRel E i.zero z
 zero:∀ t i,tt t=some i→A4 i.zero i.ty=true
 int:∀ t i k,tt t=some i→i.ty=.int k→P.underlying t=some (.int k)
 cell:∀ t i,tt t=some i→i.ty=.cell→∃ d,P.underlying t=some d∧(∀ n e,d≠.array n e)∧(∀ fs,d≠.struct fs)∧(∀ k,d≠.int k)∧(∀ ms,d≠.interface ms)
 arr:∀ t i n u,tt t=some i→i.ty=.arr n u→∃ e j,P.underlying t=some (.array n e)∧tt e=some j∧j.ty=u
 struct:∀ t i ts,tt t=some i→i.ty=.struct ts→∃ fs,P.underlying t=some (.struct fs)∧fs.size=ts.length∧P.stoodInHeld t=false ∧
  ∀ (f : Nat) x, fs[f]? = some x → x.name ≠ "_" ∧ x.offset = Ty.sizes (ts.take f) ∧ ∃ j, tt x.type = some j ∧ ts[f]? = some j.ty ∧ j.ty.size ≠ 0
 elem:∀ t i e,tt t=some i→i.elem=some e→P.underlying t=some (.slice e)∧∃ j,tt e=some j∧j.ty.size≠0
 kind:∀ t i k,tt t=some i→i.kind=some k→i.ty=.int k
 str:∀ t i,tt t=some i→i.str=true→P.underlying t=some .string
 pt:∀ t i a,tt t=some i→i.pt=some a→P.underlying t=some (.pointer a)
 bool:∀ t i,tt t=some i→i.bool=true→P.underlying t=some .bool
 high:∀ t i,tt t=some i→i.ty.height≤1000
 guard:∀ t i,tt t=some i→i.ty.isAgg=true→P.eqGuardType P.depth t=false
section
variable {P:Program} {tt:Nat→Option TI} (T:TTok P tt) {t:Nat} {i:TI} (ht:tt t=some i)
include T ht
theorem TTok.und:∃ d,P.underlying t=some d∧(match d with | .struct _ | .array _ _ => true | _ => false)=i.ty.isAgg:=by
 cases e:i.ty with
 | int k=>exact ⟨_,T.int t i k ht e,rfl⟩
 | cell =>
  obtain ⟨d,hd,h1,h2,h3⟩:=T.cell t i ht e
  refine ⟨d,hd,?_⟩
  cases d <;> simp_all [Ty.isAgg]
 | arr n u =>
  obtain ⟨e',j,hd,_⟩:=T.arr t i n u ht e
  exact ⟨_,hd,rfl⟩
 | struct ts =>
  obtain ⟨fs,hd,_⟩:=T.struct t i ts ht e
  exact ⟨_,hd,rfl⟩
theorem D7C (w:World):(isAgg t).run P w=.ok i.ty.isAgg w:=by
 obtain ⟨d,hd,he⟩:=T.und ht
 unfold isAgg
 rw [Sem.run_bind,run_underlying hd w]
 rw [←he]
 cases d <;> rfl
theorem P7 (w:World):(sizeOf t).run P w=.ok i.ty.size w:=by
 obtain ⟨f,z,hf,hs,_⟩:=T.info t i ht
 simp [sizeOf,typeInfo,hf,hs]
theorem A1f (w:World):∃ z,(zeroValue t).run P w=.ok z w∧∀ E,VRel E i.zero z:=by
 obtain ⟨f,z,hf,hs,hb,hz,hr⟩:=T.info t i ht
 exact ⟨z,by simp [zeroValue,typeInfo,hf,hz],hr⟩
theorem B6U:P.cellsOf t=i.ty.size:=by
 obtain ⟨f,z,hf,hs,_⟩:=T.info t i ht
 simp [Program.cellsOf,hf,hs]
end
def O9 (agg:Bool) (l:List Value):Value:=if agg then .agg l.toArray else l.getD 0 Go.undef
theorem VRel.of_cells {E:Gh} {v:AV} {t:Ty} {l:List Value} (ht:A4 v t=true) (h:VRl E v l):VRel E v (O9 t.isAgg l):=by
 cases v <;> simp only [VRl] at h <;> cases t <;> simp [A4,AV.oneCell] at ht <;> simp only [VRel,O9,Ty.isAgg,if_true,Bool.false_eq_true,if_false]
 all_goals first
  | (subst h;rfl)
  | (obtain ⟨a,c,rfl,hp⟩:=h;exact ⟨a,c,rfl,hp⟩)
  | (obtain ⟨a,rfl,hp⟩:=h;exact ⟨a,rfl,hp⟩)
  | exact ⟨l,rfl,h⟩
theorem B6O {E:Gh} {v:AV} {x:Value} {t:Ty} (ht:A4 v t=true) (h:VRel E v x):O9 t.isAgg x.cells.toList=x:=by
 cases v <;> simp only [VRel] at h <;> cases t <;> simp [A4,AV.oneCell] at ht <;> simp only [O9,Ty.isAgg,if_true,Bool.false_eq_true,if_false]
 all_goals first
  | (subst h;rfl)
  | (obtain ⟨a,c,rfl,hp⟩:=h;rfl)
  | (obtain ⟨a,rfl,hp⟩:=h;simp [Value.cells])
  | (subst h;simp [Value.cells])
section
variable {P:Program} {tt:Nat→Option TI} (T:TTok P tt)
include T
theorem D63 {t : Nat} {i : TI} (ht : tt t = some i) (w : World) (a : Addr) (l : List Value) (hl : l.length = i.ty.size) (hone : i.ty.isAgg = false → ∃ x, l = [x])
  (hc:∀ k x,l[k]?=some x→w.cell? (a.add k)=some x):(loadVar t a).run P w=.ok (O9 i.ty.isAgg l) w:=by
 unfold loadVar
 rw [Sem.run_bind,D7C T ht w]
 simp only [Result.andThen_ok]
 cases hA:i.ty.isAgg with
 | true =>
  simp only [if_true,Sem.run_bind,P7 T ht w,Result.andThen_ok,←hl,run_loadCells_list (P:=P) w a l hc]
  simp [O9]
 | false =>
  obtain ⟨x,rfl⟩:=hone hA
  have:=hc 0 x rfl
  simp [Addr.add] at this
  simp [this,O9]
end
theorem D7D {E:Gh} {v:AV} {t:Ty} {l:List Value} (ht:A4 v t=true) (h:VRl E v l) (ha:t.isAgg=false):∃ x,l=[x]:=by
 have:=VRl.len v t l ht h
 have h1:t.size=1:=by cases t <;> simp_all [Ty.isAgg,Ty.size]
 rw [h1] at this
 match l,this with
 | [x],_ => exact ⟨x,rfl⟩
section
variable {P:Program} {tt:Nat→Option TI} (T:TTok P tt) {E:Gh} {h:A3} {w:World} (R:RelHeap E h w)
include T R
theorem D7V {t : Nat} {i : TI} (ht : tt t = some i) {p v : AV} {x : Value} (hp : VRel E p x) (he : D6 i.ty p h = some v) (hnw : ∀ a b c d e f, p ≠ .win a b c d e f) :
  ∃ y,(Instr.loadAt t x).run P w=.ok y w∧VRel E v y:=by
 cases p with
 | ptr b ver path t' =>
  simp only [D6] at he
  split at he
  ·rename_i hbt
   have hte:=Ty.beq_eq _ _ hbt
   subst hte
   obtain ⟨blk,hb,hg⟩:=bnd_eq_some.1 he
   simp only [VRel] at hp
   obtain ⟨a,rfl,hpa⟩:=hp
   obtain ⟨g1,l,hl,hc⟩:=D7U R hpa hb hg
   refine ⟨_,?_,VRel.of_cells g1 hl⟩
   simp only [Instr.loadAt,Instr.sureAddr,Sem.run_bind,Sem.run_pure,Result.andThen_ok]
   exact D63 T ht w a l (VRl.len v _ l g1 hl) (D7D g1 hl) hc
  ·cases he
 | win b ver path t' off n=>exact absurd rfl (hnw _ _ _ _ _ _)
 | _ => simp [D6] at he
theorem F3w {t : Nat} {i : TI} (ht : tt t = some i) {p v : AV} {x y : Value} {h' : A3} (hp : VRel E p x) (hv : VRel E v y) (he : A2W i.ty p v h = some h') :
  ∃ w',(Instr.storeAt t x y).run P w=.ok () w'∧Moves E h w E h' w':=by
 cases p with
 | ptr b ver path t' =>
  simp only [A2W] at he
  split at he
  ·rename_i hbt
   rw [Bool.and_eq_true] at hbt
   have hte:=Ty.beq_eq _ _ hbt.1
   subst hte
   obtain ⟨blk,hb,he⟩:=bnd_eq_some.1 he
   split at he
   ·cases he
   ·rename_i hmode
    obtain ⟨v',hput,he⟩:=bnd_eq_some.1 he
    simp at he;subst he
    simp only [VRel] at hp
    obtain ⟨a,rfl,hpa⟩:=hp
    have hc:=VRel.cells hbt.2 hv
    obtain ⟨w',hr,hm⟩:=F5z (P:=P) R hpa hb hmode hput hbt.2 hc
    refine ⟨w',?_,hm⟩
    simp only [Instr.storeAt,Instr.sureAddr,Sem.run_bind,Sem.run_pure,Result.andThen_ok,storeVar,P7 T ht w]
    have hlen:y.cells.size=i.ty.size:=by rw [←Array.length_toList];exact VRl.len v _ _ hbt.2 hc
    simp only [hlen,ne_eq,not_true_eq_false,if_false]
    simpa using hr
  ·cases he
 | _ => simp [A2W] at he
omit T in
theorem D7n {t : Nat} {i : TI} {v p : AV} {y : Value} {h' : A3} (hv : VRel E v y) (he : A4R i.ty v h = some (p, h')) :
  ∃ E' w' a,(newVar t y).run P w=.ok a w'∧VRel E' p (.pointer (some a))∧Moves E h w E' h' w':=by
 unfold A4R at he
 split at he
 ·rename_i hty
  simp at he;obtain ⟨rfl,rfl⟩:=he
  have hc:=VRel.cells hty hv
  refine ⟨E.push w.heap.size y.cells.size 0 false i.ty,{ w with heap:=w.heap.push (.cells y.cells t) },⟨w.heap.size,0,none⟩,rfl,?_,?_⟩
  ·simp only [VRel]
   refine ⟨_,rfl,by simp [Gh.push,R.n],by simp [Gh.push,R.n],by simp [Gh.push,R.n],fun _ => ⟨0,?_,by simp [Gh.push,R.n]⟩⟩
   simp only [Gh.push,R.n,if_true]
   cases i.ty <;> rfl
  ·exact A1i R ⟨v,0,.own⟩ y.cells.size false i.ty (by simp) (by simpa using hty) (by simp) hc (.inl ⟨y.cells,t,(0,0),[],rfl,by simp,rfl,by simp⟩) ⟨rfl,rfl,rfl⟩
 ·cases he
end
end Go.Vab

namespace Go.Vab
open Go
theorem A3I {E : Gh} {r r' : AV} {off n m : Nat} {t : Ty} {l : List Value} (hc : r.cut off n = some r') (ht : A4 r (.arr m t) = true) (hl : VRl E r l) :
  A4 r' (.arr n t)=true∧off+n≤m∧VRl E r' ((l.drop (off * t.size)).take (n * t.size)):=by
 cases r with
 | ints k xs =>
  obtain ⟨rfl,hm⟩:=U3 ht
  simp only [AV.cut] at hc
  split at hc
  ·rename_i hle
   simp at hc;subst hc
   simp only [VRl] at hl;subst hl
   refine ⟨by simp [A4];omega,by omega,?_⟩
   simp [VRl,Ty.size,List.map_take,List.map_drop]
  ·cases hc
 | node vs =>
  obtain ⟨hm,ha⟩:=W6 ht
  simp only [AV.cut] at hc
  split at hc
  ·rename_i hle
   simp at hc;subst hc
   simp only [VRl] at hl
   have hall:∀ us:List AV,(∀ v∈us,v∈vs)→G7 us t=true:=fun us hu=>by
    rw [Q7] at ha ⊢;exact fun v hv=>ha v (hu v hv)
   have e:vs=vs.take off++((vs.drop off).take n++(vs.drop off).drop n):=by rw [List.take_append_drop,List.take_append_drop]
   rw [e] at hl
   obtain ⟨l1,l23,rfl,h1,h23⟩:=VRs.split _ _ _ hl
   obtain ⟨l2,l3,rfl,h2,h3⟩:=VRs.split _ _ _ h23
   have n1:=VRs.lenAll _ t l1 (hall _ (fun v hv=>List.mem_of_mem_take hv)) h1
   have n2:=VRs.lenAll _ t l2 (hall _ (fun v hv=>List.mem_of_mem_drop (List.mem_of_mem_take hv))) h2
   rw [List.length_take,Nat.min_eq_left (by omega)] at n1
   rw [List.length_take,List.length_drop,Nat.min_eq_left (by omega)] at n2
   refine ⟨?_,by omega,?_⟩
   ·have:=hall ((vs.drop off).take n) (fun v hv=>List.mem_of_mem_drop (List.mem_of_mem_take hv))
    cases t with
    | int k=>simp [A4] at ht
    | _ => simp only [A4,Bool.and_eq_true,decide_eq_true_eq];exact ⟨by simp;omega,this⟩
   ·rw [←n1,List.drop_left',←n2,List.take_left']
    ·simpa only [VRl] using h2
    ·rfl
    ·rfl
  ·cases hc
 | _ => simp [AV.cut] at hc
theorem A29 {E : Gh} {a b r : AV} {n m : Nat} {t : Ty} {l l' : List Value} (hj : a.join b = some r) (ha : A4 a (.arr n t) = true) (hb : A4 b (.arr m t) = true)
  (hl:VRl E a l) (hl':VRl E b l'):A4 r (.arr (n+m) t)=true∧VRl E r (l++l'):=by
 cases a <;> cases b <;> simp only [AV.join] at hj <;> try (cases hj;done)
 ·rename_i k xs k' ys
  split at hj
  ·rename_i hk
   simp at hj;subst hj
   obtain ⟨rfl,h1⟩:=U3 ha
   obtain ⟨_,h2⟩:=U3 hb
   simp only [VRl] at hl hl' ⊢
   subst hl;subst hl';subst hk
   exact ⟨by simp [A4];omega,by simp⟩
  ·cases hj
 ·rename_i vs us
  simp at hj;subst hj
  obtain ⟨h1,h1'⟩:=W6 ha
  obtain ⟨h2,h2'⟩:=W6 hb
  simp only [VRl] at hl hl' ⊢
  refine ⟨?_,VRs.app _ _ _ _ hl hl'⟩
  have:G7 (vs++us) t=true:=by
   rw [Q7] at *
   intro v hv
   rcases List.mem_append.1 hv with h|h
   ·exact h1' v h
   ·exact h2' v h
  cases t with
  | int k=>simp [A4] at ha
  | _ => simp only [A4,Bool.and_eq_true,decide_eq_true_eq];exact ⟨by simp;omega,this⟩
theorem F3x {E : Gh} {r r' new : AV} {off n m q : Nat} {t : Ty} {l l' : List Value} (hs : r.splice off n new = some r') (hr : A4 r (.arr m t) = true) (hn : A4 new (.arr q t) = true)
  (hl:VRl E r l) (hl':VRl E new l') :
  A4 r' (.arr m t)=true∧off+n≤m∧n≤q∧VRl E r' (l.take (off * t.size)++l'.take (n * t.size)++l.drop ((off+n) * t.size)):=by
 cases r <;> cases new <;> simp only [AV.splice] at hs <;> try (cases hs;done)
 ·rename_i k xs k' ys
  split at hs
  ·rename_i hc
   obtain ⟨rfl,c1,c2⟩:=hc
   simp at hs;subst hs
   obtain ⟨rfl,h1⟩:=U3 hr
   obtain ⟨_,h2⟩:=U3 hn
   simp only [VRl] at hl hl' ⊢
   subst hl;subst hl'
   exact ⟨by simp [A4];omega,by omega,by omega,by simp [Ty.size,List.map_take,List.map_drop]⟩
  ·cases hs
 ·rename_i vs us
  split at hs
  ·rename_i hc
   obtain ⟨c1,c2⟩:=hc
   simp at hs;subst hs
   obtain ⟨h1,h1'⟩:=W6 hr
   obtain ⟨h2,h2'⟩:=W6 hn
   simp only [VRl] at hl hl' ⊢
   rw [Q7] at h1' h2'
   have hall:∀ zs:List AV,(∀ v∈zs,v∈vs∨v∈us)→G7 zs t=true:=fun zs hz=>by
    rw [Q7];intro v hv
    rcases hz v hv with h|h
    ·exact h1' v h
    ·exact h2' v h
   have e:vs=vs.take off++((vs.drop off).take n++(vs.drop off).drop n):=by rw [List.take_append_drop,List.take_append_drop]
   rw [e] at hl
   obtain ⟨l1,l23,rfl,g1,h23⟩:=VRs.split _ _ _ hl
   obtain ⟨l2,l3,rfl,g2,g3⟩:=VRs.split _ _ _ h23
   have e':us=us.take n++us.drop n:=by rw [List.take_append_drop]
   rw [e'] at hl'
   obtain ⟨m1,m2,rfl,k1,k2⟩:=VRs.split _ _ _ hl'
   have n1:=VRs.lenAll _ t l1 (hall _ (fun v hv=>.inl (List.mem_of_mem_take hv))) g1
   have n2:=VRs.lenAll _ t l2 (hall _ (fun v hv=>.inl (List.mem_of_mem_drop (List.mem_of_mem_take hv)))) g2
   have n3:=VRs.lenAll _ t m1 (hall _ (fun v hv=>.inr (List.mem_of_mem_take hv))) k1
   rw [List.length_take,Nat.min_eq_left (by omega)] at n1
   rw [List.length_take,List.length_drop,Nat.min_eq_left (by omega)] at n2
   rw [List.length_take,Nat.min_eq_left (by omega)] at n3
   refine ⟨?_,by omega,by omega,?_⟩
   ·have := hall (vs.take off ++ us.take n ++ vs.drop (off + n)) (fun v hv => by
     rcases List.mem_append.1 hv with h|h
     ·rcases List.mem_append.1 h with h|h
      ·exact .inl (List.mem_of_mem_take h)
      ·exact .inr (List.mem_of_mem_take h)
     ·exact .inl (List.mem_of_mem_drop h))
    cases t with
    | int k=>simp [A4] at hr
    | _ => simp only [A4,Bool.and_eq_true,decide_eq_true_eq];exact ⟨by simp;omega,by simpa using this⟩
   ·have e1:(l1++(l2++l3)).take (off * t.size)=l1:=by rw [←n1,List.take_left'];rfl
    have e2:(m1++m2).take (n * t.size)=m1:=by rw [←n3,List.take_left'];rfl
    have e3:(l1++(l2++l3)).drop ((off+n) * t.size)=l3:=by
     rw [Nat.add_mul,←n1,←n2,←List.append_assoc,←List.length_append,List.drop_left'];rfl
    rw [e1,e2,e3]
    rw [List.drop_drop] at g3
    have:=VRs.app _ _ _ _ (VRs.app _ _ _ _ g1 k1) g3
    simpa [List.append_assoc] using this
  ·cases hs
theorem A4c {E : Gh} {h : A3} {w : World} (R : RelHeap E h w) {i ver : Nat} {path : List Nat} {t : Ty} {o n : Nat} (hv : ver = E.ver i) (hs : Ty.sub (E.ty i) path = some (o, .arr n t))
  {b:Blk} {r:AV} (hb:blkAt h i ver=some b) (hg:b.v.get path=some r) :
  ∃ m l,A4 r (.arr m t)=true∧VRl E r l∧∀ k x,l[k]?=some x→w.cell? ⟨E.blk i,E.base i+o+k,none⟩=some x:=by
 obtain ⟨hi,hbv⟩:=Q8 hb
 have B:=R.at_ i b hi
 have hlt:i < E.n:=by rw [R.n];exact (List.getElem?_eq_some_iff.1 hi).1
 by_cases hM:E.many i=true∧path=[]
 ·obtain ⟨hM,rfl⟩:=hM
  have hf:=B.fits
  unfold O1 at hf
  rw [if_pos hM] at hf
  obtain ⟨m,t0,e,ht⟩:=hf
  rw [e] at hs;simp [Ty.sub] at hs
  obtain ⟨rfl,rfl,rfl⟩:=hs
  have er:b.v=r:=by cases hx:b.v <;> rw [hx] at hg <;> simpa [AV.get] using hg
  subst er
  obtain ⟨l,hl,hpl,hnp⟩:=B.body (d8 hb)
  refine ⟨m,l,ht,hl,fun k x hk=>?_⟩
  by_cases hP:G8 E i b
  ·obtain ⟨arr,te,fr,pre',post',ha,hlist,hbase,_⟩:=hpl hP
   have hkl:k < l.length:=(List.getElem?_eq_some_iff.1 hk).1
   simp only [World.cell?,ha,Option.isSome_none,Bool.false_eq_true,if_false]
   rw [←Array.getElem?_toList,hlist,←hbase,Nat.add_zero,List.append_assoc,List.getElem?_append_right (by omega),Nat.add_sub_cancel_left,List.getElem?_append_left hkl,hk]
  ·rw [hnp hP] at hk;simp at hk
 ·have hm:E.many i=true→path≠[]:=fun h1 h2=>hM ⟨h1,h2⟩
  have hp:PtrAt E i ver path (.arr n t) ⟨E.blk i,E.base i+o,none⟩:=⟨hlt,by omega,hm,fun _ => ⟨o,hs,rfl⟩⟩
  obtain ⟨g1,l,hl,hc⟩:=D7U R hp hb hg
  refine ⟨n,l,g1,hl,fun k x hk=>?_⟩
  have:=hc k x hk
  rwa [T3] at this
theorem F3q {P : Program} {w : World} (sz n : Nat) (a : Option Addr) (len c : Nat) (l : List Value) (hl : l.length = n * sz)
  (hc:∀ b,a=some b→∀ k x,l[k]?=some x→w.cell? (b.add k)=some x) (hn:a=none→n * sz=0) :
  (Builtin.firstCells sz n (.slice a len c)).run P w=.ok l.toArray w:=by
 cases a with
 | none =>
  have:l=[]:=List.eq_nil_of_length_eq_zero (by rw [hl];exact hn rfl)
  subst this
  simp [Builtin.firstCells]
 | some b =>
  simp only [Builtin.firstCells,←hl]
  exact run_loadCells_list (P:=P) w b l (hc b rfl)
theorem A05 {P : Program} {E : Gh} {h : A3} {w : World} (R : RelHeap E h w) {t : Ty} {x new : AV} {y : Value} (he : C7 t x h = some new) (hx : VRel E x y) :
  ∃ n l,new.rowLen=some n∧A4 new (.arr n t)=true∧VRl E new l∧(Builtin.lenOf y).run P w=.ok n w ∧
   (∀ (w':World),w'.heap=w.heap→∀ m,m≤n→(Builtin.firstCells t.size m y).run P w'=.ok (l.take (m * t.size)).toArray w'):=by
 have hcw:∀ (w':World),w'.heap=w.heap→∀ a,w'.cell? a=w.cell? a:=fun w' hw' a=>by simp only [World.cell?,hw']
 cases x with
 | nilslice =>
  simp only [VRel] at hx;subst hx
  have key:∀ r:AV,C7 t .nilslice h=some r→r.rowLen=some 0∧A4 r (.arr 0 t)=true∧VRl E r []:=by
   intro r hr
   cases t <;> simp [C7] at hr <;> subst hr <;> simp [AV.rowLen,A4,G7,VRl,VRs]
  obtain ⟨k1,k2,k3⟩:=key new he
  refine ⟨0,[],k1,k2,k3,rfl,fun w' hw' m hm=>?_⟩
  have:m=0:=by omega
  subst this
  simp [Builtin.firstCells]
 | slice i ver path t' off len cap =>
  simp only [C7] at he
  split at he
  ·rename_i hbt
   have hte:=Ty.beq_eq _ _ hbt
   subst hte
   obtain ⟨b,hb,he⟩:=bnd_eq_some.1 he
   obtain ⟨r,hg,he⟩:=bnd_eq_some.1 he
   simp only [VRel] at hx
   obtain ⟨a,c,rfl,hi,hv,hlen,hcap,hcn,hs⟩:=hx
   obtain ⟨hbi,hbv⟩:=Q8 hb
   have hver:ver=E.ver i:=by rw [←hbv];exact (R.at_ i b hbi).ver
   obtain ⟨o,n,hsub,ha,hroom⟩:=hs hver
   obtain ⟨m,l,hm,hl,hc⟩:=A4c R hver hsub hb hg
   obtain ⟨k1,k2,k3⟩:=A3I he hm hl
   refine ⟨len,_,j9 k1,k1,k3,rfl,fun w' hw' q hq=>?_⟩
   have hll:=VRl.len new _ _ k1 k3
   simp only [Ty.size] at hll
   refine F3q _ _ _ _ _ _ (by rw [List.length_take,hll];exact Nat.min_eq_left (Nat.mul_le_mul_right _ hq)) (fun b' hb' k x hk=>?_) (by simp)
   simp at hb';subst hb'
   by_cases hc0:c=0
   ·have:len=0:=by omega
    subst this
    have hk1:=(List.getElem?_eq_some_iff.1 hk).1
    simp at hk1
   ·rw [ha hc0,T3]
    have hk1:=(List.getElem?_eq_some_iff.1 hk).1
    simp only [List.length_take,List.length_drop] at hk1
    rw [List.getElem?_take_of_lt (by omega),List.getElem?_take_of_lt (by omega),List.getElem?_drop] at hk
    have:=hc _ x hk
    rw [hcw w' hw']
    rw [show E.base i+o+(off * t'.size+k)=E.base i+o+off * t'.size+k by omega] at this
    exact this
  ·cases he
 | str s =>
  simp only [VRel] at hx;subst hx
  cases t with
  | int k =>
   cases k <;> simp [C7] at he
   subst he
   refine ⟨s.size,(s.data.toList.map fun c=>(c.toNat:Int)).map (Value.int .u8),by simp only [AV.rowLen,List.length_map,Array.length_toList];rfl,by simp only [A4,List.length_map,Array.length_toList,decide_true,Bool.true_and,decide_eq_true_eq];rfl,by simp [VRl],rfl,fun w' hw' m hm=>?_⟩
   simp only [Builtin.firstCells,Ty.size,Nat.mul_one,Sem.run_pure]
   congr 1
   apply Array.ext'
   simp only [List.map_map]
   simp [Function.comp_def]
  | _ => simp [C7] at he
 | _ => simp [C7] at he
end Go.Vab

namespace Go.Vab
open Go
theorem F3y {α : Type} (pre mid post post' m : List α) (A B : Nat) (hA : A ≤ B) (hB : B ≤ mid.length) (hm : m.length = B - A) :
  (pre++mid++post++post').take (pre.length+A)++m++(pre++mid++post++post').drop (pre.length+A+m.length) =
  pre++(mid.take A++m++mid.drop B)++post++post':=by
 have e1:(pre++mid++post++post').take (pre.length+A)=pre++mid.take A:=by
  rw [show pre++mid++post++post'=pre++(mid++(post++post')) by simp,List.take_length_add_append,List.take_append_of_le_length (by omega)]
 have e2:(pre++mid++post++post').drop (pre.length+A+m.length)=mid.drop B++(post++post'):=by
  rw [show pre++mid++post++post'=pre++(mid++(post++post')) by simp,show pre.length+A+m.length=pre.length+B by omega,List.drop_length_add_append,List.drop_append_of_le_length hB]
 rw [e1,e2]
 simp
theorem F50 {E : Gh} {i : Nat} {v r r' v' : AV} {path : List Nat} {t : Ty} {o n : Nat} (hf : O1 E i v) (hs : Ty.sub (E.ty i) path = some (o, .arr n t)) (hg : v.get path = some r) (hput : v.put path r' = some v')
  {L:List Value} (hL:VRl E v L) :
  ∃ m pre mid post,A4 r (.arr m t)=true∧L=pre++mid++post∧pre.length=o∧VRl E r mid ∧
   ∀ L',A4 r' (.arr m t)=true→VRl E r' L'→O1 E i v'∧(E.many i=true→v'.rowLen=v.rowLen)∧VRl E v' (pre++L'++post):=by
 by_cases hM:E.many i=true∧path=[]
 ·obtain ⟨hM,rfl⟩:=hM
  have hf':=hf
  unfold O1 at hf
  rw [if_pos hM] at hf
  obtain ⟨m,t0,e,ht⟩:=hf
  rw [e] at hs;simp [Ty.sub] at hs
  obtain ⟨rfl,rfl,rfl⟩:=hs
  have er:v=r:=by cases v <;> simpa [AV.get] using hg
  have ep:r'=v':=by cases v <;> simpa [AV.put] using hput
  subst er;subst ep
  refine ⟨m,[],L,[],ht,by simp,rfl,hL,fun L' h1 h2=>⟨?_,fun _ => by rw [j9 h1,j9 ht],by simpa using h2⟩⟩
  unfold O1
  rw [if_pos hM]
  exact ⟨m,t0,e,h1⟩
 ·have hm:E.many i=true→path≠[]:=fun h1 h2=>hM ⟨h1,h2⟩
  obtain ⟨T,hT,hsub,hback⟩:=B6y hf path hm
  obtain ⟨g1,pre,mid,post,rfl,e2,e3⟩:=A3G path v r T hg hT L hL o (.arr n t) (hsub.trans hs)
  refine ⟨n,pre,mid,post,g1,rfl,e2,e3,fun L' h1 h2=>?_⟩
  obtain ⟨p1,pre2,mid2,post2,q1,q2,q3,q4⟩:=A3H path v v' r' T hput hT _ hL o (.arr n t) (hsub.trans hs) h1 L' h2
  have l1:=VRl.len r _ mid g1 e3
  have l2:=VRl.len r' _ L' h1 h2
  rw [List.append_assoc,List.append_assoc] at q1
  obtain ⟨qa,qb⟩:=List.append_inj q1 (by omega)
  obtain ⟨_,qc⟩:=List.append_inj qb (by omega)
  rw [←qa,←qc] at q4
  exact ⟨(hback v' p1).1,(hback v' p1).2,q4⟩
theorem A4j {P : Program} {E : Gh} {h : A3} {w : World} (R : RelHeap E h w) {i ver : Nat} {path : List Nat} {t : Ty} {o n : Nat} (hs : Ty.sub (E.ty i) path = some (o, .arr n t))
  {b:Blk} {r r' new v':AV} (hb:blkAt h i ver=some b) (hmode:b.mode≠.ro) (hg:b.v.get path=some r) {off k q:Nat} (hsp:r.splice off k new=some r') (hput:b.v.put path r'=some v')
  (hn:A4 new (.arr q t)=true) {l':List Value} (hl':VRl E new l') :
  ∃ w',(storeCells ⟨E.blk i,E.base i+o+off * t.size,none⟩ (l'.take (k * t.size))).run P w=.ok () w'∧Moves E h w E (h.set i { b with v:=v' }) w':=by
 obtain ⟨hi,hbv⟩:=Q8 hb
 have B:=R.at_ i b hi
 obtain ⟨L,hL,hpl,hnp⟩:=B.body (d8 hb)
 obtain ⟨m,pre,mid,post,hr,rfl,e2,e3,hback⟩:=F50 B.fits hs hg hput hL
 obtain ⟨s1,s2,s3,s4⟩:=F3x hsp hr hn e3 hl'
 obtain ⟨hf',hrow',hL'⟩:=hback _ s1 s4
 have hrow:b.mode=.open→v'.rowLen=some b.ver:=fun hM=>by
  obtain ⟨h1,h2⟩:=B.grow hM
  rw [hrow' h1,h2]
 have hmid:=VRl.len r _ mid hr e3
 have hnew:=VRl.len new _ l' hn hl'
 simp only [Ty.size] at hmid hnew
 have hkl:(l'.take (k * t.size)).length=k * t.size:=by
  rw [List.length_take,hnew];exact Nat.min_eq_left (Nat.mul_le_mul_right _ s3)
 have hB:(off+k) * t.size≤mid.length:=by rw [hmid];exact Nat.mul_le_mul_right _ s2
 have hA:off * t.size≤(off+k) * t.size:=Nat.mul_le_mul_right _ (by omega)
 have hAB:(off+k) * t.size - off * t.size=k * t.size:=by rw [Nat.add_mul];omega
 by_cases hP:G8 E i b
 ·obtain ⟨arr,te,fr,pre',post',ha,hlist,hbase,hrest⟩:=hpl hP
  obtain ⟨hb0,hroom,hfr⟩:=hrest hmode
  have hpre:pre'=[]:=List.eq_nil_of_length_eq_zero (by omega)
  subst hpre
  have hsz:arr.size=pre.length+mid.length+post.length+post'.length:=by
   rw [←Array.length_toList,hlist];simp;omega
  obtain ⟨w',arr',r1,rio,r2,r3,r4,r5,r6⟩:=A4Y (P:=P) te fr (E.blk i) (E.base i+o+off * t.size) (l'.take (k * t.size)) w 0 arr ha
   (fun x hx=>VRl.one new l' hl' x (List.mem_of_mem_take hx)) (by rw [hkl];omega) hfr
  refine ⟨w',r1,A28 R hi v' hmode (d8 hb) hf' hrow hL' ⟨fun _ => ⟨arr',te,fr,post',r4,?_,hb0,by rw [r5];exact hroom,by rw [r5];exact hfr⟩,fun hn=>absurd hP hn⟩ r2 (fun k hk=>r3 k (hk hP)) rio⟩
  rw [r6,hlist,hb0,←e2]
  simp only [Nat.zero_add,Nat.add_zero,List.nil_append]
  exact F3y pre mid post post' _ _ _ hA hB (by rw [hkl,hAB])
 ·have hz:=hnp hP
  have hpz:pre=[]∧mid=[]∧post=[]:=⟨(List.append_eq_nil_iff.1 (List.append_eq_nil_iff.1 hz).1).1,(List.append_eq_nil_iff.1 (List.append_eq_nil_iff.1 hz).1).2,(List.append_eq_nil_iff.1 hz).2⟩
  obtain ⟨rfl,rfl,rfl⟩:=hpz
  have hk0:l'.take (k * t.size)=[]:=List.eq_nil_of_length_eq_zero (by rw [hkl];simp at hB;omega)
  rw [hk0] at hL' ⊢
  exact ⟨w,by simp [storeCells],A28 R hi v' hmode (d8 hb) hf' hrow hL' ⟨fun h=>absurd h hP,fun _ => by simp⟩ rfl (fun k _ => rfl) (Io.refl w)⟩
def Gh.renew (E:Gh) (i blk room ver:Nat):Gh where
 n:=E.n
 blk j:=if j=i then blk else E.blk j
 base j:=if j=i then 0 else E.base j
 room j:=if j=i then room else E.room j
 ver j:=if j=i then ver else E.ver j
 many:=E.many
 ty:=E.ty
theorem D7W {E : Gh} {h : A3} {w w' : World} (R : RelHeap E h w) {i : Nat} {b : Blk} (hi : h[i]? = some b) (hopen : b.mode = .open) (v' : AV) {ver' : Nat} (hver : E.ver i < ver') (blk : Nat)
  {t:Ty} {m:Nat} (hty:E.ty i=.arr 0 t) (hfit:A4 v' (.arr m t)=true) (hm:m=ver') {l':List Value} (hl:VRl E v' l') {arr:Array Value} {te:TypeId} {fr:Nat × Nat} {post:List Value}
  (hcell:w'.heap[blk]?=some (.cells arr te fr)) (hlist:arr.toList=l'++post) (hfr:∀ o,o < arr.size→¬ (fr.1≤o∧o < fr.2))
  (hsize:w.heap.size≤w'.heap.size) (hoth:∀ k,k≠blk→k < w.heap.size→w'.heap[k]?=w.heap[k]?) (hblk:(blk=E.blk i∧G8 E i b)∨w.heap.size≤blk) (hio:Io w w') :
  Moves E h w (E.renew i blk arr.size ver') (h.set i { b with v:=v',ver:=ver' }) w':=by
 have hil:i < h.length:=(List.getElem?_eq_some_iff.1 hi).1
 have hX:Ext E (E.renew i blk arr.size ver'):=by
  refine ⟨Nat.le_refl _,fun j hj=>?_,fun j hj=>rfl,fun j hj=>rfl,fun j hj he=>?_⟩
  ·simp only [Gh.renew];split
   ·rename_i e;subst e;omega
   ·exact Nat.le_refl _
  ·simp only [Gh.renew] at he ⊢
   split at he
   ·rename_i e;subst e;omega
   ·rename_i e;simp [e]
 have hget:∀ (j:Nat) (c:Blk),(h.set i { b with v:=v',ver:=ver' })[j]?=some c→(j=i∧c={ b with v:=v',ver:=ver' })∨(j≠i∧h[j]?=some c):=by
  intro j c hj
  by_cases e:j=i
  ·subst e;rw [List.getElem?_set_self hil] at hj;simp at hj;exact .inl ⟨rfl,hj.symm⟩
  ·rw [List.getElem?_set_ne (fun x=>e x.symm)] at hj;exact .inr ⟨e,hj⟩
 have hplaced:∀ (j:Nat) (c:Blk),j≠i→(G8 (E.renew i blk arr.size ver') j c↔G8 E j c):=fun j c hj=>by unfold G8;simp [Gh.renew,hj]
 have hne:∀ (j:Nat) (c:Blk),j≠i→h[j]?=some c→G8 E j c→E.blk j≠blk:=by
  intro j c hj hc hP e
  rcases hblk with ⟨h1,h2⟩|h1
  ·exact hj (R.inj j i c b hc hi hP ⟨by rw [hopen];simp,h2⟩ (by rw [e,h1]))
  ·have:=a8 R hc hP;omega
 have hgrow:=(R.at_ i b hi).grow hopen
 refine ⟨hX,⟨by rw [List.length_set];exact R.n,fun j c hj=>?_,fun j k c d hj hk hP hO e=>?_⟩,hsize,fun x hx hn=>hoth x (fun e=>?_) hx,fun x hx=>?_,hio⟩
 ·rcases hget j c hj with ⟨rfl,rfl⟩|⟨hne',hj⟩
  ·refine ⟨by simp [Gh.renew],?_,fun hm=>absurd (hopen.symm.trans hm) (by decide),fun _ => ⟨l',VRl.mono hX _ _ hl,fun hP=>?_,fun hP=>?_⟩,fun _ => ⟨hgrow.1,by rw [j9 hfit,hm]⟩⟩
   ·have hM:=hgrow.1
    unfold O1;simp only [Gh.renew,hM,if_true];exact ⟨m,t,hty,hfit⟩
   ·refine ⟨arr,te,fr,[],post,by simp [Gh.renew,hcell],by simpa using hlist,by simp [Gh.renew],fun _ => ⟨by simp [Gh.renew],by simp [Gh.renew],hfr⟩⟩
   ·have : arr.size = 0 := by
     unfold G8 at hP
     have:=Classical.not_not.1 hP
     simpa [Gh.renew] using this.2
    have hz:arr.toList.length=0:=by rw [Array.length_toList];exact this
    rw [hlist,List.length_append] at hz
    exact List.eq_nil_of_length_eq_zero (by omega)
  ·have B:=R.at_ j c hj
   have hbj:(E.renew i blk arr.size ver').blk j=E.blk j:=by simp [Gh.renew,hne']
   refine ⟨by simp [Gh.renew,hne'];exact B.ver,?_,fun hmm=>(B.mp hmm).ghost (by rw [hbj,hoth _ (hne j c hne' hj (A0W hmm)) (a8 R hj (A0W hmm))]) rfl rfl,fun hmm=>?_,fun hM=>B.grow hM⟩
   ·have:=B.fits;unfold O1 at *;exact this
   ·obtain ⟨l1,hl1,hl2,hl3⟩:=B.body hmm
    refine ⟨l1,VRl.mono hX _ _ hl1,fun hP=>?_,fun hP=>hl3 (fun h=>hP ((hplaced j c hne').2 h))⟩
    have hP':=(hplaced j c hne').1 hP
    obtain ⟨arr1,te1,fr1,pre1,post1,h1,h2,h3,h4⟩:=hl2 hP'
    refine ⟨arr1,te1,fr1,pre1,post1,?_,h2,by simpa [Gh.renew,hne'] using h3,by simpa [Gh.renew,hne'] using h4⟩
    have:(E.renew i blk arr.size ver').blk j=E.blk j:=by simp [Gh.renew,hne']
    rw [this,hoth _ (hne j c hne' hj hP') (a8 R hj hP')];exact h1
 ·rcases hget j c hj with ⟨ej,ec⟩|⟨hjn,hj'⟩ <;> rcases hget k d hk with ⟨ek,ed⟩|⟨hkn,hk'⟩
  ·omega
  ·exfalso
   have:=hne k d hkn hk' ((hplaced k d hkn).1 hO.2)
   simp [Gh.renew,ej,hkn] at e;exact this e.symm
  ·exfalso
   have:=hne j c hjn hj' ((hplaced j c hjn).1 hP)
   simp [Gh.renew,ek,hjn] at e;exact this e
  ·have e':E.blk j=E.blk k:=by simpa [Gh.renew,hjn,hkn] using e
   exact R.inj j k c d hj' hk' ((hplaced j c hjn).1 hP) ⟨hO.1,(hplaced k d hkn).1 hO.2⟩ e'
 ·rcases hblk with ⟨h1,h2⟩|h1
  ·exact hn ⟨i,b,hi,⟨by rw [hopen];simp,h2⟩,by rw [e,h1]⟩
  ·omega
 ·obtain ⟨j,c,hj,hO,e⟩:=hx
  rcases hget j c hj with ⟨ej,ec⟩|⟨hjn,hj'⟩
  ·have e':blk=x:=by simpa [Gh.renew,ej] using e
   rcases hblk with ⟨h1,h2⟩|h1
   ·exact .inl ⟨i,b,hi,⟨by rw [hopen];simp,h2⟩,by rw [←e',h1]⟩
   ·right;omega
  ·left
   exact ⟨j,c,hj',⟨hO.1,(hplaced j c hjn).1 hO.2⟩,by simpa [Gh.renew,hjn] using e⟩
theorem D7o (n:Nat):∀ (r c:Nat),c≤n+n / 4+512→Builtin.growBy n r c≤n+n / 4+512
 | 0,c,h=>by simpa [Builtin.growBy] using h
 | r+1,c,h=>by
  simp only [Builtin.growBy]
  split
  ·exact h
  ·exact D7o n r _ (by omega)
theorem D60 (need old:Nat) (h:old < need):Builtin.nextslicecap need old≤need+need / 4+512:=by
 unfold Builtin.nextslicecap
 split
 ·omega
 ·split
  ·omega
  ·exact D7o need 4 old (by omega)
theorem F4D {P : Program} {tt : Nat → Option TI} (T : TTok P tt) {E : Gh} {h : A3} {w : World} (R : RelHeap E h w) {st e : Nat} {el : TI} {ats : Array TypeId} {ty : TypeId} (hst : ats[0]? = some st) (hu : P.underlying st = some (.slice e)) (hel : tt e = some el)
  {d x v:AV} {yd yx:Value} {h':A3} (hd:VRel E d yd) (hx:VRel E x yx) (he:M8 el.ty d x h=some (v,h')) :
  ∃ w' y,(Builtin.copy_ ats ty #[yd,yx]).run P w=.ok y w'∧VRel E v y∧Moves E h w E h' w':=by
 unfold M8 at he
 obtain ⟨new,hnew,he⟩:=bnd_eq_some.1 he
 obtain ⟨n,hrl,he⟩:=bnd_eq_some.1 he
 obtain ⟨n',l,k1,k2,k3,k4,k5⟩:=A05 (P:=P) R hnew hx
 have:n=n':=by rw [hrl] at k1;exact Option.some.inj k1
 subst this
 cases d with
 | nilslice =>
  simp at he;obtain ⟨rfl,rfl⟩:=he
  simp only [VRel] at hd;subst hd
  refine ⟨w,goInt 0,?_,rfl,Moves.refl R⟩
  have:=k5 w rfl 0 (Nat.zero_le _)
  simp only [Builtin.copy_,hst]
  simp [Sem.run_bind,run_underlying hu w,k4,P7 T hel w,this]
 | slice i ver path t' off len cap =>
  have he2:(if Ty.beq t' el.ty then bnd (blkAt h i ver) fun b=>if b.mode=.ro then none else bnd (b.v.get path) fun r=>bnd (r.splice off (min n len) new) fun r'=>bnd (b.v.put path r') fun v'=>some (AV.int .i64 (min n len:Nat),h.set i { b with v:=v' }) else none)=some (v,h'):=he
  clear he
  split at he2
  ·rename_i hbt
   have hte:=Ty.beq_eq _ _ hbt
   subst hte
   obtain ⟨b,hb,he⟩:=bnd_eq_some.1 he2
   split at he
   ·cases he
   ·rename_i hmode
    obtain ⟨r,hg,he⟩:=bnd_eq_some.1 he
    obtain ⟨r',hsp,he⟩:=bnd_eq_some.1 he
    obtain ⟨v',hput,he⟩:=bnd_eq_some.1 he
    simp at he;obtain ⟨rfl,rfl⟩:=he
    simp only [VRel] at hd
    obtain ⟨a,c,rfl,hi,hv,hlen,hcap,hcn,hs⟩:=hd
    obtain ⟨hbi,hbv⟩:=Q8 hb
    have hver:ver=E.ver i:=by rw [←hbv];exact (R.at_ i b hbi).ver
    obtain ⟨o,q,hsub,ha,hroom⟩:=hs hver
    obtain ⟨w',hr,hm⟩:=A4j (P:=P) R hsub hb hmode hg hsp hput k2 k3
    refine ⟨w',goInt (min n len:Nat),?_,rfl,hm⟩
    have hfc:=k5 w rfl (min n len) (Nat.min_le_left _ _)
    simp only [Builtin.copy_,hst]
    simp only [List.getElem?_toArray,List.getElem?_cons_zero,List.getElem?_cons_succ,Sem.run_bind,run_underlying hu w,Result.andThen_ok,k4,P7 T hel w]
    rw [show Nat.min n len=min n len from rfl,hfc]
    simp only [Result.andThen_ok]
    by_cases hc0:c=0
    ·have hl0:len=0:=by omega
     subst hl0
     simp only [Nat.min_zero,Nat.zero_mul,List.take_zero] at hr hm ⊢
     have hw:w'=w:=by
      simp only [storeCells,Sem.run_pure] at hr
      injection hr with _ hr;exact hr.symm
     subst hw
     simp [storeCells]
    ·rw [ha hc0]
     simp only [hr,Result.andThen_ok,Sem.run_pure]
  ·cases he2
 | _ => simp at he
end Go.Vab

namespace Go.Vab
open Go
theorem F3o (z:Array Value) (n:Nat):(Builtin.zeroCells z n).size=n * z.size:=by
 simp [Builtin.zeroCells]
section
variable {P:Program} {tt:Nat→Option TI} (T:TTok P tt) {E:Gh} {h:A3} {w:World} (R:RelHeap E h w)
 {st xt e:Nat} {el:TI} {ats:Array TypeId} {ty:TypeId} (hst:ats[0]?=some st) (hxt:ats[1]?=some xt) (hu:P.underlying st=some (.slice e)) (hel:tt e=some el)
 {dx:TypeDesc} (hux:P.underlying xt=some dx) (hdx:∀ k,dx≠.int k)
include T hst hxt hu hel hux hdx
theorem A0T {base : Option Addr} {len cap n : Nat} {yx : Value} {new : Array Value} (hn : (Builtin.lenOf yx).run P w = .ok n w) (hle : len + n ≤ cap)
  (hnew:(Builtin.firstCells el.ty.size n yx).run P w=.ok new w) :
  (Builtin.append_ ats ty #[.slice base len cap,yx]).run P w =
   ((match base with|some a=>storeCells (a.add (len * el.ty.size)) new.toList|none=>pure ():Sem Unit).run P w).andThen fun _ w'=>.ok (.slice base (len+n) cap) w':=by
 simp only [Builtin.append_,hst,hxt]
 simp only [List.getElem?_toArray,List.getElem?_cons_zero,List.getElem?_cons_succ,Sem.run_bind,run_underlying hu w,run_underlying hux w,Result.andThen_ok,P7 T hel w]
 simp only [Sem.run_pure,Result.andThen_ok]
 cases dx <;> first
  | exact absurd rfl (hdx _)
  | (simp only [Bool.false_eq_true, if_false, Sem.run_bind, hn, Result.andThen_ok, Bool.not_false, if_true, hle, hnew]
     cases base <;> simp only [Sem.run_bind,Sem.run_pure,Result.andThen_ok])
theorem B6N {base : Option Addr} {len cap n : Nat} {yx : Value} {old new : Array Value} (hn : (Builtin.lenOf yx).run P w = .ok n w) (hgt : cap < len + n)
  (hold:∀ w',w'.heap=w.heap→(Builtin.firstCells el.ty.size len (.slice base len cap)).run P w'=.ok old w')
  (hnew:∀ w',w'.heap=w.heap→(Builtin.firstCells el.ty.size n yx).run P w'=.ok new w')
  (hb1:(len+n) * el.bytes≤E0) (hb2:len+n≤E0) (hb3:el.bytes≤1000000) (hsz:old.size+new.size=(len+n) * el.ty.size) :
  ∃ c w' arr rest,(Builtin.append_ ats ty #[.slice base len cap,yx]).run P w=.ok (.slice (some ⟨w.heap.size,0,none⟩) (len+n) c) w' ∧
   w'.heap=w.heap.push (.cells arr e (0,0))∧arr.toList=old.toList++new.toList++rest∧arr.size=c * el.ty.size∧len+n≤c∧Io w w':=by
 obtain ⟨f,z0,hf,hfs,hfb,hz0,hzr⟩:=T.info e el hel
 obtain ⟨z,hz,hzrel⟩:=A1f T hel { w with drawn:=w.drawn+1 }
 have hzc:=VRl.len (E:=⟨0,fun _ => 0,fun _ => 0,fun _ => 0,fun _ => 0,fun _ => false,fun _ => .cell⟩) el.zero el.ty _ (T.zero e el hel) (VRel.cells (T.zero e el hel) (hzrel _))
 have hti:∀ w,(typeInfo e).run P w=.ok f w:=fun w=>by simp [typeInfo,hf]
 have hcapb:¬ (Builtin.nextslicecap (len+n) cap * f.bytes > 2 ^ 48):=by
  have h1:=D60 (len+n) cap hgt
  have h2:Builtin.nextslicecap (len+n) cap * f.bytes≤((len+n)+(len+n) / 4+512) * f.bytes:=Nat.mul_le_mul_right _ h1
  rw [hfb] at h2 ⊢
  have h3:(len+n) / 4 * el.bytes≤(len+n) * el.bytes / 4:=by
   rw [Nat.le_div_iff_mul_le (by omega)]
   have:(len+n) / 4 * el.bytes * 4=((len+n) / 4 * 4) * el.bytes:=by rw [Nat.mul_assoc,Nat.mul_comm el.bytes 4,←Nat.mul_assoc]
   rw [this]
   exact Nat.mul_le_mul_right _ (Nat.div_mul_le_self _ _)
  rw [Nat.add_mul,Nat.add_mul] at h2
  unfold E0 at hb1
  omega
 have hcut:∀ t,len+n≤(Question.appendCap (len+n) cap e).cut t:=fun t=>by simp [Question.cut]
 obtain ⟨c,hc⟩:∃ c,c=(Question.appendCap (len+n) cap e).cut (w.tape w.drawn (.appendCap (len+n) cap e)):=⟨_,rfl⟩
 have hcge:len+n≤c:=by rw [hc];exact hcut _
 refine ⟨c,{ w with drawn:=w.drawn+1,heap:=w.heap.push (.cells (old++new++Builtin.zeroCells z.cells (c - (len+n))) e (0,0)) },old++new++Builtin.zeroCells z.cells (c - (len+n)),(Builtin.zeroCells z.cells (c - (len+n))).toList,?_,rfl,by simp,?_,hcge,⟨rfl,rfl,rfl⟩⟩
 ·have hle:¬ (len+n≤cap):=by omega
  have hmax:¬ (((len+n:Nat):Int) > IntKind.i64.max):=by
   unfold E0 at hb2
   simp [IntKind.max,IntKind.signed,IntKind.bits];omega
  simp only [Builtin.append_,hst,hxt]
  simp only [List.getElem?_toArray,List.getElem?_cons_zero,List.getElem?_cons_succ,Sem.run_bind,run_underlying hu w,run_underlying hux w,Result.andThen_ok,P7 T hel w]
  simp only [Sem.run_pure,Result.andThen_ok]
  have key:((Builtin.firstCells el.ty.size len (.slice base len cap)).run P { w with drawn:=w.drawn+1 })=.ok old { w with drawn:=w.drawn+1 }:=hold _ rfl
  have key2:((Builtin.firstCells el.ty.size n yx).run P { w with drawn:=w.drawn+1 })=.ok new { w with drawn:=w.drawn+1 }:=hnew _ rfl
  cases dx <;> first
   | exact absurd rfl (hdx _)
   | (simp only [Bool.false_eq_true,if_false,Sem.run_bind,hn,Result.andThen_ok,Bool.not_false,if_true,hle,hti,hmax,false_and,hcapb,run_choose,Question.forced,run_askRoom,key,key2,hz,newRow,run_newObj,Sem.run_pure,←hc])
 ·rw [Array.size_append,Array.size_append,hsz,F3o]
  have:z.cells.size=el.ty.size:=by rw [←Array.length_toList];exact hzc
  rw [this,←Nat.add_mul]
  congr 1
  omega
end
theorem D7K {E : Gh} {h : A3} {w w' : World} (R : RelHeap E h w) {t : Ty} {row : AV} {n c : Nat} (hrow : A4 row (.arr n t) = true) {l rest : List Value} (hl : VRl E row l)
  {arr:Array Value} {te:TypeId} (hw:w'.heap=w.heap.push (.cells arr te (0,0))) (ha:arr.toList=l++rest) (hs:arr.size=c * t.size) (hc:n≤c) (hio:Io w w') :
  ∃ E',VRel E' (U5 t row n h).1 (.slice (some ⟨w.heap.size,0,none⟩) n c)∧Moves E h w E' (U5 t row n h).2 w':=by
 refine ⟨E.push w.heap.size arr.size n true (.arr 0 t),?_,?_⟩
 ·simp only [U5,VRel]
  refine ⟨_,c,rfl,by simp [Gh.push,R.n],by simp [Gh.push,R.n],hc,by simp,fun _ => ⟨by omega,by omega⟩,fun _ => ⟨0,0,by simp [Gh.push,R.n,Ty.sub],fun _ => by simp [Gh.push,R.n],fun _ => ⟨rfl,?_⟩⟩⟩
  simp only [Gh.push,R.n,if_true,Nat.zero_add,hs];exact Nat.le_refl _
 ·exact A1i R ⟨row,n,.open⟩ arr.size true (.arr 0 t) (by simp) (by simp only [if_true];exact ⟨n,t,rfl,hrow⟩) (fun _ => ⟨rfl,j9 hrow⟩) hl (.inl ⟨arr,te,(0,0),rest,hw,ha,rfl,by simp⟩) hio
theorem F3s {P : Program} {tt : Nat → Option TI} (T : TTok P tt) {E : Gh} {h : A3} {w : World} (R : RelHeap E h w)
  {st xt e:Nat} {el:TI} {ats:Array TypeId} {ty:TypeId} (hst:ats[0]?=some st) (hxt:ats[1]?=some xt) (hu:P.underlying st=some (.slice e)) (hel:tt e=some el) (hne:el.ty.size≠0)
  {dx:TypeDesc} (hux:P.underlying xt=some dx) (hdx:∀ k,dx≠.int k)
  {s x v:AV} {ys yx:Value} {h':A3} (hs:VRel E s ys) (hx:VRel E x yx) (he:D6C el.ty el.bytes s x h=some (v,h')) :
  ∃ E' w' y,(Builtin.append_ ats ty #[ys,yx]).run P w=.ok y w'∧VRel E' v y∧Moves E h w E' h' w':=by
 unfold D6C at he
 obtain ⟨new,hnew,he⟩:=bnd_eq_some.1 he
 obtain ⟨n,hrl,he⟩:=bnd_eq_some.1 he
 obtain ⟨n',ln,k1,k2,k3,k4,k5⟩:=A05 (P:=P) R hnew hx
 have e1:n=n':=by rw [hrl] at k1;exact Option.some.inj k1
 subst e1
 have hlnew:=VRl.len new _ _ k2 k3
 simp only [Ty.size] at hlnew
 have k5w:∀ w':World,w'.heap=w.heap→(Builtin.firstCells el.ty.size n yx).run P w'=.ok ln.toArray w':=fun w' hw'=>by
  have:=k5 w' hw' n (Nat.le_refl _)
  rwa [←hlnew,List.take_length] at this
 cases s with
 | nilslice =>
  simp only [VRel] at hs;subst hs
  have he2:(if n=0 then some (AV.nilslice,h) else if n * el.bytes≤E0∧n≤E0∧el.bytes≤1000000 then some (U5 el.ty new n h) else none)=some (v,h'):=he
  clear he
  by_cases hn0:n=0
  ·rw [if_pos hn0] at he2
   simp at he2;obtain ⟨rfl,rfl⟩:=he2
   have hln:ln=[]:=List.eq_nil_of_length_eq_zero (by rw [hlnew,hn0];simp)
   refine ⟨E,w,.slice none 0 0,?_,by simp only [VRel],Moves.refl R⟩
   rw [A0T T hst hxt hu hel hux hdx k4 (by omega) (k5w w rfl)]
   simp [hn0]
  ·rw [if_neg hn0] at he2
   split at he2
   ·rename_i hb
    obtain ⟨c,w',arr,rest,h1,h2,h3,h4,h5,hio⟩:=B6N (P:=P) T hst hxt hu hel hux hdx (base:=none) (len:=0) (cap:=0) (ty:=ty) k4 (by omega) (old:=#[]) (fun w' _ => by simp [Builtin.firstCells]) k5w
     (by simpa using hb.1) (by simpa using hb.2.1) hb.2.2 (by simp [hlnew])
    simp only [Nat.zero_add] at h1 h5
    obtain ⟨E',g1,g2⟩:=D7K R (te:=e) k2 k3 h2 (by rw [h3];simp;rfl) h4 h5 hio
    simp at he2
    rw [he2] at g1 g2
    exact ⟨E',w',_,h1,g1,g2⟩
   ·cases he2
 | slice i ver path t' off len cap =>
  have he2:(bnd (C7 el.ty (.slice i ver path t' off len cap) h) fun old=>bnd (old.join new) fun all =>
   if (len+n) * el.bytes≤E0∧len+n≤E0∧el.bytes≤1000000 then
    match cap with
    | none=>bnd (blkAt h i ver) fun b=>if b.mode=.open∧path=[]∧off=0∧len=ver then some (.slice i (len+n) [] t' 0 (len+n) none,h.set i { b with v:=all,ver:=len+n }) else none
    | some c =>
     if c=0 then some (U5 el.ty all (len+n) h)
     else if len+n≤c then bnd (blkAt h i ver) fun b=>if b.mode=.ro then none else bnd (b.v.get path) fun r=>bnd (r.splice (off+len) n new) fun r'=>bnd (b.v.put path r') fun v'=>some (.slice i ver path t' off (len+n) (some c),h.set i { b with v:=v' })
     else some (U5 el.ty all (len+n) h)
   else none)=some (v,h'):=he
  clear he
  obtain ⟨old,hold,he⟩:=bnd_eq_some.1 he2
  obtain ⟨all,hall,he⟩:=bnd_eq_some.1 he
  clear he2
  obtain ⟨no,lo,o1,o2,o3,o4,o5⟩:=A05 (P:=P) R hold hs
  have hs':=hs
  simp only [VRel] at hs
  obtain ⟨a,c,rfl,hi,hv,hlen,hcap,hcn,hslc⟩:=hs
  have hno:no=len:=by
   simp only [Builtin.lenOf,Sem.run_pure] at o4
   injection o4 with o4 _;exact o4.symm
  subst hno
  have hlold:=VRl.len old _ _ o2 o3
  simp only [Ty.size] at hlold
  obtain ⟨j1,j2⟩:=A29 hall o2 k2 o3 k3
  have hold':∀ w':World,w'.heap=w.heap→(Builtin.firstCells el.ty.size no (.slice (some a) no c)).run P w'=.ok lo.toArray w':=fun w' hw'=>by
   have:=o5 w' hw' no (Nat.le_refl _)
   rwa [←hlold,List.take_length] at this
  split at he
  ·rename_i hb
   -- a new row,wherever there is no room
   have hfresh:c < no+n→some (U5 el.ty all (no+n) h)=some (v,h')→∃ E' w' y,(Builtin.append_ ats ty #[.slice (some a) no c,yx]).run P w=.ok y w'∧VRel E' v y∧Moves E h w E' h' w':=by
    intro hgt he
    obtain ⟨c',w',arr,rest,h1,h2,h3,h4,h5,hio⟩:=B6N (P:=P) T hst hxt hu hel hux hdx (base:=some a) (len:=no) (cap:=c) (ty:=ty) k4 hgt hold' k5w hb.1 hb.2.1 hb.2.2 (by simp [hlnew,hlold,Nat.add_mul])
    obtain ⟨E',g1,g2⟩:=D7K R (te:=e) j1 j2 h2 (by rw [h3]) h4 h5 hio
    simp at he
    rw [he] at g1 g2
    exact ⟨E',w',_,h1,g1,g2⟩
   cases cap with
   | none =>
    have he2:(bnd (blkAt h i ver) fun b=>if b.mode=.open∧path=[]∧off=0∧no=ver then some (AV.slice i (no+n) [] t' 0 (no+n) none,h.set i { b with v:=all,ver:=no+n }) else none)=some (v,h'):=he
    clear he
    obtain ⟨b,hbk,he⟩:=bnd_eq_some.1 he2
    split at he
    ·rename_i hcond
     obtain ⟨hM,hp0,ho0,hnv⟩:=hcond
     have he3:=Option.some.inj he
     clear he he2
     subst hp0;subst ho0
     obtain ⟨e1,e2⟩:=Prod.mk.inj he3
     subst e1;subst e2
     clear he3
     obtain ⟨hbi,hbv⟩:=Q8 hbk
     have hver:ver=E.ver i:=by rw [←hbv];exact (R.at_ i b hbi).ver
     obtain ⟨o,q,hsub,ha,hrm⟩:=hslc hver
     obtain ⟨ho,hroom⟩:=hrm rfl
     have B:=R.at_ i b hbi
     obtain ⟨hmany,hrl2⟩:=B.grow hM
     have hte:t'=el.ty:=by
      simp only [C7] at hold
      split at hold
      ·rename_i hbt;exact Ty.beq_eq _ _ hbt
      ·cases hold
     subst hte
     have hf:=B.fits
     unfold O1 at hf
     rw [if_pos hmany] at hf
     obtain ⟨m,t0,hty,hbty⟩:=hf
     rw [hty] at hsub;simp [Ty.sub] at hsub
     obtain ⟨rfl,rfl,rfl⟩:=hsub
     have hmno:m=no:=by
      rw [j9 hbty] at hrl2
      have:=Option.some.inj hrl2
      omega
     subst hmno
     obtain ⟨L,hL,hpl,hnp⟩:=B.body (d8 hbk)
     have hLlen:=VRl.len b.v _ L hbty hL
     simp only [Ty.size] at hLlen
     have hcut:b.v.cut 0 m=some old:=by
      simp only [C7,Ty.beq_self,if_true,hbk,G9] at hold
      obtain ⟨r,hr,hc⟩:=bnd_eq_some.1 hold
      have:b.v=r:=by cases hx:b.v <;> rw [hx] at hr <;> simpa [AV.get] using hr
      rw [this];exact hc
     obtain ⟨q1,_,q3⟩:=A3I hcut hbty hL
     rw [Nat.zero_mul,List.drop_zero,←hLlen,List.take_length] at q3
     obtain ⟨_,jL⟩:=A29 hall o2 k2 q3 k3
     by_cases hn0:n=0
     ·have hlz:ln=[]:=List.eq_nil_of_length_eq_zero (by rw [hlnew,hn0];simp)
      subst hn0
      rw [hlz,List.append_nil] at jL
      have hblk:({ b with v:=all,ver:=m+0 }:Blk)={ b with v:=all }:=by rw [Nat.add_zero,hnv,←hbv]
      rw [hblk]
      refine ⟨E,w,.slice (some a) (m+0) c,?_,?_,?_⟩
      ·rw [A0T T hst hxt hu hel hux hdx k4 (by omega) (k5w w rfl)]
       simp [hlz,storeCells]
      ·have e1:m+0=ver:=by omega
       rw [e1]
       rw [hnv] at hs'
       simpa only [VRel] using hs'
      ·refine A28 R hbi all (by rw [hM];simp) (d8 hbk) (by unfold O1;rw [if_pos hmany];exact ⟨_,_,hty,j1⟩) (fun _ => by rw [j9 j1];congr 1;omega) jL ⟨fun hP=>?_,hnp⟩ rfl (fun k _ => rfl) (Io.refl w)
       obtain ⟨arr,te,fr,pre,post,g1,g2,g3,g4⟩:=hpl hP
       obtain ⟨g5,g6,g7⟩:=g4 (by rw [hM];simp)
       have:pre=[]:=List.eq_nil_of_length_eq_zero (by omega)
       subst this
       exact ⟨arr,te,fr,post,g1,by simpa using g2,g5,g6,g7⟩
     ·have hgt:E.ver i < m+n:=by omega
      by_cases hrm:m+n≤c
      ·have hP : G8 E i b := by
        intro hh
        rw [hh.2] at hroom
        have:0 < (0+c) * el.ty.size:=Nat.mul_pos (by omega) (Nat.pos_of_ne_zero hne)
        omega
       obtain ⟨arr,te,fr,pre,post,g1,g2,g3,g4⟩:=hpl hP
       obtain ⟨g5,g6,g7⟩:=g4 (by rw [hM];simp)
       have:pre=[]:=List.eq_nil_of_length_eq_zero (by omega)
       subst this
       have hfit2:(m+n) * el.ty.size≤arr.size:=by
        rw [←g6]
        refine Nat.le_trans (Nat.mul_le_mul_right _ ?_) hroom
        omega
       rw [Nat.add_mul] at hfit2
       obtain ⟨w',arr',r1,rio,r2,r3,r4,r5,r6⟩:=A4Y (P:=P) te fr (E.blk i) (m * el.ty.size) ln w 0 arr g1 (VRl.one new ln k3) (by rw [hlnew];omega) g7
       refine ⟨_,w',.slice (some a) (m+n) c,?_,?_,D7W R hbi hM all hgt (E.blk i) hty j1 rfl jL r4 (post:=arr.toList.drop (m * el.ty.size+n * el.ty.size)) ?_ (by rw [r5];exact g7) (by omega) (fun k hk _ => r3 k hk) (.inl ⟨rfl,hP⟩) rio⟩
       ·rw [A0T T hst hxt hu hel hux hdx k4 hrm (k5w w rfl)]
        have hae:=ha (by omega)
        simp only [hae,T3,g5,Nat.zero_mul,Nat.zero_add]
        rw [r1];rfl
       ·simp only [VRel]
        refine ⟨a,c,rfl,by simp [Gh.renew];exact hi,by simp [Gh.renew],hrm,by simp,fun _ => ⟨by omega,by omega⟩,fun _ => ⟨0,0,by simp [Gh.renew,hty,Ty.sub],fun _ => ?_,fun _ => ⟨rfl,?_⟩⟩⟩
        ·rw [ha (by omega)];simp [Gh.renew,g5]
        ·simp only [Gh.renew,if_true];rw [r5,←g6];exact hroom
       ·rw [r6,g2]
        simp only [List.nil_append,Nat.add_zero]
        rw [←hLlen,List.take_left',hlnew]
        rfl
      ·obtain ⟨c',w',arr,rest,h1,h2,h3,h4,h5,hio⟩:=B6N (P:=P) T hst hxt hu hel hux hdx (base:=some a) (len:=m) (cap:=c) (ty:=ty) k4 (by omega) hold' k5w hb.1 hb.2.1 hb.2.2 (by simp [hlnew,hlold,Nat.add_mul])
       refine ⟨_,w',_,h1,?_,D7W R hbi hM all hgt w.heap.size hty j1 rfl j2 (arr:=arr) (te:=e) (fr:=(0,0)) (post:=rest) (by rw [h2];simp) (by rw [h3]) (by simp) (by rw [h2];simp) (fun k _ hk=>by rw [h2,Array.getElem?_push,if_neg (by omega)]) (.inr (Nat.le_refl _)) hio⟩
       simp only [VRel]
       refine ⟨_,c',rfl,by simp [Gh.renew];exact hi,by simp [Gh.renew],h5,by simp,fun _ => ⟨by omega,by omega⟩,fun _ => ⟨0,0,by simp [Gh.renew,hty,Ty.sub],fun _ => by simp [Gh.renew],fun _ => ⟨rfl,?_⟩⟩⟩
       simp only [Gh.renew,if_true,Nat.zero_add,h4];exact Nat.le_refl _
    ·cases he
   | some c0 =>
    have hc0:c=c0:=hcap c0 rfl
    subst hc0
    have he2:(if c=0 then some (U5 el.ty all (no+n) h)
     else if no+n≤c then bnd (blkAt h i ver) fun b=>if b.mode=.ro then none else bnd (b.v.get path) fun r=>bnd (r.splice (off+no) n new) fun r'=>bnd (b.v.put path r') fun v'=>some (AV.slice i ver path t' off (no+n) (some c),h.set i { b with v:=v' })
     else some (U5 el.ty all (no+n) h))=some (v,h'):=he
    clear he
    by_cases hcz:c=0
    ·rw [if_pos hcz] at he2
     by_cases hn0:n=0
     ·-- nothing is added to nothing
      simp at he2
      have hno0:no=0:=by omega
      have hlz:lo++ln=[]:=List.eq_nil_of_length_eq_zero (by rw [List.length_append,hlold,hlnew,hn0,hno0];simp)
      rw [hlz] at j2
      subst hn0;subst hno0
      obtain ⟨rfl,rfl⟩:v=(U5 el.ty all (0+0) h).1∧h'=(U5 el.ty all (0+0) h).2:=by rw [he2];exact ⟨rfl,rfl⟩
      clear he2
      refine ⟨E.push w.heap.size 0 0 true (.arr 0 el.ty),w,.slice (some a) 0 c,?_,?_,?_⟩
      ·rw [A0T T hst hxt hu hel hux hdx k4 (by omega) (k5w w rfl)]
       have:ln=[]:=List.eq_nil_of_length_eq_zero (by rw [hlnew];simp)
       simp [this,storeCells]
      ·simp only [U5,VRel]
       exact ⟨a,c,rfl,by simp [Gh.push,R.n],by simp [Gh.push,R.n],by omega,by simp,fun _ => ⟨by omega,by omega⟩,fun _ => ⟨0,0,by simp [Gh.push,R.n,Ty.sub],fun hc=>absurd hcz hc,fun _ => ⟨rfl,by rw [hcz];simp⟩⟩⟩
      ·exact A1i R ⟨all,0,.open⟩ 0 true (.arr 0 el.ty) (by simp) (by simp only [if_true];exact ⟨_,_,rfl,j1⟩) (fun _ => ⟨rfl,j9 j1⟩) j2 (.inr ⟨rfl,rfl,rfl,rfl⟩) (Io.refl w)
     ·exact hfresh (by omega) he2
    ·rw [if_neg hcz] at he2
     by_cases hroom:no+n≤c
     ·rw [if_pos hroom] at he2
      obtain ⟨b,hbk,he⟩:=bnd_eq_some.1 he2
      split at he
      ·cases he
      ·rename_i hmode
       obtain ⟨r,hg,he⟩:=bnd_eq_some.1 he
       obtain ⟨r',hsp,he⟩:=bnd_eq_some.1 he
       obtain ⟨v',hput,he⟩:=bnd_eq_some.1 he
       simp at he;obtain ⟨rfl,rfl⟩:=he
       obtain ⟨hbi,hbv⟩:=Q8 hbk
       have hver:ver=E.ver i:=by rw [←hbv];exact (R.at_ i b hbi).ver
       obtain ⟨o,q,hsub,ha,hrm⟩:=hslc hver
       have hte:t'=el.ty:=by
        simp only [C7] at hold
        split at hold
        ·rename_i hbt;exact Ty.beq_eq _ _ hbt
        ·cases hold
       subst hte
       obtain ⟨w',hr,hm⟩:=A4j (P:=P) R hsub hbk hmode hg hsp hput k2 k3
       refine ⟨E,w',.slice (some a) (no+n) c,?_,?_,hm⟩
       ·rw [A0T T hst hxt hu hel hux hdx k4 hroom (k5w w rfl)]
        rw [←hlnew,List.take_length] at hr
        simp only [ha hcz,T3]
        rw [show E.base i+o+off * el.ty.size+no * el.ty.size=E.base i+o+(off+no) * el.ty.size by rw [Nat.add_mul];omega,hr]
        rfl
       ·simp only [VRel]
        exact ⟨a,c,rfl,hi,hv,hroom,hcap,fun hx=>(by cases hx),fun hvv=>by
         obtain ⟨o',q',s1,s2,s3⟩:=hslc hvv
         exact ⟨o',q',s1,s2,fun hx=>by cases hx⟩⟩
     ·rw [if_neg hroom] at he2
      exact hfresh (by omega) he2
  ·cases he
 | _ => simp at he
end Go.Vab

namespace Go.Vab
open Go
theorem A25 {E:Gh} {v:AV} {x:Value} {n:Nat} (hv:VRel E v x) (h:Q3 v=some n):∃ k,x=.int k (n:Int):=by
 cases v <;> simp [Q3] at h
 obtain ⟨h0,rfl⟩:=h
 simp only [VRel] at hv
 rename_i k m
 exact ⟨k,by rw [hv,Int.toNat_of_nonneg h0]⟩
def N7 (E:Gh):Option AV→Option Value→Prop
 | none,none=>True
 | some v,some x=>VRel E v x
 | _,_ => False
theorem A0X {P : Program} {w : World} {E : Gh} {v : AV} {x : Value} {y n : Nat} (hv : VRel E v x) (h : Q1 v y = some n) (code : BoundsCode) :
  (Instr.sliceBound x y code).run P w=.ok n w∧n≤y:=by
 unfold Q1 at h
 obtain ⟨m,h1,h2⟩:=bnd_eq_some.1 h
 split at h2
 ·simp at h2;subst h2
  obtain ⟨k,rfl⟩:=A25 hv h1
  rename_i hle
  refine ⟨?_,hle⟩
  simp [Instr.sliceBound,asIntOf,hle]
 ·cases h2
theorem A1j {P : Program} {w : World} {E : Gh} {lo hi mx : Option AV} {lo' hi' mx' : Option Value} (hlo : N7 E lo lo') (hhi : N7 E hi hi') (hmx : N7 E mx mx')
  (hsome:¬ (mx.isSome=true∧hi.isNone=true)) {isS:Bool} {len cap cm m u l:Nat} (hcm:cm≤cap) (hm:D3 mx cm cap=some m) (hu:D3 hi (if mx.isSome then m else cm) len=some u) (hl:D3 lo u 0=some l) :
  (Instr.sliceBounds isS len cap lo' hi' mx').run P w=.ok (l,u,m) w∧(lo.isSome=true→l≤u)∧(hi.isSome=true→u≤(if mx.isSome then m else cm))∧(mx.isSome=true→m≤cm):=by
 cases mx with
 | some mv =>
  cases mx' with
  | none=>simp [N7] at hmx
  | some mxv =>
   cases hi with
   | none=>simp at hsome
   | some hv =>
    cases hi' with
    | none=>simp [N7] at hhi
    | some hiv =>
     simp only [N7] at hmx hhi
     simp only [D3,Option.isSome_some,if_true] at hm hu
     -- the bound is asked at the capacity itself
     have hm':Q1 mv cap=some m:=by
      unfold Q1 at hm ⊢
      obtain ⟨q,q1,q2⟩:=bnd_eq_some.1 hm
      rw [q1,G9]
      split at q2
      ·rw [if_pos (by omega)];exact q2
      ·cases q2
     obtain ⟨r1,_⟩:=A0X (P:=P) (w:=w) hmx hm' (if isS then .slice3Acap else .slice3Alen)
     obtain ⟨_,c1⟩:=A0X (P:=P) (w:=w) hmx hm .index
     obtain ⟨r2,c2⟩:=A0X (P:=P) (w:=w) hhi hu .slice3B
     cases lo with
     | none =>
      cases lo' with
      | some _ => simp [N7] at hlo
      | none =>
       simp [D3] at hl;subst hl
       refine ⟨?_,by simp,by simpa using c2,fun _ => c1⟩
       simp [Instr.sliceBounds,Sem.run_bind,r1,r2]
     | some lv =>
      cases lo' with
      | none=>simp [N7] at hlo
      | some lov =>
       simp only [N7] at hlo
       obtain ⟨r3,c3⟩:=A0X (P:=P) (w:=w) hlo hl .slice3C
       refine ⟨?_,fun _ => c3,by simpa using c2,fun _ => c1⟩
       simp [Instr.sliceBounds,Sem.run_bind,r1,r2,r3]
 | none =>
  cases mx' with
  | some _ => simp [N7] at hmx
  | none =>
   simp [D3] at hm;subst hm
   simp only [Option.isSome_none,Bool.false_eq_true,if_false] at hu
   cases hi with
   | none =>
    cases hi' with
    | some _ => simp [N7] at hhi
    | none =>
     simp [D3] at hu;subst hu
     cases lo with
     | none =>
      cases lo' with
      | some _ => simp [N7] at hlo
      | none =>
       simp [D3] at hl;subst hl
       exact ⟨by simp [Instr.sliceBounds],by simp,by simp,by simp⟩
     | some lv =>
      cases lo' with
      | none=>simp [N7] at hlo
      | some lov =>
       simp only [N7] at hlo
       obtain ⟨r3,c3⟩:=A0X (P:=P) (w:=w) hlo hl .sliceB
       exact ⟨by simp [Instr.sliceBounds,r3],fun _ => c3,by simp,by simp⟩
   | some hv =>
    cases hi' with
    | none=>simp [N7] at hhi
    | some hiv =>
     simp only [N7] at hhi
     simp only [D3] at hu
     have hu':Q1 hv cap=some u:=by
      unfold Q1 at hu ⊢
      obtain ⟨q,q1,q2⟩:=bnd_eq_some.1 hu
      rw [q1,G9]
      split at q2
      ·rw [if_pos (by omega)];exact q2
      ·cases q2
     obtain ⟨r2,_⟩:=A0X (P:=P) (w:=w) hhi hu' (if isS then .sliceAcap else .sliceAlen)
     obtain ⟨_,c2⟩:=A0X (P:=P) (w:=w) hhi hu .index
     cases lo with
     | none =>
      cases lo' with
      | some _ => simp [N7] at hlo
      | none =>
       simp [D3] at hl;subst hl
       exact ⟨by simp [Instr.sliceBounds,r2],by simp,by simpa using c2,by simp⟩
     | some lv =>
      cases lo' with
      | none=>simp [N7] at hlo
      | some lov =>
       simp only [N7] at hlo
       obtain ⟨r3,c3⟩:=A0X (P:=P) (w:=w) hlo hl .sliceB
       exact ⟨by simp [Instr.sliceBounds,Sem.run_bind,r2,r3],fun _ => c3,by simpa using c2,by simp⟩
theorem A4C {lo:Option AV} {u l:Nat} (h:D3 lo u 0=some l):l≤u:=by
 cases lo with
 | none=>simp [D3] at h;omega
 | some v =>
  simp only [D3,Q1] at h
  obtain ⟨n,_,h2⟩:=bnd_eq_some.1 h
  split at h2
  ·simp at h2;omega
  ·cases h2
section
variable {P:Program} {tt:Nat→Option TI} (T:TTok P tt) {E:Gh} {w:World} {lo hi mx:Option AV} {lo' hi' mx':Option Value}
 (hlo:N7 E lo lo') (hhi:N7 E hi hi') (hmx:N7 E mx mx') (hsome:¬ (mx.isSome=true∧hi.isNone=true))
include T hlo hhi hmx hsome
theorem D7E {t : Ty} {n : Nat} {u : Ty} (het : t = .arr n u) {e : Nat} {el : TI} (hel : tt e = some el) (helu : el.ty = u) {x v : AV} {xv : Value} (hx : VRel E x xv) (hv : A1J t x lo hi mx = some v) :
  ∃ a l h m,(Instr.sliceBounds false n n lo' hi' mx').run P w=.ok (l,h,m) w∧xv=.pointer (some a) ∧
   VRel E v (.slice (some (if m=l then a else a.add (l * el.ty.size))) (h - l) (m - l)):=by
 subst het
 cases x with
 | ptr i ver path t' =>
  have hv2:(if Ty.beq t' (.arr n u) then bnd (D3 mx n n) fun m=>bnd (D3 hi m n) fun q=>bnd (D3 lo q 0) fun l=>some (AV.slice i ver path u l (q - l) (some (m - l))) else none)=some v:=hv
  clear hv
  split at hv2
  ·rename_i hbt
   have hte:=Ty.beq_eq _ _ hbt
   subst hte
   obtain ⟨m,hm,hv2⟩:=bnd_eq_some.1 hv2
   obtain ⟨q,hq,hv2⟩:=bnd_eq_some.1 hv2
   obtain ⟨l,hl,hv2⟩:=bnd_eq_some.1 hv2
   simp at hv2;subst hv2
   have hq':D3 hi (if mx.isSome then m else n) n=some q:=by
    cases mx with
    | none=>simp [D3] at hm;subst hm;simpa using hq
    | some _ => simpa using hq
   obtain ⟨r1,r2,r3,r4⟩:=A1j (P:=P) (w:=w) hlo hhi hmx hsome (isS:=false) (Nat.le_refl n) hm hq' hl
   simp only [VRel] at hx
   obtain ⟨a,rfl,h1,h2,h3,h4⟩:=hx
   refine ⟨a,l,q,m,r1,rfl,?_⟩
   have hlq:l≤q:=A4C hl
   have hqm:q≤m:=by
    cases mx with
    | none =>
     simp [D3] at hm;subst hm
     cases hi with
     | none=>simp [D3] at hq;omega
     | some _ => simpa using r3 rfl
    | some _ =>
     cases hi with
     | none=>simp at hsome
     | some _ => simpa using r3 rfl
   simp only [VRel]
   refine ⟨_,m - l,rfl,h1,h2,by omega,fun x hx=>Option.some.inj hx,fun hx=>(by cases hx),fun hvv=>?_⟩
   obtain ⟨o,hs,rfl⟩:=h4 hvv
   refine ⟨o,n,hs,fun hne=>?_,fun h=>by cases h⟩
   rw [if_neg (by omega),T3,helu]
  ·cases hv2
 | _ => simp [A1J] at hv
theorem F3t {e : Nat} {el : TI} (hel : tt e = some el) {t : Nat} (hu : P.underlying t = some (.slice e)) {x v : AV} {xv : Value} (hx : VRel E x xv) (hv : C9 el.ty x lo hi mx = some v) :
  ∃ y,(Instr.sliceAt t xv lo' hi' mx').run P w=.ok y w∧VRel E v y:=by
 have main : ∀ (a : Option Addr) (len c l q m : Nat), (Instr.sliceBounds true len c lo' hi' mx').run P w = .ok (l, q, m) w →
   (Instr.sliceAt t (.slice a len c) lo' hi' mx').run P w=.ok (.slice (if m=l then a else a.map (·.add (l * el.ty.size))) (q - l) (m - l)) w:=by
  intro a len c l q m hb
  simp only [Instr.sliceAt,Sem.run_bind,run_underlying hu w,Result.andThen_ok,Instr.slice,hb,P7 T hel w,Sem.run_pure]
 cases x with
 | nilslice =>
  have hv2:(bnd (D3 mx 0 0) fun m=>bnd (D3 hi m 0) fun u=>bnd (D3 lo u 0) fun _ => some AV.nilslice)=some v:=hv
  obtain ⟨m,hm,hv2⟩:=bnd_eq_some.1 hv2
  obtain ⟨q,hq,hv2⟩:=bnd_eq_some.1 hv2
  obtain ⟨l,hl,hv2⟩:=bnd_eq_some.1 hv2
  simp at hv2;subst hv2
  simp only [VRel] at hx;subst hx
  have hq':D3 hi (if mx.isSome then m else 0) 0=some q:=by
   cases mx with
   | none=>simp [D3] at hm;subst hm;simpa using hq
   | some _ => simpa using hq
  obtain ⟨r1,r2,r3,r4⟩:=A1j (P:=P) (w:=w) hlo hhi hmx hsome (isS:=true) (Nat.le_refl 0) hm hq' hl
  refine ⟨_,main none 0 0 l q m r1,?_⟩
  have hlq:l≤q:=A4C hl
  have hm0:m=0:=by
   cases mx with
   | none=>simp [D3] at hm;omega
   | some _ => have:=r4 rfl;omega
  have hq0:q=0:=by
   cases hi with
   | none=>simp [D3] at hq;omega
   | some _ =>
    have:=r3 rfl
    cases mx with
    | none=>simpa using this
    | some _ => simp at this;omega
  have:l=0:=by omega
  subst this;subst hm0;subst hq0
  simp [VRel]
 | slice i ver path t' off len cap =>
  simp only [VRel] at hx
  obtain ⟨a,c,rfl,h1,h2,h3,h4,h6,h5⟩:=hx
  cases cap with
  | some c0 =>
   have hcc:c=c0:=h4 c0 rfl
   subst hcc
   have hv2:(if Ty.beq t' el.ty then bnd (D3 mx c c) fun m=>bnd (D3 hi m len) fun u=>bnd (D3 lo u 0) fun l=>some (AV.slice i ver path el.ty (off+l) (u - l) (some (m - l))) else none)=some v:=hv
   clear hv
   split at hv2
   ·rename_i hbt
    have hte:=Ty.beq_eq _ _ hbt
    subst hte
    obtain ⟨m,hm,hv2⟩:=bnd_eq_some.1 hv2
    obtain ⟨q,hq,hv2⟩:=bnd_eq_some.1 hv2
    obtain ⟨l,hl,hv2⟩:=bnd_eq_some.1 hv2
    simp at hv2;subst hv2
    have hq':D3 hi (if mx.isSome then m else c) len=some q:=by
     cases mx with
     | none=>simp [D3] at hm;subst hm;simpa using hq
     | some _ => simpa using hq
    obtain ⟨r1,r2,r3,r4⟩:=A1j (P:=P) (w:=w) hlo hhi hmx hsome (isS:=true) (Nat.le_refl c) hm hq' hl
    refine ⟨_,main (some a) len c l q m r1,?_⟩
    have hlq:l≤q:=A4C hl
    have hqm:q≤m:=by
     cases mx with
     | none =>
      simp [D3] at hm;subst hm
      cases hi with
      | none=>simp [D3] at hq;omega
      | some _ => simpa using r3 rfl
     | some _ =>
      cases hi with
      | none=>simp at hsome
      | some _ => simpa using r3 rfl
    simp only [VRel]
    refine ⟨if m=l then a else a.add (l * el.ty.size),m - l,?_,h1,h2,by omega,fun x hx=>Option.some.inj hx,fun hx=>(by cases hx),fun hvv=>?_⟩
    ·split <;> rfl
    ·obtain ⟨o,n,hs,ha,_⟩:=h5 hvv
     have hmc:m≤c:=by
      cases mx with
      | none=>simp [D3] at hm;omega
      | some _ => exact r4 rfl
     refine ⟨o,n,hs,fun hne=>?_,fun h=>by cases h⟩
     rw [if_neg (by omega),ha (by omega),T3,Nat.add_mul]
     congr 1;omega
   ·cases hv2
  | none =>
   have hv2:(if Ty.beq t' el.ty then match mx with
    | none=>bnd (D3 hi (ver - off) len) fun u=>bnd (D3 lo u 0) fun l=>some (AV.slice i ver path el.ty (off+l) (u - l) none)
    | some mv=>bnd (Q1 mv (ver - off)) fun m=>bnd (D3 hi m len) fun u=>bnd (D3 lo u 0) fun l=>some (AV.slice i ver path el.ty (off+l) (u - l) (some (m - l)))
    else none)=some v:=hv
   clear hv
   obtain ⟨n1,n2⟩:=h6 rfl
   split at hv2
   ·rename_i hbt
    have hte:=Ty.beq_eq _ _ hbt
    subst hte
    have hvc:ver - off≤c:=by omega
    cases mx with
    | none =>
     have hv3:(bnd (D3 hi (ver - off) len) fun u=>bnd (D3 lo u 0) fun l=>some (AV.slice i ver path el.ty (off+l) (u - l) none))=some v:=hv2
     obtain ⟨q,hq,hv3⟩:=bnd_eq_some.1 hv3
     obtain ⟨l,hl,hv3⟩:=bnd_eq_some.1 hv3
     simp at hv3;subst hv3
     obtain ⟨r1,r2,r3,r4⟩:=A1j (P:=P) (w:=w) (len:=len) (m:=c) hlo hhi hmx hsome (isS:=true) (cm:=ver - off) hvc rfl (by simpa using hq) hl
     refine ⟨_,main (some a) len c l q c r1,?_⟩
     have hlq:l≤q:=A4C hl
     have hqv:q≤ver - off:=by
      cases hi with
      | none=>simp [D3] at hq;omega
      | some _ => simpa using r3 rfl
     simp only [VRel]
     refine ⟨if c=l then a else a.add (l * el.ty.size),c - l,?_,h1,h2,by omega,by simp,fun _ => ⟨by omega,by omega⟩,fun hvv=>?_⟩
     ·split <;> rfl
     ·obtain ⟨o,n,hs,ha,hr⟩:=h5 hvv
      obtain ⟨ho,hroom⟩:=hr rfl
      refine ⟨o,n,hs,fun hne=>?_,fun _ => ⟨ho,?_⟩⟩
      ·rw [if_neg (by omega),ha (by omega),T3,Nat.add_mul]
       congr 1;omega
      ·rw [show off+l+(c - l)=off+c by omega];exact hroom
    | some mv =>
     have hv3:(bnd (Q1 mv (ver - off)) fun m=>bnd (D3 hi m len) fun u=>bnd (D3 lo u 0) fun l=>some (AV.slice i ver path el.ty (off+l) (u - l) (some (m - l))))=some v:=hv2
     obtain ⟨m,hm,hv3⟩:=bnd_eq_some.1 hv3
     obtain ⟨q,hq,hv3⟩:=bnd_eq_some.1 hv3
     obtain ⟨l,hl,hv3⟩:=bnd_eq_some.1 hv3
     simp at hv3;subst hv3
     obtain ⟨r1,r2,r3,r4⟩:=A1j (P:=P) (w:=w) (len:=len) hlo hhi hmx hsome (isS:=true) (cm:=ver - off) hvc (by simpa [D3] using hm) (by simpa using hq) hl
     refine ⟨_,main (some a) len c l q m r1,?_⟩
     have hlq:l≤q:=A4C hl
     have hmv:m≤ver - off:=r4 rfl
     have hqm:q≤m:=by
      cases hi with
      | none=>simp at hsome
      | some _ => simpa using r3 rfl
     simp only [VRel]
     refine ⟨if m=l then a else a.add (l * el.ty.size),m - l,?_,h1,h2,by omega,fun x hx=>Option.some.inj hx,fun hx=>(by cases hx),fun hvv=>?_⟩
     ·split <;> rfl
     ·obtain ⟨o,n,hs,ha,hr⟩:=h5 hvv
      refine ⟨o,n,hs,fun hne=>?_,fun h=>by cases h⟩
      rw [if_neg (by omega),ha (by omega),T3,Nat.add_mul]
      congr 1;omega
   ·cases hv2
 | _ => simp [C9] at hv
end
end Go.Vab

namespace Go.Vab
open Go
theorem A4a:∀ (path:List Nat) (t:Ty) (o n:Nat) (u:Ty) (j:Nat),Ty.sub t path=some (o,.arr n u)→Ty.sub t (path++[j])=some (o+j * u.size,u)
 | [],t,o,n,u,j,h=>by
  have:o=0∧t=.arr n u:=by cases t <;> simp [Ty.sub] at h ⊢ <;> (try exact ⟨h.1.symm,h.2⟩) <;> (try (obtain ⟨a,b,c⟩:=h;exact ⟨a.symm,b,c⟩))
  obtain ⟨rfl,rfl⟩:=this
  simp [Ty.sub]
 | a::r,.arr m t,o,n,u,j,h=>by
  simp only [Ty.sub] at h
  cases hs:Ty.sub t r with
  | none=>rw [hs] at h;cases h
  | some p =>
   obtain ⟨o',u'⟩:=p
   rw [hs] at h;simp at h;obtain ⟨rfl,rfl⟩:=h
   simp only [List.cons_append,Ty.sub,A4a r t o' n u j hs]
   simp;omega
 | a::r,.struct ts,o,n,u,j,h=>by
  simp only [Ty.sub] at h
  cases ht:ts[a]? with
  | none=>rw [ht] at h;cases h
  | some t =>
   simp only [ht] at h
   cases hs:Ty.sub t r with
   | none=>rw [hs] at h;cases h
   | some p =>
    obtain ⟨o',u'⟩:=p
    rw [hs] at h;simp at h;obtain ⟨rfl,rfl⟩:=h
    simp only [List.cons_append,Ty.sub,ht,A4a r t o' n u j hs]
    simp;omega
 | _ :: _,.int _,_,_,_,_,h=>by simp [Ty.sub] at h
 | _ :: _,.cell,_,_,_,_,h=>by simp [Ty.sub] at h
theorem B6M:∀ (path:List Nat) (t:Ty) (o:Nat) (us:List Ty) (u:Ty) (f:Nat),Ty.sub t path=some (o,.struct us)→us[f]?=some u→Ty.sub t (path++[f])=some (o+Ty.sizes (us.take f),u)
 | [],t,o,us,u,f,h,hu=>by
  have:o=0∧t=.struct us:=by cases t <;> simp [Ty.sub] at h ⊢ <;> (try exact ⟨h.1.symm,h.2⟩)
  obtain ⟨rfl,rfl⟩:=this
  simp [Ty.sub,hu]
 | a::r,.arr m t,o,us,u,f,h,hu=>by
  simp only [Ty.sub] at h
  cases hs:Ty.sub t r with
  | none=>rw [hs] at h;cases h
  | some p =>
   obtain ⟨o',u'⟩:=p
   rw [hs] at h;simp at h;obtain ⟨rfl,rfl⟩:=h
   simp only [List.cons_append,Ty.sub,B6M r t o' us u f hs hu]
   simp;omega
 | a::r,.struct ts,o,us,u,f,h,hu=>by
  simp only [Ty.sub] at h
  cases ht:ts[a]? with
  | none=>rw [ht] at h;cases h
  | some t =>
   simp only [ht] at h
   cases hs:Ty.sub t r with
   | none=>rw [hs] at h;cases h
   | some p =>
    obtain ⟨o',u'⟩:=p
    rw [hs] at h;simp at h;obtain ⟨rfl,rfl⟩:=h
    simp only [List.cons_append,Ty.sub,ht,B6M r t o' us u f hs hu]
    simp;omega
 | _ :: _,.int _,_,_,_,_,h,_ => by simp [Ty.sub] at h
 | _ :: _,.cell,_,_,_,_,h,_ => by simp [Ty.sub] at h
section
variable {P:Program} {tt:Nat→Option TI} (T:TTok P tt)
include T
theorem A0U {t : Nat} {i : TI} (ht : tt t = some i) (w : World) {E : Gh} {v : AV} {pre mid post : List Value} (hty : A4 v i.ty = true) (hm : VRl E v mid) :
  (part t (pre++mid++post).toArray pre.length).run P w=.ok (O9 i.ty.isAgg mid) w:=by
 have hl:=VRl.len v _ mid hty hm
 simp only [part,Sem.run_bind,D7C T ht w,Result.andThen_ok]
 cases hA:i.ty.isAgg with
 | true =>
  simp only [if_true,Sem.run_bind,P7 T ht w,Result.andThen_ok,Sem.run_pure,O9]
  congr 2
  apply Array.ext'
  simp [←hl]
 | false =>
  obtain ⟨x,rfl⟩:=D7D hty hm hA
  simp [O9]
variable {E:Gh} {w:World}
theorem F4E {t : Nat} {i : TI} (ht : tt t = some i) {n : Nat} {u : Ty} (hty : i.ty = .arr n u) {x ix v : AV} {xv iv : Value} (hx : VRel E x xv) (hi : VRel E ix iv) (he : A4A (.arr n u) x ix = some v) :
  ∃ y,(Instr.indexAt t xv iv).run P w=.ok y w∧VRel E v y:=by
 obtain ⟨e,j,hu,hej,hju⟩:=T.arr t i n u ht hty
 unfold A4A at he
 obtain ⟨k,hk,he⟩:=bnd_eq_some.1 he
 obtain ⟨kk,rfl⟩:=A25 hi hk
 cases x with
 | ptr b ver path t' =>
  have he2:(if Ty.beq t' (.arr n u)∧k < n then some (AV.ptr b ver (path++[k]) u) else none)=some v:=he
  split at he2
  ·rename_i hc
   have hte:=Ty.beq_eq _ _ hc.1
   subst hte
   simp at he2;subst he2
   simp only [VRel] at hx
   obtain ⟨a,rfl,h1,h2,h3,h4⟩:=hx
   refine ⟨.pointer (some (a.add (k * j.ty.size))),?_,?_⟩
   ·simp only [Instr.indexAt,asIntOf,Sem.run_bind,Sem.run_pure,Result.andThen_ok,run_underlying hu w,Instr.sureAddr]
    simp [hc.2,P7 T hej w]
   ·simp only [VRel]
    refine ⟨_,rfl,h1,h2,by simp,fun hv=>?_⟩
    obtain ⟨o,hs,rfl⟩:=h4 hv
    exact ⟨o+k * u.size,A4a path _ o n u k hs,by rw [T3,hju];congr 1;omega⟩
  ·cases he2
 | _ => simp at he
theorem F4F {t e : Nat} {el : TI} (hel : tt e = some el) (hu : P.underlying t = some (.slice e)) {x ix v : AV} {xv iv : Value} (hx : VRel E x xv) (hi : VRel E ix iv) (he : Q9 el.ty x ix = some v) :
  ∃ y,(Instr.indexAt t xv iv).run P w=.ok y w∧VRel E v y:=by
 unfold Q9 at he
 obtain ⟨k,hk,he⟩:=bnd_eq_some.1 he
 obtain ⟨kk,rfl⟩:=A25 hi hk
 cases x with
 | slice b ver path t' off len cap =>
  have he2:(if Ty.beq t' el.ty∧k < len then some (AV.ptr b ver (path++[off+k]) el.ty) else none)=some v:=he
  split at he2
  ·rename_i hc
   have hte:=Ty.beq_eq _ _ hc.1
   subst hte
   simp at he2;subst he2
   simp only [VRel] at hx
   obtain ⟨a,c,rfl,h1,h2,h3,h4,h5,h6⟩:=hx
   refine ⟨.pointer (some (a.add (k * el.ty.size))),?_,?_⟩
   ·simp only [Instr.indexAt,asIntOf,Sem.run_bind,Sem.run_pure,Result.andThen_ok,run_underlying hu w]
    simp [hc.2,P7 T hel w]
   ·simp only [VRel]
    refine ⟨_,rfl,h1,h2,by simp,fun hv=>?_⟩
    obtain ⟨o,n,hs,ha,_⟩:=h6 hv
    have:=hc.2
    exact ⟨o+(off+k) * el.ty.size,A4a path _ o n el.ty (off+k) hs,by rw [ha (by omega),T3,Nat.add_mul];congr 1;omega⟩
  ·cases he2
 | _ => simp at he
theorem F3l {t : Nat} {i : TI} (ht : tt t = some i) {x v : AV} {xv : Value} {f : Nat} (hx : VRel E x xv) (he : C2 i.ty x f = some v) :
  ∃ y,(Instr.fieldAt t xv f).run P w=.ok y w∧VRel E v y:=by
 cases x with
 | ptr b ver path t' =>
  cases hty:i.ty with
  | struct ts =>
   obtain ⟨fs,hu,hsz,_,hfs⟩:=T.struct t i ts ht hty
   rw [hty] at he
   have he2:(if Ty.beq t' (.struct ts) then match ts[f]? with|some u=>some (AV.ptr b ver (path++[f]) u)|none=>none else none)=some v:=he
   split at he2
   ·rename_i hc
    have hte:=Ty.beq_eq _ _ hc
    subst hte
    cases htf:ts[f]? with
    | none=>rw [htf] at he2;cases he2
    | some u =>
     rw [htf] at he2;simp at he2;subst he2
     have hfl:f < fs.size:=by rw [hsz];exact (List.getElem?_eq_some_iff.1 htf).1
     obtain ⟨_,hoff,j,hj,hju,hj0⟩:=hfs f fs[f] (Array.getElem?_eq_getElem hfl)
     rw [htf] at hju
     have hju:=Option.some.inj hju
     simp only [VRel] at hx
     obtain ⟨a,rfl,h1,h2,h3,h4⟩:=hx
     refine ⟨.pointer (some (a.add fs[f].offset)),?_,?_⟩
     ·simp only [Instr.fieldAt,Sem.run_bind,run_underlying hu w,Result.andThen_ok,Array.getElem?_eq_getElem hfl,Instr.sureAddr,Sem.run_pure,fieldPlace,P7 T hj w,hj0,if_false]
     ·simp only [VRel]
      refine ⟨_,rfl,h1,h2,by simp,fun hv=>?_⟩
      obtain ⟨o,hs,rfl⟩:=h4 hv
      exact ⟨o+Ty.sizes (ts.take f),B6M path _ o ts u f hs htf,by rw [T3,hoff];congr 1;omega⟩
   ·cases he2
  | _ => rw [hty] at he;simp [C2] at he
 | _ => simp [C2] at he
theorem F3z {t : Nat} {i : TI} (ht : tt t = some i) {x v : AV} {xv : Value} {f : Nat} (hx : VRel E x xv) (he : D7 i.ty x f = some v) :
  ∃ y,(Instr.field t xv f).run P w=.ok y w∧VRel E v y:=by
 cases x with
 | node vs =>
  cases hty:i.ty with
  | struct ts =>
   rw [hty] at he
   simp only [D7] at he
   split at he
   ·rename_i hh
    obtain ⟨fs,hu,hsz,_,hfs⟩:=T.struct t i ts ht hty
    obtain ⟨u,htf,hvu⟩:=A1h vs ts f v hh he
    have hfl:f < fs.size:=by rw [hsz];exact (List.getElem?_eq_some_iff.1 htf).1
    obtain ⟨_,hoff,j,hj,hju,hj0⟩:=hfs f fs[f] (Array.getElem?_eq_getElem hfl)
    rw [htf] at hju
    have hju:=Option.some.inj hju
    subst hju
    simp only [VRel] at hx
    obtain ⟨l,rfl,hl⟩:=hx
    obtain ⟨pre,mid,post,rfl,ha,hb,hc⟩:=VRs.getAt vs l f v hl he
    have hpl:=VRs.lenTake vs ts f pre hh ha
    refine ⟨_,?_,VRel.of_cells hvu hb⟩
    simp only [Instr.field,Sem.run_bind,run_underlying hu w,Result.andThen_ok,Array.getElem?_eq_getElem hfl,asAgg,Sem.run_pure]
    rw [hoff,←hpl]
    exact A0U T hj w hvu hb
   ·cases he
  | _ => rw [hty] at he;simp [D7] at he
 | _ => simp [D7] at he
theorem F3u {t : Nat} {i : TI} (ht : tt t = some i) {n : Nat} {u : Ty} (hty : i.ty = .arr n u) {x ix v : AV} {xv iv : Value} (hx : VRel E x xv) (hi : VRel E ix iv) (he : B7M (.arr n u) x ix = some v) :
  ∃ y,(Instr.index t xv iv).run P w=.ok y w∧VRel E v y:=by
 obtain ⟨e,j,hu,hej,hju⟩:=T.arr t i n u ht hty
 unfold B7M at he
 obtain ⟨k,hk,he⟩:=bnd_eq_some.1 he
 obtain ⟨kk,rfl⟩:=A25 hi hk
 split at he
 ·rename_i hh
  have hc:=VRel.cells hh hx
  have hof:=B6O hh hx
  obtain ⟨g1,pre,mid,post,e1,e2,e3⟩:=A3G [k] x v (.arr n u) he hh _ hc (k * u.size) u (by simp [Ty.sub])
  have hkn:k < n:=by
   cases x with
   | ints kx xs =>
    obtain ⟨_,hl⟩:=U3 hh
    simp only [AV.get] at he
    cases hx:xs[k]? with
    | none=>rw [hx] at he;cases he
    | some _ => rw [←hl];exact (List.getElem?_eq_some_iff.1 hx).1
   | node vs =>
    obtain ⟨hl,_⟩:=W6 hh
    simp only [AV.get] at he
    cases hx:vs[k]? with
    | none=>rw [hx] at he;cases he
    | some _ => rw [←hl];exact (List.getElem?_eq_some_iff.1 hx).1
   | _ => simp [A4] at hh
  have hxv:xv=.agg (pre++mid++post).toArray:=by
   rw [←hof,e1];simp [O9,Ty.isAgg]
  subst hju
  refine ⟨_,?_,VRel.of_cells g1 e3⟩
  rw [hxv]
  simp only [Instr.index,asIntOf,Sem.run_bind,Sem.run_pure,Result.andThen_ok,run_underlying hu w]
  have h0:(0:Int)≤(k:Int)∧(k:Int) < (n:Int):=⟨by omega,by omega⟩
  simp only [h0,and_self,if_true,Sem.run_bind,P7 T hej w,Result.andThen_ok,Int.toNat_natCast]
  rw [←e2]
  exact A0U T hej w g1 e3
 ·cases he
theorem D8f {h : A3} (R : RelHeap E h w) {t : Nat} {i : TI} (ht : tt t = some i) {b ver : Nat} {path : List Nat} {t' : Ty} {off n : Nat} {x : Value} {v : AV} (hbt : Ty.beq (.arr n t') i.ty = true)
  (hp:VRel E (.win b ver path t' off n) x) (he:(bnd (blkAt h b ver) fun b=>bnd (b.v.get path) fun r=>r.cut off n)=some v) :
  ∃ y,(Instr.loadAt t x).run P w=.ok y w∧VRel E v y:=by
 have hty:i.ty=.arr n t':=(Ty.beq_eq _ _ hbt).symm
 obtain ⟨blk,hb,he⟩:=bnd_eq_some.1 he
 obtain ⟨r,hg,he⟩:=bnd_eq_some.1 he
 simp only [VRel] at hp
 obtain ⟨a,rfl,h1,h2,h3⟩:=hp
 obtain ⟨hbi,hbv⟩:=Q8 hb
 have hver:ver=E.ver b:=by rw [←hbv];exact (R.at_ b blk hbi).ver
 obtain ⟨o,q,hs,rfl⟩:=h3 hver
 obtain ⟨m,l,g1,g2,g3⟩:=A4c R hver hs hb hg
 obtain ⟨k1,k2,k3⟩:=A3I he g1 g2
 have hl:=VRl.len v _ _ k1 k3
 have k1':A4 v i.ty=true:=by rw [hty];exact k1
 refine ⟨_,?_,VRel.of_cells k1' k3⟩
 simp only [Instr.loadAt,Instr.sureAddr,Sem.run_bind,Sem.run_pure,Result.andThen_ok]
 refine D63 T ht w _ _ (by rw [hl,hty]) (fun h=>by rw [hty] at h;cases h) (fun k x hk=>?_)
 rw [T3]
 have hk1:=(List.getElem?_eq_some_iff.1 hk).1
 rw [hl] at hk1
 simp only [Ty.size] at hk1
 rw [List.getElem?_take_of_lt hk1,List.getElem?_drop] at hk
 have:=g3 _ x hk
 rw [show E.base b+o+off * t'.size+k=E.base b+o+(off * t'.size+k) by omega]
 exact this
end
theorem F4G (a b:ByteArray):(a.toList == b.toList)=decide (a=b):=by
 rw [Bool.eq_iff_iff,beq_iff_eq,decide_eq_true_eq,ByteArray.toList_eq,ByteArray.toList_eq]
 constructor
 ·intro h
  cases a;cases b
  simp only at h
  congr 1
  exact Array.ext' h
 ·intro h;rw [h]
theorem F4a {P:Program} {w:World} {t e:Nat} (hu:P.underlying t=some (.slice e)) (a:Option Addr) (l c:Nat):(Op.equal t (.slice a l c) (.slice none 0 0)).run P w=.ok a.isNone w:=by
 have h:∀ d,(Op.equalIn (d+1) t (.slice a l c) (.slice none 0 0)).run P w=.ok a.isNone w:=fun d=>by cases a <;> simp [Op.equalIn,run_underlying hu]
 exact h 9999
theorem F4b {P:Program} {w:World} {t e:Nat} (hu:P.underlying t=some (.pointer e)) (a:Option Addr):(Op.equal t (.pointer a) (.pointer none)).run P w=.ok a.isNone w:=by
 have h:∀ d,(Op.equalIn (d+1) t (.pointer a) (.pointer none)).run P w=.ok a.isNone w:=fun d=>by cases a <;> simp [Op.equalIn,run_underlying hu]
 exact h 9999
theorem F7j {P : Program} {w : World} {E : Gh} {t t' : Nat} {op : BinOp} {x y v : AV} {xo yo : Operand} {xv yv : Value} (hx : VRel E x xv) (hy : VRel E y yv) (he : C6 op x y = some v) :
  ∃ z,((do eqGuard op t xo yo xv yv;binOp op t' xv yv:Sem Value)).run P w=.ok z w∧VRel E v z:=by
 unfold C6 at he
 split at he
 ·rename_i k a k' b
  simp only [VRel] at hx hy
  subst hx;subst hy
  have hg:(eqGuard op t xo yo (.int k a) (.int k' b)).run P w=.ok () w:=by cases op <;> rfl
  simp only [Sem.run_bind,hg,Result.andThen_ok]
  cases op <;> simp only [L3] at he <;> try (cases he;done)
  all_goals (split at he <;> try (cases he;done))
  all_goals (rename_i hc;simp only [Option.some.injEq] at he;subst he;simp only [VRel];refine ⟨_,?_,rfl⟩)
  all_goals first
   | (subst hc;simp [binOp,Op.intArith,Op.intBits,Op.intCmp];done)
   | (obtain ⟨rfl,hb⟩:=hc;simp [binOp,Op.intDiv,hb];done)
   | (have : ¬ b < 0 := by omega
      simp [binOp,Op.shift,this];done)
   | skip
 ·cases he
theorem F7k {P : Program} {w : World} {E : Gh} {t t' : Nat} {op : BinOp} {x y v : AV} {xo yo : Operand} {xv yv : Value} (hx : VRel E x xv) (hy : VRel E y yv) (he : A0N op x y = some v) :
  ∃ z,((do eqGuard op t xo yo xv yv;binOp op t' xv yv:Sem Value)).run P w=.ok z w∧VRel E v z:=by
 unfold A0N at he
 split at he
 all_goals first
  | (cases he;done)
  | (rename_i a b
     simp only [VRel] at hx hy
     subst hx;subst hy
     simp only [Option.some.injEq] at he;subst he
     simp only [VRel];refine ⟨_,?_,rfl⟩
     have e:=F4G a b
     simp [eqGuard,binOp,Op.stringOp,e])
theorem F51 {P : Program} {w : World} {E : Gh} {t : Nat} (hu : P.underlying t = some .bool) {op : BinOp} {x y v : AV} {xo yo : Operand} {xv yv : Value} (hx : VRel E x xv) (hy : VRel E y yv) (he : A39 op x y = some v) :
  ∃ z,((do eqGuard op t xo yo xv yv;binOp op t xv yv:Sem Value)).run P w=.ok z w∧VRel E v z:=by
 unfold A39 at he
 split at he
 all_goals first
  | (cases he;done)
  | (rename_i a b
     simp only [VRel] at hx hy
     subst hx;subst hy
     simp only [Option.some.injEq] at he;subst he
     simp only [VRel];refine ⟨_,?_,rfl⟩
     have e:=run_equal_bool (P:=P) w t a b hu
     simp [eqGuard,binOp,e])
theorem F7l {P : Program} {w : World} {E : Gh} {t e : Nat} (hu : P.underlying t = some (.slice e)) {op : BinOp} {x y v : AV} {xo yo : Operand} {xv yv : Value} (hx : VRel E x xv) (hy : VRel E y yv) (he : A0O op x y = some v) :
  ∃ z,((do eqGuard op t xo yo xv yv;binOp op t xv yv:Sem Value)).run P w=.ok z w∧VRel E v z:=by
 unfold A0O at he
 split at he
 all_goals first
  | (cases he;done)
  | (simp only [VRel] at hx hy
     first
     | (subst hx)
     | (obtain ⟨a,c,rfl,_⟩:=hx)
     subst hy
     simp only [Option.some.injEq] at he;subst he
     simp only [VRel];refine ⟨_,?_,rfl⟩
     simp [eqGuard,binOp,F4a hu])
theorem F7m {P : Program} {w : World} {E : Gh} {t e : Nat} (hu : P.underlying t = some (.pointer e)) {op : BinOp} {x y v : AV} {xo yo : Operand} {xv yv : Value} (hx : VRel E x xv) (hy : VRel E y yv) (he : A1R op x y = some v) :
  ∃ z,((do eqGuard op t xo yo xv yv;binOp op t xv yv:Sem Value)).run P w=.ok z w∧VRel E v z:=by
 unfold A1R at he
 split at he
 all_goals first
  | (cases he;done)
  | (simp only [VRel] at hx hy
     first
     | (subst hx)
     | (obtain ⟨a,rfl,_⟩:=hx)
     subst hy
     simp only [Option.some.injEq] at he;subst he
     simp only [VRel];refine ⟨_,?_,rfl⟩
     simp [eqGuard,binOp,F4b hu])
end Go.Vab

namespace Go.Vab
open Go
theorem Ty.heights_get:∀ (ts:List Ty) (f:Nat) (t:Ty),ts[f]?=some t→t.height≤Ty.heights ts
 | [],_,_,h=>by simp at h
 | t::ts,0,u,h=>by simp at h;subst h;simp [Ty.heights];omega
 | t::ts,f+1,u,h=>by
  have:=Ty.heights_get ts f u (by simpa using h)
  simp [Ty.heights];omega
theorem D7F {P : Program} {tt : Nat → Option TI} (T : TTok P tt) {w : World} {e : Nat} {i : TI} (he : tt e = some i) {k : IntKind} (hk : i.ty = .int k) (d : Nat) : ∀ (xs ys : List Int) (n : Nat) (pre pre' : List Value),
  xs.length=ys.length→pre.length=n→pre'.length=n →
  (Op.eqItems (d+1) e 1 (pre++xs.map (Value.int k)).toArray (pre'++ys.map (Value.int k)).toArray (List.range' n xs.length)).run P w=.ok (decide (xs=ys)) w
 | [],[],_,_,_,_,_,_ => by simp [Op.eqItems]
 | [],_ :: _,_,_,_,h,_,_ => by simp at h
 | _ :: _,[],_,_,_,h,_,_ => by simp at h
 | x::xs,y::ys,n,pre,pre',h,h1,h2=>by
  have a1:=A0U T he w (E:=⟨0,fun _ => 0,fun _ => 0,fun _ => 0,fun _ => 0,fun _ => false,fun _ => .cell⟩) (v:=.int k x) (pre:=pre) (mid:=[.int k x]) (post:=xs.map (Value.int k)) (by rw [hk];simp [A4]) (by simp [VRl])
  have a2:=A0U T he w (E:=⟨0,fun _ => 0,fun _ => 0,fun _ => 0,fun _ => 0,fun _ => false,fun _ => .cell⟩) (v:=.int k y) (pre:=pre') (mid:=[.int k y]) (post:=ys.map (Value.int k)) (by rw [hk];simp [A4]) (by simp [VRl])
  rw [hk] at a1 a2
  simp only [O9,Ty.isAgg,Bool.false_eq_true,if_false,List.getD_cons_zero] at a1 a2
  have ih:=D7F T (w:=w) he hk d xs ys (n+1) (pre++[.int k x]) (pre'++[.int k y]) (by simpa using h) (by simp [h1]) (by simp [h2])
  simp only [List.length_cons,List.range'_succ,Op.eqItems,Sem.run_bind,List.map_cons,Nat.mul_one]
  rw [show pre++Value.int k x::xs.map (Value.int k)=pre++[.int k x]++xs.map (Value.int k) by simp,show pre'++Value.int k y::ys.map (Value.int k)=pre'++[.int k y]++ys.map (Value.int k) by simp]
  rw [h1] at a1
  rw [h2] at a2
  simp only [a1,a2,Result.andThen_ok,run_equalIn_int w d e k k x y (T.int e i k he hk)]
  by_cases hxy:x=y
  ·subst hxy
   simp only [beq_self_eq_true,Bool.not_true,Bool.false_eq_true,if_false,ih]
   simp
  ·have:(x == y)=false:=by simpa using hxy
   simp [this,hxy]
mutual
theorem B6z {P : Program} {tt : Nat → Option TI} (T : TTok P tt) {E : Gh} {w : World} : ∀ (x y : AV) (tid : Nat) (i : TI) (d : Nat) (xv yv : Value) (r : Bool), tt tid = some i → A4 x i.ty = true → A4 y i.ty = true →
  eqv x y=some r→VRel E x xv→VRel E y yv→i.ty.height < d→(Op.equalIn d tid xv yv).run P w=.ok r w
 | .int k a,y,tid,i,d,xv,yv,r,ht,hx,hy,he,rx,ry,hd=>by
  obtain ⟨d,rfl⟩:∃ m,d=m+1:=⟨d - 1,by omega⟩
  cases y <;> simp only [eqv] at he <;> try (cases he;done)
  rename_i k' b
  split at he
  ·rename_i hk;subst hk
   simp at he;subst he
   simp only [VRel] at rx ry;subst rx;subst ry
   have hty:i.ty=.int k:=by cases h:i.ty <;> rw [h] at hx <;> simp [A4,AV.oneCell] at hx;rw [hx]
   exact run_equalIn_int w d tid k k a b (T.int tid i k ht hty)
  ·cases he
 | .ints k xs,y,tid,i,d,xv,yv,r,ht,hx,hy,he,rx,ry,hd=>by
  obtain ⟨d,rfl⟩:∃ m,d=m+1:=⟨d - 1,by omega⟩
  cases y <;> simp only [eqv] at he <;> try (cases he;done)
  rename_i k' ys
  split at he
  ·rename_i hk;obtain ⟨rfl,hl⟩:=hk
   simp at he;subst he
   simp only [VRel] at rx ry;subst rx;subst ry
   cases h:i.ty with
   | arr n u =>
    rw [h] at hx hd
    obtain ⟨rfl,hn⟩:=U3 hx
    obtain ⟨e,j,hu,hej,hju⟩:=T.arr tid i n _ ht h
    obtain ⟨f,z,hf,_⟩:=T.info e j hej
    simp only [Ty.height] at hd
    obtain ⟨d,rfl⟩:∃ m,d=m+1:=⟨d - 1,by omega⟩
    rw [run_equalIn_array w (d+1) _ _ hu hf,B6U T hej,hju]
    have:=D7F T (w:=w) hej hju d xs ys 0 [] [] hl rfl rfl
    simpa [List.range_eq_range',hn,Ty.size] using this
   | _ => rw [h] at hx;simp [A4,AV.oneCell] at hx
  ·cases he
 | .node vs,y,tid,i,d,xv,yv,r,ht,hx,hy,he,rx,ry,hd=>by
  obtain ⟨d,rfl⟩:∃ m,d=m+1:=⟨d - 1,by omega⟩
  cases y <;> simp only [eqv] at he <;> try (cases he;done)
  rename_i us
  simp only [VRel] at rx ry
  obtain ⟨l,rfl,hl⟩:=rx
  obtain ⟨l',rfl,hl'⟩:=ry
  cases h:i.ty with
  | arr n u =>
   rw [h] at hx hy hd
   obtain ⟨hn,ha⟩:=W6 hx
   obtain ⟨hn',ha'⟩:=W6 hy
   obtain ⟨e,j,hu,hej,hju⟩:=T.arr tid i n _ ht h
   obtain ⟨f,z,hf,_⟩:=T.info e j hej
   simp only [Ty.height] at hd
   rw [run_equalIn_array w d _ _ hu hf,B6U T hej]
   have:=D69 T (w:=w) vs us e j d 0 [] [] l l' r hej (by rw [hju];exact ha) (by rw [hju];exact ha') he hl hl' (by simp) (by simp) (by rw [hju];omega)
   simpa [List.range_eq_range',hn] using this
  | struct ts =>
   rw [h] at hx hy hd
   simp only [A4] at hx hy
   obtain ⟨fs,hu,hsz,hst,hfs⟩:=T.struct tid i ts ht h
   simp only [Ty.height] at hd
   have hfo:P.fieldsOf tid=fs:=by simp [Program.fieldsOf,hu]
   rw [run_equalIn_struct w d tid _ _ (by rw [hfo];exact hu) hst,hfo]
   exact D64 T (w:=w) vs us ts fs.toList d [] [] l l' r (by simpa using hsz) (fun f x hf=>by
    obtain ⟨q1,q2,j,q3,q4,_⟩:=hfs f x (by simpa using hf)
    have:=Ty.heights_get ts f j.ty q4
    exact ⟨q1,by simpa using q2,j,q3,q4,by omega⟩) hx hy he hl hl' rfl
  | int k=>rw [h] at hx;simp [A4] at hx
  | cell=>rw [h] at hx;simp [A4,AV.oneCell] at hx
 | .junk,y,_,_,_,_,_,_,_,_,_,he,_,_,_ => by cases y <;> simp [eqv] at he
 | .undef,y,_,_,_,_,_,_,_,_,_,he,_,_,_ => by cases y <;> simp [eqv] at he
 | .bool _,y,_,_,_,_,_,_,_,_,_,he,_,_,_ => by cases y <;> simp [eqv] at he
 | .str _,y,_,_,_,_,_,_,_,_,_,he,_,_,_ => by cases y <;> simp [eqv] at he
 | .nilptr,y,_,_,_,_,_,_,_,_,_,he,_,_,_ => by cases y <;> simp [eqv] at he
 | .ptr ..,y,_,_,_,_,_,_,_,_,_,he,_,_,_ => by cases y <;> simp [eqv] at he
 | .win ..,y,_,_,_,_,_,_,_,_,_,he,_,_,_ => by cases y <;> simp [eqv] at he
 | .nilslice,y,_,_,_,_,_,_,_,_,_,he,_,_,_ => by cases y <;> simp [eqv] at he
 | .slice ..,y,_,_,_,_,_,_,_,_,_,he,_,_,_ => by cases y <;> simp [eqv] at he
 | .nilmap,y,_,_,_,_,_,_,_,_,_,he,_,_,_ => by cases y <;> simp [eqv] at he
 | .map _,y,_,_,_,_,_,_,_,_,_,he,_,_,_ => by cases y <;> simp [eqv] at he
 | .nilfn,y,_,_,_,_,_,_,_,_,_,he,_,_,_ => by cases y <;> simp [eqv] at he
 | .fn ..,y,_,_,_,_,_,_,_,_,_,he,_,_,_ => by cases y <;> simp [eqv] at he
 | .tuple _,y,_,_,_,_,_,_,_,_,_,he,_,_,_ => by cases y <;> simp [eqv] at he
theorem D69 {P : Program} {tt : Nat → Option TI} (T : TTok P tt) {E : Gh} {w : World} : ∀ (vs us : List AV) (e : Nat) (j : TI) (d n : Nat) (pre pre' l l' : List Value) (r : Bool), tt e = some j → G7 vs j.ty = true → G7 us j.ty = true →
  R3 vs us=some r→VRs E vs l→VRs E us l'→pre.length=n * j.ty.size→pre'.length=n * j.ty.size→j.ty.height < d →
  (Op.eqItems d e j.ty.size (pre++l).toArray (pre'++l').toArray (List.range' n vs.length)).run P w=.ok r w
 | [],[],_,_,_,_,_,_,_,_,r,_,_,_,he,_,_,_,_,_ => by simp [R3] at he;subst he;simp [Op.eqItems]
 | [],_ :: _,_,_,_,_,_,_,_,_,_,_,_,_,he,_,_,_,_,_ => by simp [R3] at he
 | _ :: _,[],_,_,_,_,_,_,_,_,_,_,_,_,he,_,_,_,_,_ => by simp [R3] at he
 | v::vs,u::us,e,j,d,n,pre,pre',l,l',r,hej,ha,hb,he,hl,hl',h1,h2,hd=>by
  simp only [G7,Bool.and_eq_true] at ha hb
  simp only [VRs] at hl hl'
  obtain ⟨m1,m2,rfl,c1,c2⟩:=hl
  obtain ⟨k1,k2,rfl,g1,g2⟩:=hl'
  simp only [R3] at he
  cases ev:eqv v u with
  | none=>rw [ev] at he;simp at he
  | some a =>
   cases evs:R3 vs us with
   | none=>rw [ev,evs] at he;simp at he
   | some b =>
    rw [ev,evs] at he;simp at he;subst he
    have a1:=A0U T hej w (pre:=pre) (post:=m2) ha.1 c1
    have a2:=A0U T hej w (pre:=pre') (post:=k2) hb.1 g1
    have q1:=B6z T (w:=w) v u e j d _ _ a hej ha.1 hb.1 ev (VRel.of_cells ha.1 c1) (VRel.of_cells hb.1 g1) hd
    have l1:=VRl.len v _ m1 ha.1 c1
    have l2:=VRl.len u _ k1 hb.1 g1
    have ih:=D69 T (w:=w) vs us e j d (n+1) (pre++m1) (pre'++k1) m2 k2 b hej ha.2 hb.2 evs c2 g2 (by rw [List.length_append,h1,l1,Nat.succ_mul]) (by rw [List.length_append,h2,l2,Nat.succ_mul]) hd
    simp only [List.length_cons,List.range'_succ,Op.eqItems,Sem.run_bind]
    rw [h1] at a1
    rw [h2] at a2
    rw [←List.append_assoc,←List.append_assoc]
    simp only [a1,a2,q1,Result.andThen_ok]
    cases a
    ·simp
    ·simp only [Bool.not_true,Bool.false_eq_true,if_false,Bool.true_and];exact ih
theorem D64 {P : Program} {tt : Nat → Option TI} (T : TTok P tt) {E : Gh} {w : World} : ∀ (vs us : List AV) (ts : List Ty) (fs : List Field) (d : Nat) (pre pre' l l' : List Value) (r : Bool), fs.length = ts.length →
  (∀ (f : Nat) (x : Field), fs[f]? = some x → x.name ≠ "_" ∧ x.offset = pre.length + Ty.sizes (ts.take f) ∧ ∃ j, tt x.type = some j ∧ ts[f]? = some j.ty ∧ j.ty.height < d) →
  C0 vs ts=true→C0 us ts=true→R3 vs us=some r→VRs E vs l→VRs E us l'→pre'.length=pre.length →
  (Op.eqFields d (pre++l).toArray (pre'++l').toArray fs).run P w=.ok r w
 | [],us,ts,fs,d,pre,pre',l,l',r,hlen,hfs,ha,hb,he,hl,hl',h1=>by
  cases ts with
  | cons _ _ => simp [C0] at ha
  | nil =>
   cases us with
   | cons _ _ => simp [C0] at hb
   | nil =>
    cases fs with
    | cons _ _ => simp at hlen
    | nil=>simp [R3] at he;subst he;simp [Op.eqFields]
 | v::vs,us,ts,fs,d,pre,pre',l,l',r,hlen,hfs,ha,hb,he,hl,hl',h1=>by
  cases ts with
  | nil=>simp [C0] at ha
  | cons t ts =>
   cases us with
   | nil=>simp [C0] at hb
   | cons u us =>
    cases fs with
    | nil=>simp at hlen
    | cons f fs =>
     simp only [C0,Bool.and_eq_true] at ha hb
     simp only [VRs] at hl hl'
     obtain ⟨m1,m2,rfl,c1,c2⟩:=hl
     obtain ⟨k1,k2,rfl,g1,g2⟩:=hl'
     obtain ⟨f1,f2,j,f3,f4,f5⟩:=hfs 0 f rfl
     simp at f4;subst f4
     simp [Ty.sizes] at f2
     simp only [R3] at he
     cases ev:eqv v u with
     | none=>rw [ev] at he;simp at he
     | some a =>
      cases evs:R3 vs us with
      | none=>rw [ev,evs] at he;simp at he
      | some b =>
       rw [ev,evs] at he;simp at he;subst he
       have a1:=A0U T f3 w (pre:=pre) (post:=m2) ha.1 c1
       have a2:=A0U T f3 w (pre:=pre') (post:=k2) hb.1 g1
       have q1:=B6z T (w:=w) v u f.type j d _ _ a f3 ha.1 hb.1 ev (VRel.of_cells ha.1 c1) (VRel.of_cells hb.1 g1) f5
       have l1:=VRl.len v _ m1 ha.1 c1
       have l2:=VRl.len u _ k1 hb.1 g1
       have ih:=D64 T (w:=w) vs us ts fs d (pre++m1) (pre'++k1) m2 k2 b (by simpa using hlen) (fun g x hg=>by
        obtain ⟨z1,z2,z3⟩:=hfs (g+1) x (by simpa using hg)
        exact ⟨z1,by rw [z2];simp [Ty.sizes,l1];omega,by simpa using z3⟩) ha.2 hb.2 evs c2 g2 (by simp [h1,l1,l2])
       rw [h1] at a2
       rw [←List.append_assoc,←List.append_assoc]
       simp only [Op.eqFields,f1,ne_eq,not_false_eq_true,if_true,Sem.run_bind,f2,a1,a2,q1,Result.andThen_ok]
       cases a
       ·simp
       ·simp only [Bool.not_true,Bool.false_eq_true,if_false,Bool.true_and];exact ih
end
theorem E2K {P : Program} {tt : Nat → Option TI} (T : TTok P tt) {E : Gh} {w : World} {t : Nat} {i : TI} (ht : tt t = some i) (hagg : i.ty.isAgg = true) {op : BinOp} {x y v : AV} {xo yo : Operand} {xv yv : Value} (hx : VRel E x xv) (hy : VRel E y yv) (he : mEq i.ty op x y = some v) :
  ∃ z,((do eqGuard op t xo yo xv yv;binOp op t xv yv:Sem Value)).run P w=.ok z w∧VRel E v z:=by
 unfold mEq at he
 split at he
 ·rename_i hty
  rw [Bool.and_eq_true] at hty
  have hof:=B6O hty.1 hx
  have hof':=B6O hty.2 hy
  rw [hagg] at hof hof'
  simp only [O9,if_true,Array.toArray_toList] at hof hof'
  have hg:=T.guard t i ht hagg
  rw [←hof,←hof']
  simp only [Sem.run_bind,run_eqGuard_agg w op t xo yo _ _ hg,Result.andThen_ok]
  have main:∀ b,eqv x y=some b→(Op.equalIn 10000 t (.agg xv.cells) (.agg yv.cells)).run P w=.ok b w:=fun b hb=>by
   have hh:=T.high t i ht
   exact B6z T x y t i 10000 _ _ b ht hty.1 hty.2 hb (by rw [hof];exact hx) (by rw [hof'];exact hy) (by omega)
  cases op <;> simp only at he <;> try (cases he;done)
  all_goals
   obtain ⟨b,hb,he⟩:=bnd_eq_some.1 he
   simp at he;subst he
   simp only [VRel]
   refine ⟨_,?_,rfl⟩
   first
    | (rw [run_eql_struct,main b hb];rfl)
    | (rw [run_neq_struct,main b hb];rfl)
 ·cases he
end Go.Vab

namespace Go.Vab
open Go
theorem F4c:∀ (r x r':AV) (i:Nat),r.put [i] x=some r'→r'.get [i]=some x
 | .node vs,x,r',i,h=>by
  simp only [AV.put] at h
  cases hv:vs[i]? with
  | none=>rw [hv] at h;cases h
  | some v =>
   rw [hv] at h
   have hi:i < vs.length:=(List.getElem?_eq_some_iff.1 hv).1
   simp only [Option.map_some,Option.some.injEq] at h
   subst h
   simp [AV.get,hi]
 | .ints k xs,x,r',i,h=>by
  simp only [AV.put] at h
  cases x <;> simp at h
  obtain ⟨⟨rfl,hi⟩,rfl⟩:=h
  simp [AV.get,hi]
 | .junk,_,_,_,h=>by simp [AV.put] at h
 | .undef,_,_,_,h=>by simp [AV.put] at h
 | .bool _,_,_,_,h=>by simp [AV.put] at h
 | .int _ _,_,_,_,h=>by simp [AV.put] at h
 | .str _,_,_,_,h=>by simp [AV.put] at h
 | .nilptr,_,_,_,h=>by simp [AV.put] at h
 | .ptr ..,_,_,_,h=>by simp [AV.put] at h
 | .win ..,_,_,_,h=>by simp [AV.put] at h
 | .nilslice,_,_,_,h=>by simp [AV.put] at h
 | .slice ..,_,_,_,h=>by simp [AV.put] at h
 | .nilmap,_,_,_,h=>by simp [AV.put] at h
 | .map _,_,_,_,h=>by simp [AV.put] at h
 | .nilfn,_,_,_,h=>by simp [AV.put] at h
 | .fn ..,_,_,_,h=>by simp [AV.put] at h
 | .tuple _,_,_,_,h=>by simp [AV.put] at h
theorem F52 {r x r':AV} {t:Ty} {i:Nat} (h:r.put [i] x=some r') (ht:A4 r t=true):∃ o u,Ty.sub t [i]=some (o,u):=by
 cases r with
 | node vs =>
  simp only [AV.put] at h
  cases hv:vs[i]? with
  | none=>rw [hv] at h;cases h
  | some v =>
   cases t with
   | arr n u=>exact ⟨i * u.size,u,by simp [Ty.sub]⟩
   | struct ts =>
    simp only [A4] at ht
    obtain ⟨u,hu,_⟩:=A1h vs ts i v ht hv
    exact ⟨_,u,by simp only [Ty.sub,hu];rfl⟩
   | int k=>simp [A4] at ht
   | cell=>simp [A4,AV.oneCell] at ht
 | ints k xs =>
  cases t with
  | arr n u=>exact ⟨i * u.size,u,by simp [Ty.sub]⟩
  | _ => simp [A4,AV.oneCell] at ht
 | _ => simp [AV.put] at h
theorem D7p (off : Nat) : ∀ (vs : List Value) (j : Nat) (cs : Array Value), off + j + vs.length ≤ cs.size →
  ((vs.zipIdx j).foldl (fun cs (c,j)=>cs.setIfInBounds (off+j) c) cs).toList=cs.toList.take (off+j)++vs++cs.toList.drop (off+j+vs.length)
 | [],j,cs,_ => by simp
 | v::vs,j,cs,h=>by
  simp only [List.length_cons] at h
  simp only [List.zipIdx_cons,List.foldl_cons]
  have hl:off+j < cs.toList.length:=by rw [Array.length_toList];omega
  rw [D7p off vs (j+1) (cs.setIfInBounds (off+j) v) (by simp;omega),Array.toList_setIfInBounds,A1e _ _ _ hl]
  have e1:(List.take (off+j) cs.toList).length=off+j:=by rw [List.length_take];omega
  rw [show off+(j+1)=off+j+1 by omega,List.length_cons]
  generalize hA:List.take (off+j) cs.toList=A at *
  generalize hD:List.drop (off+j+1) cs.toList=D at *
  rw [show A++v::D=(A++[v])++D by simp]
  have e3:(A++[v]).length=off+j+1:=by simp [e1]
  rw [←e3,List.take_left']
  ·rw [List.drop_append,e3]
   have:List.drop (off+j+1+vs.length) (A++[v])=[]:=List.drop_eq_nil_of_le (by rw [e3];omega)
   rw [this,←hD,List.drop_drop]
   simp only [List.nil_append,List.append_assoc,List.cons_append]
   congr 4
   omega
  ·rfl
def A1B (E:Gh):List (Nat × AV)→List (Nat × Value)→Prop
 | [],[]=>True
 | (i,v)::ps,(j,x)::qs=>i=j∧VRel E v x∧A1B E ps qs
 | _,_ => False
theorem A4d {E : Gh} {t : Ty} {place : Nat → Option (Nat × Nat)} (hplace : ∀ i o u, Ty.sub t [i] = some (o, u) → (∀ r x r' : AV, r.put [i] x = some r' → A4 r t = true → place i = some (o, u.size))) :
  ∀ (ps:List (Nat × AV)) (qs:List (Nat × Value)) (r r':AV) (cells:Array Value),G4 t r ps=some r'→A4 r t=true→VRl E r cells.toList→A1B E ps qs →
  ∃ cells',Instr.fill place cells qs=some cells'∧A4 r' t=true∧VRl E r' cells'.toList
 | [],[],r,r',cells,h,ht,hl,_ => by simp [G4] at h;subst h;exact ⟨cells,rfl,ht,hl⟩
 | [],_ :: _,_,_,_,_,_,_,hp=>by simp [A1B] at hp
 | _ :: _,[],_,_,_,_,_,_,hp=>by simp [A1B] at hp
 | (i,v)::ps,(j,x)::qs,r,r',cells,h,ht,hl,hp=>by
  simp only [A1B] at hp
  obtain ⟨rfl,hv,hp⟩:=hp
  simp only [G4] at h
  obtain ⟨r1,h1,h⟩:=bnd_eq_some.1 h
  split at h
  ·rename_i ht1
   obtain ⟨o,u,hs⟩:=F52 h1 ht
   have hpl:=hplace i o u hs r v r1 h1 ht
   have hg:=F4c _ _ _ _ h1
   -- some cells of r1: their layout tells v's
   have hvu:A4 v u=true:=by
    -- the layout of a part,without its cells
    cases r with
    | node vs =>
     simp only [AV.put] at h1
     cases hvv:vs[i]? with
     | none=>rw [hvv] at h1;cases h1
     | some v0 =>
      rw [hvv] at h1
      simp only [Option.map_some,Option.some.injEq] at h1
      subst h1
      have hi:i < vs.length:=(List.getElem?_eq_some_iff.1 hvv).1
      cases t with
      | arr n u' =>
       simp [Ty.sub] at hs
       obtain ⟨_,rfl⟩:=hs
       obtain ⟨_,ha⟩:=W6 ht1
       rw [Q7] at ha
       exact ha v (List.mem_set hi v)
      | struct ts =>
       simp only [A4] at ht1
       obtain ⟨u',hu',hvu'⟩:=A1h _ ts i v ht1 (by simp [hi])
       simp [Ty.sub,hu'] at hs
       rw [←hs.2];exact hvu'
      | int k=>simp [A4] at ht
      | cell=>simp [A4,AV.oneCell] at ht
    | ints k xs =>
     simp only [AV.put] at h1
     cases v <;> simp at h1
     obtain ⟨⟨rfl,hi⟩,rfl⟩:=h1
     cases t with
     | arr n u' =>
      obtain ⟨rfl,_⟩:=U3 ht
      simp [Ty.sub] at hs
      rw [←hs.2];simp [A4]
     | _ => simp [A4,AV.oneCell] at ht
    | _ => simp [AV.put] at h1
   have hc:=VRel.cells hvu hv
   obtain ⟨_,pre,mid,post,e1,e2,e3,e4⟩:=A3H [i] r r1 v t h1 ht _ hl o u hs hvu _ hc
   have hlen:=VRl.len v u _ hvu hc
   rw [Array.length_toList] at hlen
   have hsz:cells.size=pre.length+mid.length+post.length:=by rw [←Array.length_toList,e1];simp;omega
   have e3':mid.length=x.cells.size:=by rw [e3,Array.length_toList]
   have hset:=D7p o x.cells.toList 0 cells (by rw [Array.length_toList];omega)
   have hfold:∃ cs:Array Value,x.cells.zipIdx.foldl (fun cs (c,j)=>cs.setIfInBounds (o+j) c) cells=cs∧cs.toList=pre++x.cells.toList++post:=by
    refine ⟨_,rfl,?_⟩
    have:(x.cells.zipIdx.foldl (fun cs (c,j)=>cs.setIfInBounds (o+j) c) cells)=((x.cells.toList.zipIdx 0).foldl (fun cs (c,j)=>cs.setIfInBounds (o+j) c) cells):=by
     rw [←Array.foldl_toList,Array.toList_zipIdx]
    rw [this,hset,e1,←e2]
    simp only [Nat.add_zero,Array.length_toList]
    rw [show pre++mid++post=pre++(mid++post) by simp,List.take_left' rfl,List.drop_length_add_append,←e3',List.drop_left' rfl]
   obtain ⟨cs,hcs,hcl⟩:=hfold
   obtain ⟨cells',f1,f2,f3⟩:=A4d hplace ps qs r1 r' cs h ht1 (by rw [hcl];exact e4) hp
   refine ⟨cells',?_,f2,f3⟩
   simp only [Instr.fill,hpl]
   have hc1:(x.cells.size≠u.size||o+x.cells.size > cells.size)=false:=by
    simp only [ne_eq,hlen,not_true_eq_false,decide_false,Bool.false_or,decide_eq_false_iff_not]
    omega
   simp only [Bool.or_eq_true,decide_eq_true_eq] at *
   rw [if_neg (by simpa using hc1),hcs]
   exact f1
  ·cases h
theorem D7q {P : Program} : ∀ (fs : List Field), (∀ (f : Nat) x, fs[f]? = some x → ∃ i, P.info? x.type = some i) →
  ∃ places,fs.mapM (fun f=>(P.info? f.type).map fun i=>(f.offset,i.size))=some places∧∀ (f:Nat) x,fs[f]?=some x→places[f]?=some (x.offset,P.cellsOf x.type)
 | [],_ => ⟨[],by simp,by simp⟩
 | f::fs,h=>by
  obtain ⟨i,hi⟩:=h 0 f rfl
  obtain ⟨ps,h1,h2⟩:=D7q fs (fun g x hg=>h (g+1) x (by simpa using hg))
  refine ⟨(f.offset,i.size)::ps,by simp [List.mapM_cons,hi,h1],fun g x hg=>?_⟩
  cases g with
  | zero=>simp at hg;subst hg;simp [Program.cellsOf,hi]
  | succ g=>simpa using h2 g x (by simpa using hg)
theorem F30 {P : Program} {tt : Nat → Option TI} (T : TTok P tt) {E : Gh} {w : World} {t : Nat} {i : TI} (ht : tt t = some i) (hagg : i.ty.isAgg = true) {ps : List (Nat × AV)} {qs : Array (Nat × Value)} {v : AV} (hp : A1B E ps qs.toList)
  (he:G4 i.ty i.zero ps=some v):∃ y,(Instr.build t qs).run P w=.ok y w∧VRel E v y:=by
 obtain ⟨f,z,hf,hfs,hfb,hz,hzr⟩:=T.info t i ht
 have hzt:=T.zero t i ht
 have hzc:=VRel.cells hzt (hzr E)
 cases hty:i.ty with
 | arr n u =>
  obtain ⟨e,j,hu,hej,hju⟩:=T.arr t i n u ht hty
  obtain ⟨fe,_,hfe,hfes,_⟩:=T.info e j hej
  rw [hty] at he hzt
  have key:=A4d (E:=E) (t:=.arr n u) (place:=fun k=>some (k * fe.size,fe.size)) (fun k o u' hs _ _ _ _ _ => by
   simp [Ty.sub] at hs
   obtain ⟨rfl,rfl⟩:=hs
   rw [hfes,hju]) ps qs.toList i.zero v z.cells he hzt hzc hp
  obtain ⟨cells,g1,g2,g3⟩:=key
  refine ⟨.agg cells,run_build w t qs cells ?_,?_⟩
  ·simp only [Program.built,hf,hu,hz,hfe];exact g1
  ·have:=VRel.of_cells g2 g3
   simpa [O9,Ty.isAgg] using this
 | struct ts =>
  obtain ⟨fs,hu,hsz,_,hfs'⟩:=T.struct t i ts ht hty
  obtain ⟨places,hp1,hp2⟩:=D7q (P:=P) fs.toList (fun g x hg=>by
   obtain ⟨_,_,j,hj,_⟩:=hfs' g x (by simpa using hg)
   obtain ⟨q,_,hq,_⟩:=T.info _ j hj
   exact ⟨q,hq⟩)
  rw [hty] at he hzt
  have key:=A4d (E:=E) (t:=.struct ts) (place:=fun k=>places[k]?) (fun k o u' hs r x r' hput htr=>by
   simp only [Ty.sub] at hs
   cases hk:ts[k]? with
   | none=>rw [hk] at hs;cases hs
   | some u =>
    rw [hk] at hs
    simp at hs
    obtain ⟨rfl,rfl⟩:=hs
    have hkl:k < fs.size:=by rw [hsz];exact (List.getElem?_eq_some_iff.1 hk).1
    have hpk:=hp2 k fs[k] (by simp [hkl])
    obtain ⟨_,ho,j,hj,hju,_⟩:=hfs' k fs[k] (Array.getElem?_eq_getElem hkl)
    rw [hk] at hju
    have hju:=Option.some.inj hju
    rw [hpk,ho,B6U T hj,←hju]) ps qs.toList i.zero v z.cells he hzt hzc hp
  obtain ⟨cells,g1,g2,g3⟩:=key
  refine ⟨.agg cells,run_build w t qs cells ?_,?_⟩
  ·simp only [Program.built,hf,hu,hz,hp1]
   have:(places.toArray[·]?:Nat→Option (Nat × Nat))=fun k=>places[k]?:=by funext k;simp
   rw [this];exact g1
  ·have:=VRel.of_cells g2 g3
   simpa [O9,Ty.isAgg] using this
 | int k=>rw [hty] at hagg;cases hagg
 | cell=>rw [hty] at hagg;cases hagg
end Go.Vab
