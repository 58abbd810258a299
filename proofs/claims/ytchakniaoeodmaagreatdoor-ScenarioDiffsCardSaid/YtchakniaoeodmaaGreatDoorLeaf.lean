/- The plain leaf functions over numbers: bounds, letters, digits, sizes. No conditions but that the arguments fit their kinds. -/
import Derived.Test.YtchakniaoeodmaaGreatDoorBase
import Derived.WalkKit
import Derived.WalkLawsBesides
import Derived.WalkSpells
import Derived.Outline
import Derived.Handy
import Derived.BigGuardPart
import Derived.Lib.Hide
import Derived.Below
import Derived.Laws.Bits64b
import Derived.Lib.Mul64
namespace Go.Proofs.YtchakniaoeodmaaGreatDoor
open Go.RowKit
set_option linter.unusedVariables false
set_option linter.unusedSimpArgs false
def betw (a n b:Int):Bool:=decide (a≤n)&&decide (n≤b)
def letB (c:Int):Bool:=betw 97 c 122 || betw 65 c 90
def digB (c:Int):Bool:=betw 48 c 57
theorem zQ8 (c:Int) (h0:0≤c) (h1:c≤255) (w:World):Calls Tryz.prog 144 #[.int .u8 c] w fun e w'=>e= .returned (.bool (letB c))∧w=w':=by
 go_enter Tryz.func144,Tryz.ntmps144
 go_wp2
 all_goals (go_ret;refine ⟨zC7 ?_,rfl⟩;rw [Bool.eq_iff_iff];simp [letB,betw];try omega)
theorem zP7 (c:Int) (h0:0≤c) (h1:c≤255) (w:World):Calls Tryz.prog 106 #[.int .u8 c] w fun e w'=>e= .returned (.bool (letB c))∧w=w':=by
 go_enter Tryz.func106,Tryz.ntmps106
 go_wp2
 all_goals (go_ret;refine ⟨zC7 ?_,rfl⟩;rw [Bool.eq_iff_iff];simp [letB,betw];try omega)
theorem ddigit (c:Int) (h0:0≤c) (h1:c≤255) (w:World):Calls Tryz.prog 185 #[.int .u8 c] w fun e w'=>e= .returned (.bool (digB c))∧w=w':=by
 go_enter Tryz.func185,Tryz.ntmps185
 go_wp2
 all_goals (go_ret;refine ⟨zC7 ?_,rfl⟩;rw [Bool.eq_iff_iff];simp [digB,betw];try omega)
theorem rdigit (c:Int) (h0:0≤c) (h1:c≤255) (w:World):Calls Tryz.prog 148 #[.int .u8 c] w fun e w'=>e= .returned (.bool (digB c))∧w=w':=by
 go_enter Tryz.func148,Tryz.ntmps148
 go_wp2
 all_goals (go_ret;refine ⟨zC7 ?_,rfl⟩;rw [Bool.eq_iff_iff];simp [digB,betw];try omega)
theorem tfits (n:Int) (w:World):Calls Tryz.prog 190 #[.int .i64 n] w fun e w'=>e= .returned (.bool (betw (-1125899906842624) n 1125899906842624))∧w=w':=by
 go_enter Tryz.func190,Tryz.ntmps190
 go_wp2
 all_goals (go_ret;refine ⟨zC7 ?_,rfl⟩;rw [Bool.eq_iff_iff];simp [betw];try omega)
theorem zP6 (n:Int) (w:World):Calls Tryz.prog 186 #[.int .i64 n] w fun e w'=>e= .returned (.bool (betw (-1125899906842624) n 1125899906842624))∧w=w':=by
 go_enter Tryz.func186,Tryz.ntmps186
 go_wp2
 all_goals (go_ret;refine ⟨zC7 ?_,rfl⟩;rw [Bool.eq_iff_iff];simp [betw];try omega)
namespace Half
end Half
end Go.Proofs.YtchakniaoeodmaaGreatDoor
