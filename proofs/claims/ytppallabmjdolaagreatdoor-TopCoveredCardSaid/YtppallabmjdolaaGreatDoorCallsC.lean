/- What a call of each function is: printed by a program. -/
import Derived.Test.YtppallabmjdolaaGreatDoorTabC
set_option maxRecDepth 100000
namespace Go.Vit
open Go Go.Proofs
section
variable {lf n : Nat}
theorem r3 : runT (tabC (β := Unit) lf) (n + 1) 3 = S3 lf (runT (tabC lf) n) := by kernel_rfl
theorem r4 : runT (tabC (β := Unit) lf) (n + 1) 4 = S4p lf (runT (tabC lf) n) := by kernel_rfl
theorem r6 : runT (tabC (β := Unit) lf) (n + 1) 6 = S6 lf (runT (tabC lf) n) := by kernel_rfl
theorem r7 : runT (tabC (β := Unit) lf) (n + 1) 7 = S7p lf (runT (tabC lf) n) := by kernel_rfl
theorem r9 : runT (tabC (β := Unit) lf) (n + 1) 9 = S9 lf (runT (tabC lf) n) := by kernel_rfl
theorem r11 : runT (tabC (β := Unit) lf) (n + 1) 11 = S11 lf (runT (tabC lf) n) := by kernel_rfl
theorem r13 : runT (tabC (β := Unit) lf) (n + 1) 13 = S13 lf (runT (tabC lf) n) := by kernel_rfl
theorem r14 : runT (tabC (β := Unit) lf) (n + 1) 14 = SClosed mTab (runT (tabC lf) n) := by kernel_rfl
theorem r16 : runT (tabC (β := Unit) lf) (n + 1) 16 = S16 lf (runT (tabC lf) n) := by kernel_rfl
theorem r18 : runT (tabC (β := Unit) lf) (n + 1) 18 = S18 lf (runT (tabC lf) n) := by kernel_rfl
theorem r20 : runT (tabC (β := Unit) lf) (n + 1) 20 = S20 lf (runT (tabC lf) n) := by kernel_rfl
theorem r22 : runT (tabC (β := Unit) lf) (n + 1) 22 = S22 lf (runT (tabC lf) n) := by kernel_rfl
theorem r23 : runT (tabC (β := Unit) lf) (n + 1) 23 = S23 lf (runT (tabC lf) n) := by kernel_rfl
theorem r24 : runT (tabC (β := Unit) lf) (n + 1) 24 = S24 lf (runT (tabC lf) n) := by kernel_rfl
theorem r25 : runT (tabC (β := Unit) lf) (n + 1) 25 = S25 lf (runT (tabC lf) n) := by kernel_rfl
theorem r32 : runT (tabC (β := Unit) lf) (n + 1) 32 = S32 lf (runT (tabC lf) n) := by kernel_rfl
theorem r37 : runT (tabC (β := Unit) lf) (n + 1) 37 = S37 lf (runT (tabC lf) n) := by kernel_rfl
theorem r38 : runT (tabC (β := Unit) lf) (n + 1) 38 = S38 lf (runT (tabC lf) n) := by kernel_rfl
theorem r39 : runT (tabC (β := Unit) lf) (n + 1) 39 = S39 lf (runT (tabC lf) n) := by kernel_rfl
theorem r40 : runT (tabC (β := Unit) lf) (n + 1) 40 = S40 lf (runT (tabC lf) n) := by kernel_rfl
theorem r41 : runT (tabC (β := Unit) lf) (n + 1) 41 = S41 lf (runT (tabC lf) n) := by kernel_rfl
theorem r42 : runT (tabC (β := Unit) lf) (n + 1) 42 = S42 lf (runT (tabC lf) n) := by kernel_rfl
theorem r43 : runT (tabC (β := Unit) lf) (n + 1) 43 = S43 lf (runT (tabC lf) n) := by kernel_rfl
theorem r44 : runT (tabC (β := Unit) lf) (n + 1) 44 = S44 lf (runT (tabC lf) n) := by kernel_rfl
theorem r45 : runT (tabC (β := Unit) lf) (n + 1) 45 = S45 lf (runT (tabC lf) n) := by kernel_rfl
theorem r46 : runT (tabC (β := Unit) lf) (n + 1) 46 = SClosed mTab (runT (tabC lf) n) := by kernel_rfl
theorem r54 : runT (tabC (β := Unit) lf) (n + 1) 54 = S54 lf (runT (tabC lf) n) := by kernel_rfl
theorem r55 : runT (tabC (β := Unit) lf) (n + 1) 55 = S55 lf (runT (tabC lf) n) := by kernel_rfl
theorem r56 : runT (tabC (β := Unit) lf) (n + 1) 56 = S56 lf (runT (tabC lf) n) := by kernel_rfl
theorem r57 : runT (tabC (β := Unit) lf) (n + 1) 57 = S57 lf (runT (tabC lf) n) := by kernel_rfl
theorem r58 : runT (tabC (β := Unit) lf) (n + 1) 58 = S58 lf (runT (tabC lf) n) := by kernel_rfl
theorem r59 : runT (tabC (β := Unit) lf) (n + 1) 59 = SSort (runT (tabC lf) n) := by kernel_rfl
theorem r69 : runT (tabC (β := Unit) lf) (n + 1) 69 = S69 lf (runT (tabC lf) n) := by kernel_rfl
theorem r70 : runT (tabC (β := Unit) lf) (n + 1) 70 = S70 lf (runT (tabC lf) n) := by kernel_rfl
theorem r71 : runT (tabC (β := Unit) lf) (n + 1) 71 = S71 lf (runT (tabC lf) n) := by kernel_rfl
theorem r72 : runT (tabC (β := Unit) lf) (n + 1) 72 = S72 lf (runT (tabC lf) n) := by kernel_rfl
theorem r73 : runT (tabC (β := Unit) lf) (n + 1) 73 = S73 lf (runT (tabC lf) n) := by kernel_rfl
theorem r74 : runT (tabC (β := Unit) lf) (n + 1) 74 = S74 lf (runT (tabC lf) n) := by kernel_rfl
theorem r75 : runT (tabC (β := Unit) lf) (n + 1) 75 = S75 lf (runT (tabC lf) n) := by kernel_rfl
theorem r76 : runT (tabC (β := Unit) lf) (n + 1) 76 = S76 lf (runT (tabC lf) n) := by kernel_rfl
theorem r77 : runT (tabC (β := Unit) lf) (n + 1) 77 = S77 lf (runT (tabC lf) n) := by kernel_rfl
theorem r78 : runT (tabC (β := Unit) lf) (n + 1) 78 = S78 lf (runT (tabC lf) n) := by kernel_rfl
theorem r79 : runT (tabC (β := Unit) lf) (n + 1) 79 = S79 lf (runT (tabC lf) n) := by kernel_rfl
theorem r80 : runT (tabC (β := Unit) lf) (n + 1) 80 = S80 lf (runT (tabC lf) n) := by kernel_rfl
theorem r81 : runT (tabC (β := Unit) lf) (n + 1) 81 = S81 lf (runT (tabC lf) n) := by kernel_rfl
theorem r82 : runT (tabC (β := Unit) lf) (n + 1) 82 = S82 lf (runT (tabC lf) n) := by kernel_rfl
theorem r83 : runT (tabC (β := Unit) lf) (n + 1) 83 = S83 lf (runT (tabC lf) n) := by kernel_rfl
theorem r84 : runT (tabC (β := Unit) lf) (n + 1) 84 = S84 lf (runT (tabC lf) n) := by kernel_rfl
theorem r93 : runT (tabC (β := Unit) lf) (n + 1) 93 = S93 lf (runT (tabC lf) n) := by kernel_rfl
theorem r102 : runT (tabC (β := Unit) lf) (n + 1) 102 = S102 lf (runT (tabC lf) n) := by kernel_rfl
theorem r103 : runT (tabC (β := Unit) lf) (n + 1) 103 = S103 lf (runT (tabC lf) n) := by kernel_rfl
theorem r104 : runT (tabC (β := Unit) lf) (n + 1) 104 = S104 lf (runT (tabC lf) n) := by kernel_rfl
theorem r105 : runT (tabC (β := Unit) lf) (n + 1) 105 = S105 lf (runT (tabC lf) n) := by kernel_rfl
theorem r106 : runT (tabC (β := Unit) lf) (n + 1) 106 = S106 lf (runT (tabC lf) n) := by kernel_rfl
theorem r120 : runT (tabC (β := Unit) lf) (n + 1) 120 = S120 lf (runT (tabC lf) n) := by kernel_rfl
theorem r121 : runT (tabC (β := Unit) lf) (n + 1) 121 = S121 lf (runT (tabC lf) n) := by kernel_rfl
theorem r128 : runT (tabC (β := Unit) lf) (n + 1) 128 = S128 lf (runT (tabC lf) n) := by kernel_rfl
theorem r129 : runT (tabC (β := Unit) lf) (n + 1) 129 = S129 lf (runT (tabC lf) n) := by kernel_rfl
theorem r130 : runT (tabC (β := Unit) lf) (n + 1) 130 = S130 lf (runT (tabC lf) n) := by kernel_rfl
theorem r131 : runT (tabC (β := Unit) lf) (n + 1) 131 = S131 lf (runT (tabC lf) n) := by kernel_rfl
theorem r132 : runT (tabC (β := Unit) lf) (n + 1) 132 = S132 lf (runT (tabC lf) n) := by kernel_rfl
theorem r133 : runT (tabC (β := Unit) lf) (n + 1) 133 = S133 lf (runT (tabC lf) n) := by kernel_rfl
theorem r146 : runT (tabC (β := Unit) lf) (n + 1) 146 = S146 lf (runT (tabC lf) n) := by kernel_rfl
theorem r147 : runT (tabC (β := Unit) lf) (n + 1) 147 = S147 lf (runT (tabC lf) n) := by kernel_rfl
theorem r149 : runT (tabC (β := Unit) lf) (n + 1) 149 = S149 lf (runT (tabC lf) n) := by kernel_rfl
theorem r150 : runT (tabC (β := Unit) lf) (n + 1) 150 = S150 lf (runT (tabC lf) n) := by kernel_rfl
theorem r156 : runT (tabC (β := Unit) lf) (n + 1) 156 = S156 lf (runT (tabC lf) n) := by kernel_rfl
theorem r182 : runT (tabC (β := Unit) lf) (n + 1) 182 = S182 lf (runT (tabC lf) n) := by kernel_rfl
theorem r183 : runT (tabC (β := Unit) lf) (n + 1) 183 = S183 lf (runT (tabC lf) n) := by kernel_rfl
theorem r184 : runT (tabC (β := Unit) lf) (n + 1) 184 = S184 lf (runT (tabC lf) n) := by kernel_rfl
theorem rR201 : runT (tabC (β := Unit) lf) (n + 1) (Nat.add RB 201) = R201 lf (runT (tabC lf) n) := by kernel_rfl
theorem r21 : runT (tabC (β := Unit) lf) (n + 1) 21 = S21 lf (runT (tabC lf) n) := by kernel_rfl
end
end Go.Vit
