/- What a call of each function is: printed by a program. -/
import Derived.Test.YtnmmjbclidbdbaaDoorTab
set_option maxRecDepth 100000
namespace Go.Vit
open Go Go.Proofs
section
variable {lf n : Nat}
theorem r3 : runT (tab (β := Unit) lf) (n + 1) 3 = S3 lf (runT (tab lf) n) := by kernel_rfl
theorem r4 : runT (tab (β := Unit) lf) (n + 1) 4 = S4 lf (runT (tab lf) n) := by kernel_rfl
theorem r5 : runT (tab (β := Unit) lf) (n + 1) 5 = S5 lf (runT (tab lf) n) := by kernel_rfl
theorem r6 : runT (tab (β := Unit) lf) (n + 1) 6 = S6 lf (runT (tab lf) n) := by kernel_rfl
theorem r7 : runT (tab (β := Unit) lf) (n + 1) 7 = S7 lf (runT (tab lf) n) := by kernel_rfl
theorem r8 : runT (tab (β := Unit) lf) (n + 1) 8 = S8 lf (runT (tab lf) n) := by kernel_rfl
theorem r9 : runT (tab (β := Unit) lf) (n + 1) 9 = S9 lf (runT (tab lf) n) := by kernel_rfl
theorem r10 : runT (tab (β := Unit) lf) (n + 1) 10 = S10 lf (runT (tab lf) n) := by kernel_rfl
theorem r11 : runT (tab (β := Unit) lf) (n + 1) 11 = S11 lf (runT (tab lf) n) := by kernel_rfl
theorem r12 : runT (tab (β := Unit) lf) (n + 1) 12 = S12 lf (runT (tab lf) n) := by kernel_rfl
theorem r13 : runT (tab (β := Unit) lf) (n + 1) 13 = S13 lf (runT (tab lf) n) := by kernel_rfl
theorem r14 : runT (tab (β := Unit) lf) (n + 1) 14 = S14 lf (runT (tab lf) n) := by kernel_rfl
theorem r15 : runT (tab (β := Unit) lf) (n + 1) 15 = SClosed mTab (runT (tab lf) n) := by kernel_rfl
theorem r16 : runT (tab (β := Unit) lf) (n + 1) 16 = S16 lf (runT (tab lf) n) := by kernel_rfl
theorem r17 : runT (tab (β := Unit) lf) (n + 1) 17 = S17 lf (runT (tab lf) n) := by kernel_rfl
theorem r18 : runT (tab (β := Unit) lf) (n + 1) 18 = S18 lf (runT (tab lf) n) := by kernel_rfl
theorem r19 : runT (tab (β := Unit) lf) (n + 1) 19 = S19 lf (runT (tab lf) n) := by kernel_rfl
theorem r20 : runT (tab (β := Unit) lf) (n + 1) 20 = S20 lf (runT (tab lf) n) := by kernel_rfl
theorem r21 : runT (tab (β := Unit) lf) (n + 1) 21 = S21 lf (runT (tab lf) n) := by kernel_rfl
theorem r22 : runT (tab (β := Unit) lf) (n + 1) 22 = S22 lf (runT (tab lf) n) := by kernel_rfl
theorem r23 : runT (tab (β := Unit) lf) (n + 1) 23 = S23 lf (runT (tab lf) n) := by kernel_rfl
theorem r24 : runT (tab (β := Unit) lf) (n + 1) 24 = S24 lf (runT (tab lf) n) := by kernel_rfl
theorem r25 : runT (tab (β := Unit) lf) (n + 1) 25 = S25 lf (runT (tab lf) n) := by kernel_rfl
theorem r26 : runT (tab (β := Unit) lf) (n + 1) 26 = S26 lf (runT (tab lf) n) := by kernel_rfl
theorem r27 : runT (tab (β := Unit) lf) (n + 1) 27 = S27 lf (runT (tab lf) n) := by kernel_rfl
theorem r28 : runT (tab (β := Unit) lf) (n + 1) 28 = S28 lf (runT (tab lf) n) := by kernel_rfl
theorem r29 : runT (tab (β := Unit) lf) (n + 1) 29 = S29 lf (runT (tab lf) n) := by kernel_rfl
theorem r30 : runT (tab (β := Unit) lf) (n + 1) 30 = S30 lf (runT (tab lf) n) := by kernel_rfl
theorem r31 : runT (tab (β := Unit) lf) (n + 1) 31 = S31 lf (runT (tab lf) n) := by kernel_rfl
theorem r32 : runT (tab (β := Unit) lf) (n + 1) 32 = S32 lf (runT (tab lf) n) := by kernel_rfl
theorem r33 : runT (tab (β := Unit) lf) (n + 1) 33 = S33 lf (runT (tab lf) n) := by kernel_rfl
theorem r34 : runT (tab (β := Unit) lf) (n + 1) 34 = S34 lf (runT (tab lf) n) := by kernel_rfl
theorem r35 : runT (tab (β := Unit) lf) (n + 1) 35 = S35 lf (runT (tab lf) n) := by kernel_rfl
theorem r36 : runT (tab (β := Unit) lf) (n + 1) 36 = S36 lf (runT (tab lf) n) := by kernel_rfl
theorem r37 : runT (tab (β := Unit) lf) (n + 1) 37 = S37 lf (runT (tab lf) n) := by kernel_rfl
theorem r38 : runT (tab (β := Unit) lf) (n + 1) 38 = S38 lf (runT (tab lf) n) := by kernel_rfl
theorem r39 : runT (tab (β := Unit) lf) (n + 1) 39 = S39 lf (runT (tab lf) n) := by kernel_rfl
theorem r40 : runT (tab (β := Unit) lf) (n + 1) 40 = S40 lf (runT (tab lf) n) := by kernel_rfl
theorem r41 : runT (tab (β := Unit) lf) (n + 1) 41 = S41 lf (runT (tab lf) n) := by kernel_rfl
theorem r42 : runT (tab (β := Unit) lf) (n + 1) 42 = S42 lf (runT (tab lf) n) := by kernel_rfl
theorem r43 : runT (tab (β := Unit) lf) (n + 1) 43 = S43 lf (runT (tab lf) n) := by kernel_rfl
theorem r44 : runT (tab (β := Unit) lf) (n + 1) 44 = S44 lf (runT (tab lf) n) := by kernel_rfl
theorem r45 : runT (tab (β := Unit) lf) (n + 1) 45 = S45 lf (runT (tab lf) n) := by kernel_rfl
theorem r46 : runT (tab (β := Unit) lf) (n + 1) 46 = S46 lf (runT (tab lf) n) := by kernel_rfl
theorem r47 : runT (tab (β := Unit) lf) (n + 1) 47 = S47 lf (runT (tab lf) n) := by kernel_rfl
theorem r48 : runT (tab (β := Unit) lf) (n + 1) 48 = S48 lf (runT (tab lf) n) := by kernel_rfl
theorem r49 : runT (tab (β := Unit) lf) (n + 1) 49 = S49 lf (runT (tab lf) n) := by kernel_rfl
theorem r50 : runT (tab (β := Unit) lf) (n + 1) 50 = S50 lf (runT (tab lf) n) := by kernel_rfl
theorem r51 : runT (tab (β := Unit) lf) (n + 1) 51 = S51 lf (runT (tab lf) n) := by kernel_rfl
theorem r52 : runT (tab (β := Unit) lf) (n + 1) 52 = S52 lf (runT (tab lf) n) := by kernel_rfl
theorem r53 : runT (tab (β := Unit) lf) (n + 1) 53 = S53 lf (runT (tab lf) n) := by kernel_rfl
theorem r54 : runT (tab (β := Unit) lf) (n + 1) 54 = S54 lf (runT (tab lf) n) := by kernel_rfl
theorem r55 : runT (tab (β := Unit) lf) (n + 1) 55 = S55 lf (runT (tab lf) n) := by kernel_rfl
theorem r56 : runT (tab (β := Unit) lf) (n + 1) 56 = S56 lf (runT (tab lf) n) := by kernel_rfl
theorem r57 : runT (tab (β := Unit) lf) (n + 1) 57 = S57 lf (runT (tab lf) n) := by kernel_rfl
theorem r58 : runT (tab (β := Unit) lf) (n + 1) 58 = S58 lf (runT (tab lf) n) := by kernel_rfl
theorem r59 : runT (tab (β := Unit) lf) (n + 1) 59 = S59 lf (runT (tab lf) n) := by kernel_rfl
theorem r60 : runT (tab (β := Unit) lf) (n + 1) 60 = S60 lf (runT (tab lf) n) := by kernel_rfl
theorem r61 : runT (tab (β := Unit) lf) (n + 1) 61 = S61 lf (runT (tab lf) n) := by kernel_rfl
theorem r62 : runT (tab (β := Unit) lf) (n + 1) 62 = S62 lf (runT (tab lf) n) := by kernel_rfl
theorem r63 : runT (tab (β := Unit) lf) (n + 1) 63 = S63 lf (runT (tab lf) n) := by kernel_rfl
theorem r64 : runT (tab (β := Unit) lf) (n + 1) 64 = S64 lf (runT (tab lf) n) := by kernel_rfl
theorem r65 : runT (tab (β := Unit) lf) (n + 1) 65 = S65 lf (runT (tab lf) n) := by kernel_rfl
theorem r66 : runT (tab (β := Unit) lf) (n + 1) 66 = S66 lf (runT (tab lf) n) := by kernel_rfl
theorem r67 : runT (tab (β := Unit) lf) (n + 1) 67 = S67 lf (runT (tab lf) n) := by kernel_rfl
theorem r68 : runT (tab (β := Unit) lf) (n + 1) 68 = S68 lf (runT (tab lf) n) := by kernel_rfl
theorem r69 : runT (tab (β := Unit) lf) (n + 1) 69 = S69 lf (runT (tab lf) n) := by kernel_rfl
theorem r70 : runT (tab (β := Unit) lf) (n + 1) 70 = S70 lf (runT (tab lf) n) := by kernel_rfl
theorem r71 : runT (tab (β := Unit) lf) (n + 1) 71 = S71 lf (runT (tab lf) n) := by kernel_rfl
theorem r72 : runT (tab (β := Unit) lf) (n + 1) 72 = S72 lf (runT (tab lf) n) := by kernel_rfl
theorem r73 : runT (tab (β := Unit) lf) (n + 1) 73 = S73 lf (runT (tab lf) n) := by kernel_rfl
theorem r74 : runT (tab (β := Unit) lf) (n + 1) 74 = S74 lf (runT (tab lf) n) := by kernel_rfl
theorem r75 : runT (tab (β := Unit) lf) (n + 1) 75 = SSort (runT (tab lf) n) := by kernel_rfl
theorem r76 : runT (tab (β := Unit) lf) (n + 1) 76 = S76 lf (runT (tab lf) n) := by kernel_rfl
theorem r77 : runT (tab (β := Unit) lf) (n + 1) 77 = S77 lf (runT (tab lf) n) := by kernel_rfl
theorem r78 : runT (tab (β := Unit) lf) (n + 1) 78 = S78 lf (runT (tab lf) n) := by kernel_rfl
theorem r79 : runT (tab (β := Unit) lf) (n + 1) 79 = S79 lf (runT (tab lf) n) := by kernel_rfl
theorem r80 : runT (tab (β := Unit) lf) (n + 1) 80 = S80 lf (runT (tab lf) n) := by kernel_rfl
theorem r81 : runT (tab (β := Unit) lf) (n + 1) 81 = S81 lf (runT (tab lf) n) := by kernel_rfl
theorem r82 : runT (tab (β := Unit) lf) (n + 1) 82 = S82 lf (runT (tab lf) n) := by kernel_rfl
theorem r83 : runT (tab (β := Unit) lf) (n + 1) 83 = S83 lf (runT (tab lf) n) := by kernel_rfl
theorem r84 : runT (tab (β := Unit) lf) (n + 1) 84 = S84 lf (runT (tab lf) n) := by kernel_rfl
theorem r86 : runT (tab (β := Unit) lf) (n + 1) 86 = S86 lf (runT (tab lf) n) := by kernel_rfl
theorem r87 : runT (tab (β := Unit) lf) (n + 1) 87 = S87 lf (runT (tab lf) n) := by kernel_rfl
theorem r88 : runT (tab (β := Unit) lf) (n + 1) 88 = S88 lf (runT (tab lf) n) := by kernel_rfl
theorem r89 : runT (tab (β := Unit) lf) (n + 1) 89 = S89 lf (runT (tab lf) n) := by kernel_rfl
theorem r90 : runT (tab (β := Unit) lf) (n + 1) 90 = S90 lf (runT (tab lf) n) := by kernel_rfl
theorem r91 : runT (tab (β := Unit) lf) (n + 1) 91 = S91 lf (runT (tab lf) n) := by kernel_rfl
theorem r98 : runT (tab (β := Unit) lf) (n + 1) 98 = S98 lf (runT (tab lf) n) := by kernel_rfl
theorem r101 : runT (tab (β := Unit) lf) (n + 1) 101 = S101 lf (runT (tab lf) n) := by kernel_rfl
theorem r102 : runT (tab (β := Unit) lf) (n + 1) 102 = S102 lf (runT (tab lf) n) := by kernel_rfl
theorem r108 : runT (tab (β := Unit) lf) (n + 1) 108 = S108 lf (runT (tab lf) n) := by kernel_rfl
theorem r125 : runT (tab (β := Unit) lf) (n + 1) 125 = S125 lf (runT (tab lf) n) := by kernel_rfl
theorem r126 : runT (tab (β := Unit) lf) (n + 1) 126 = S126 lf (runT (tab lf) n) := by kernel_rfl
theorem rR84 : runT (tab (β := Unit) lf) (n + 1) (Nat.add RB 84) = R84 lf (runT (tab lf) n) := by kernel_rfl
end
end Go.Vit
