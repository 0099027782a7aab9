/- What the tables of the abstract interpreter hold. Conditions: none. -/
import Derived.Test.YtiighcpimecehaaGreatQ8
set_option linter.unusedSimpArgs false
set_option linter.unusedVariables false
namespace Go.Proofs.YtiighcpimecehaaGreat
open Go.Proofs Go.Proofs.YtiighcpimecehaaGreat
abbrev KY (t f : Nat) : Prop := isIn t (tabX.keep f) = true
abbrev KN (t f : Nat) : Prop := isIn t (tabX.keep f) = false
@[go_sem] theorem is_3_0 : KY 1 3 ∧ KY 2 3 ∧ KN 3 3 ∧ KN 4 3 ∧ KY 5 3 ∧ KY 6 3 ∧ KY 7 3 ∧ KY 8 3 ∧ KY 9 3 ∧ KY 10 3 ∧ KY 11 3 ∧ KY 12 3 ∧ KY 13 3 ∧ KY 14 3 ∧ KY 15 3 ∧ KY 16 3 ∧ KY 17 3 ∧ KY 18 3 ∧ KY 19 3 ∧ KY 20 3 ∧ KY 21 3 ∧ KY 22 3 ∧ KY 23 3 ∧ KY 24 3 ∧ KY 25 3 ∧ KY 26 3 ∧ KY 27 3 ∧ KN 28 3 ∧ KN 29 3 ∧ KN 30 3 := by decide +kernel
@[go_sem] theorem is_3_30 : KN 31 3 ∧ KN 32 3 ∧ KN 33 3 ∧ KN 34 3 ∧ KY 35 3 ∧ KN 36 3 ∧ KN 37 3 ∧ KN 38 3 ∧ KN 39 3 ∧ KN 40 3 ∧ KN 41 3 ∧ KN 42 3 ∧ KN 43 3 ∧ KN 44 3 ∧ KN 45 3 ∧ KN 46 3 ∧ KY 47 3 ∧ KN 48 3 ∧ KY 49 3 ∧ KN 50 3 ∧ KN 51 3 ∧ KN 52 3 ∧ KN 53 3 ∧ KN 54 3 ∧ KN 55 3 ∧ KN 56 3 ∧ KN 57 3 ∧ KY 58 3 ∧ KN 59 3 ∧ KN 60 3 := by decide +kernel
@[go_sem] theorem is_3_60 : KN 61 3 ∧ KN 62 3 ∧ KN 63 3 ∧ KN 64 3 ∧ KN 65 3 ∧ KN 66 3 ∧ KN 67 3 ∧ KN 68 3 ∧ KN 69 3 ∧ KN 70 3 ∧ KN 71 3 ∧ KN 72 3 ∧ KN 73 3 ∧ KN 74 3 ∧ KN 75 3 ∧ KN 76 3 ∧ KN 77 3 ∧ KY 78 3 ∧ KN 79 3 ∧ KN 80 3 ∧ KN 81 3 ∧ KN 82 3 ∧ KN 83 3 ∧ KN 84 3 ∧ KN 85 3 ∧ KN 86 3 ∧ KN 87 3 ∧ KN 88 3 ∧ KN 89 3 ∧ KN 90 3 := by decide +kernel
@[go_sem] theorem is_3_90 : KN 91 3 ∧ KN 92 3 ∧ KY 93 3 ∧ KN 94 3 ∧ KN 95 3 ∧ KN 96 3 ∧ KN 97 3 ∧ KN 98 3 ∧ KN 99 3 ∧ KN 100 3 ∧ KN 101 3 ∧ KN 102 3 ∧ KN 103 3 ∧ KN 104 3 ∧ KN 105 3 ∧ KN 106 3 ∧ KN 107 3 ∧ KN 108 3 ∧ KN 109 3 ∧ KN 110 3 ∧ KN 111 3 ∧ KN 112 3 ∧ KN 113 3 ∧ KN 114 3 ∧ KN 115 3 ∧ KN 116 3 ∧ KY 117 3 ∧ KN 118 3 ∧ KN 119 3 ∧ KN 120 3 := by decide +kernel
@[go_sem] theorem is_3_120 : KN 121 3 ∧ KN 122 3 ∧ KN 123 3 ∧ KN 124 3 ∧ KN 125 3 ∧ KN 126 3 ∧ KN 127 3 ∧ KN 128 3 ∧ KN 129 3 ∧ KN 130 3 ∧ KN 131 3 ∧ KN 132 3 ∧ KN 133 3 ∧ KN 134 3 ∧ KN 135 3 ∧ KN 136 3 ∧ KN 137 3 ∧ KN 138 3 ∧ KN 139 3 ∧ KN 140 3 ∧ KN 141 3 ∧ KN 142 3 ∧ KN 143 3 ∧ KN 144 3 ∧ KN 145 3 ∧ KN 146 3 ∧ KN 147 3 ∧ KN 148 3 ∧ KN 149 3 ∧ KN 150 3 := by decide +kernel
@[go_sem] theorem is_3_150 : KY 151 3 ∧ KN 152 3 ∧ KN 153 3 ∧ KN 154 3 ∧ KN 155 3 ∧ KY 156 3 ∧ KN 157 3 ∧ KN 158 3 ∧ KN 159 3 ∧ KN 160 3 ∧ KN 161 3 ∧ KN 162 3 ∧ KN 163 3 ∧ KN 164 3 ∧ KN 165 3 ∧ KN 166 3 ∧ KN 167 3 ∧ KN 168 3 ∧ KN 169 3 ∧ KN 170 3 ∧ KN 171 3 ∧ KN 172 3 ∧ KN 173 3 ∧ KN 174 3 ∧ KN 175 3 ∧ KN 176 3 ∧ KN 177 3 ∧ KN 178 3 ∧ KN 179 3 ∧ KN 180 3 := by decide +kernel
@[go_sem] theorem is_3_180 : KN 181 3 ∧ KN 182 3 ∧ KN 183 3 ∧ KN 184 3 ∧ KN 185 3 ∧ KN 186 3 ∧ KN 187 3 ∧ KN 188 3 ∧ KN 189 3 ∧ KN 190 3 ∧ KN 191 3 ∧ KN 192 3 ∧ KN 193 3 ∧ KN 194 3 ∧ KN 195 3 ∧ KN 196 3 ∧ KN 197 3 ∧ KN 198 3 ∧ KN 199 3 ∧ KN 200 3 ∧ KN 201 3 ∧ KN 202 3 ∧ KN 203 3 ∧ KY 204 3 ∧ KN 205 3 ∧ KN 206 3 ∧ KN 207 3 ∧ KN 208 3 := by decide +kernel
@[go_sem] theorem dp_3 : isIn 999999 (tabX.keep 3) = false := id rfl
@[go_sem] theorem is_5_0 : KY 1 5 ∧ KY 2 5 ∧ KY 3 5 ∧ KY 4 5 ∧ KY 5 5 ∧ KY 6 5 ∧ KY 7 5 ∧ KY 8 5 ∧ KY 9 5 ∧ KN 10 5 ∧ KN 11 5 ∧ KN 12 5 ∧ KN 13 5 ∧ KN 14 5 ∧ KN 15 5 ∧ KN 16 5 ∧ KN 17 5 ∧ KN 18 5 ∧ KN 19 5 ∧ KN 20 5 ∧ KN 21 5 ∧ KN 22 5 ∧ KN 23 5 ∧ KN 24 5 ∧ KN 25 5 ∧ KN 26 5 ∧ KY 27 5 ∧ KN 28 5 ∧ KN 29 5 ∧ KN 30 5 := by decide +kernel
@[go_sem] theorem is_5_30 : KY 31 5 ∧ KN 32 5 ∧ KN 33 5 ∧ KN 34 5 ∧ KN 35 5 ∧ KY 36 5 ∧ KN 37 5 ∧ KN 38 5 ∧ KN 39 5 ∧ KN 40 5 ∧ KN 41 5 ∧ KN 42 5 ∧ KN 43 5 ∧ KN 44 5 ∧ KN 45 5 ∧ KN 46 5 ∧ KN 47 5 ∧ KN 48 5 ∧ KN 49 5 ∧ KN 50 5 ∧ KN 51 5 ∧ KN 52 5 ∧ KN 53 5 ∧ KN 54 5 ∧ KN 55 5 ∧ KN 56 5 ∧ KN 57 5 ∧ KN 58 5 ∧ KN 59 5 ∧ KN 60 5 := by decide +kernel
@[go_sem] theorem is_5_60 : KN 61 5 ∧ KN 62 5 ∧ KN 63 5 ∧ KN 64 5 ∧ KN 65 5 ∧ KN 66 5 ∧ KN 67 5 ∧ KN 68 5 ∧ KY 69 5 ∧ KN 70 5 ∧ KN 71 5 ∧ KN 72 5 ∧ KN 73 5 ∧ KN 74 5 ∧ KN 75 5 ∧ KN 76 5 ∧ KN 77 5 ∧ KN 78 5 ∧ KN 79 5 ∧ KN 80 5 ∧ KY 81 5 ∧ KN 82 5 ∧ KY 83 5 ∧ KN 84 5 ∧ KN 85 5 ∧ KN 86 5 ∧ KN 87 5 ∧ KN 88 5 ∧ KY 89 5 ∧ KN 90 5 := by decide +kernel
@[go_sem] theorem is_5_90 : KN 91 5 ∧ KN 92 5 ∧ KN 93 5 ∧ KY 94 5 ∧ KN 95 5 ∧ KN 96 5 ∧ KN 97 5 ∧ KN 98 5 ∧ KN 99 5 ∧ KN 100 5 ∧ KN 101 5 ∧ KN 102 5 ∧ KN 103 5 ∧ KN 104 5 ∧ KN 105 5 ∧ KN 106 5 ∧ KN 107 5 ∧ KN 108 5 ∧ KN 109 5 ∧ KN 110 5 ∧ KN 111 5 ∧ KN 112 5 ∧ KN 113 5 ∧ KN 114 5 ∧ KN 115 5 ∧ KN 116 5 ∧ KN 117 5 ∧ KN 118 5 ∧ KN 119 5 ∧ KN 120 5 := by decide +kernel
@[go_sem] theorem is_5_120 : KN 121 5 ∧ KN 122 5 ∧ KN 123 5 ∧ KN 124 5 ∧ KN 125 5 ∧ KN 126 5 ∧ KN 127 5 ∧ KN 128 5 ∧ KN 129 5 ∧ KY 130 5 ∧ KN 131 5 ∧ KN 132 5 ∧ KN 133 5 ∧ KN 134 5 ∧ KN 135 5 ∧ KN 136 5 ∧ KN 137 5 ∧ KN 138 5 ∧ KN 139 5 ∧ KN 140 5 ∧ KN 141 5 ∧ KY 142 5 ∧ KN 143 5 ∧ KY 144 5 ∧ KN 145 5 ∧ KN 146 5 := by decide +kernel
@[go_sem] theorem dp_5 : isIn 999999 (tabX.keep 5) = false := id rfl
@[go_sem] theorem is_6_0 : KY 0 6 ∧ KY 1 6 ∧ KY 2 6 ∧ KY 3 6 ∧ KY 4 6 ∧ KY 5 6 ∧ KY 6 6 ∧ KY 7 6 ∧ KY 8 6 ∧ KY 9 6 ∧ KY 10 6 ∧ KY 11 6 ∧ KY 12 6 ∧ KY 13 6 ∧ KN 14 6 ∧ KY 15 6 ∧ KY 16 6 ∧ KY 17 6 ∧ KY 18 6 ∧ KY 19 6 ∧ KY 20 6 ∧ KY 21 6 ∧ KY 22 6 ∧ KY 23 6 ∧ KN 24 6 ∧ KY 25 6 ∧ KN 26 6 ∧ KN 27 6 ∧ KN 28 6 ∧ KN 29 6 := by decide +kernel
@[go_sem] theorem is_6_30 : KN 30 6 ∧ KN 31 6 ∧ KN 32 6 ∧ KN 33 6 ∧ KN 34 6 ∧ KN 35 6 ∧ KN 36 6 ∧ KN 37 6 ∧ KN 38 6 ∧ KN 39 6 ∧ KN 40 6 ∧ KN 41 6 ∧ KN 42 6 ∧ KN 43 6 ∧ KN 44 6 ∧ KN 45 6 ∧ KN 46 6 ∧ KN 47 6 ∧ KN 48 6 ∧ KN 49 6 ∧ KN 50 6 ∧ KN 51 6 ∧ KN 52 6 ∧ KN 53 6 ∧ KN 54 6 ∧ KN 55 6 ∧ KN 56 6 ∧ KN 57 6 ∧ KN 58 6 ∧ KN 59 6 := by decide +kernel
@[go_sem] theorem is_6_60 : KN 60 6 ∧ KN 61 6 ∧ KN 62 6 ∧ KN 63 6 ∧ KN 64 6 ∧ KN 65 6 ∧ KN 66 6 ∧ KN 67 6 ∧ KN 68 6 ∧ KN 69 6 ∧ KN 70 6 ∧ KN 71 6 ∧ KN 72 6 ∧ KN 73 6 ∧ KN 74 6 ∧ KN 75 6 ∧ KN 76 6 ∧ KN 77 6 ∧ KN 78 6 ∧ KN 79 6 ∧ KN 80 6 ∧ KN 81 6 ∧ KN 82 6 ∧ KN 83 6 ∧ KN 84 6 ∧ KN 85 6 ∧ KN 86 6 ∧ KN 87 6 ∧ KN 88 6 ∧ KN 89 6 := by decide +kernel
@[go_sem] theorem is_6_90 : KN 90 6 ∧ KN 91 6 ∧ KN 92 6 ∧ KN 93 6 ∧ KN 94 6 ∧ KN 95 6 ∧ KN 96 6 ∧ KN 97 6 ∧ KN 98 6 ∧ KN 99 6 ∧ KN 100 6 ∧ KN 101 6 ∧ KN 102 6 ∧ KN 103 6 ∧ KN 104 6 ∧ KN 105 6 ∧ KN 106 6 ∧ KN 107 6 ∧ KN 108 6 ∧ KN 109 6 ∧ KN 110 6 ∧ KN 111 6 ∧ KN 112 6 ∧ KN 113 6 ∧ KN 114 6 ∧ KN 115 6 ∧ KN 116 6 ∧ KN 117 6 ∧ KN 118 6 ∧ KN 119 6 := by decide +kernel
@[go_sem] theorem is_6_120 : KN 120 6 ∧ KN 121 6 ∧ KN 122 6 ∧ KN 123 6 ∧ KN 124 6 ∧ KN 125 6 ∧ KN 126 6 ∧ KN 127 6 ∧ KN 128 6 ∧ KN 129 6 ∧ KN 130 6 ∧ KN 131 6 ∧ KN 132 6 ∧ KN 133 6 ∧ KN 134 6 ∧ KN 135 6 ∧ KN 136 6 ∧ KN 137 6 ∧ KN 138 6 ∧ KN 139 6 ∧ KN 140 6 ∧ KN 141 6 ∧ KN 142 6 ∧ KN 143 6 ∧ KN 144 6 ∧ KN 145 6 ∧ KN 146 6 ∧ KN 147 6 ∧ KN 148 6 ∧ KN 149 6 := by decide +kernel
@[go_sem] theorem is_6_150 : KN 150 6 ∧ KN 151 6 ∧ KN 152 6 ∧ KN 153 6 ∧ KN 154 6 ∧ KN 155 6 ∧ KN 156 6 ∧ KN 157 6 ∧ KN 158 6 ∧ KN 159 6 ∧ KN 160 6 ∧ KN 161 6 ∧ KN 162 6 ∧ KN 163 6 ∧ KN 164 6 ∧ KN 165 6 ∧ KN 166 6 ∧ KN 167 6 ∧ KN 168 6 ∧ KN 169 6 ∧ KN 170 6 ∧ KN 171 6 := by decide +kernel
@[go_sem] theorem dp_6 : isIn 999999 (tabX.keep 6) = false := id rfl
@[go_sem] theorem is_7_0 : KY 0 7 ∧ KY 1 7 ∧ KY 2 7 ∧ KY 3 7 ∧ KY 4 7 ∧ KY 5 7 ∧ KY 6 7 ∧ KY 7 7 ∧ KY 8 7 ∧ KY 9 7 ∧ KN 10 7 ∧ KY 11 7 ∧ KY 12 7 ∧ KY 13 7 ∧ KY 14 7 ∧ KY 15 7 ∧ KY 16 7 ∧ KY 17 7 ∧ KY 18 7 ∧ KY 19 7 ∧ KY 20 7 ∧ KY 21 7 ∧ KY 22 7 ∧ KY 23 7 ∧ KY 24 7 ∧ KN 25 7 ∧ KY 26 7 ∧ KN 27 7 ∧ KN 28 7 ∧ KN 29 7 := by decide +kernel
@[go_sem] theorem is_7_30 : KN 30 7 ∧ KN 31 7 ∧ KN 32 7 ∧ KN 33 7 ∧ KN 34 7 ∧ KN 35 7 ∧ KN 36 7 ∧ KN 37 7 ∧ KN 38 7 ∧ KN 39 7 ∧ KN 40 7 ∧ KN 41 7 ∧ KN 42 7 ∧ KN 43 7 ∧ KN 44 7 ∧ KN 45 7 ∧ KN 46 7 ∧ KN 47 7 ∧ KN 48 7 ∧ KN 49 7 ∧ KN 50 7 ∧ KN 51 7 ∧ KN 52 7 ∧ KN 53 7 ∧ KN 54 7 ∧ KN 55 7 ∧ KN 56 7 ∧ KN 57 7 ∧ KN 58 7 ∧ KN 59 7 := by decide +kernel
@[go_sem] theorem is_7_60 : KN 60 7 ∧ KN 61 7 ∧ KN 62 7 ∧ KN 63 7 ∧ KN 64 7 ∧ KN 65 7 ∧ KN 66 7 ∧ KN 67 7 ∧ KN 68 7 ∧ KN 69 7 ∧ KN 70 7 ∧ KN 71 7 ∧ KN 72 7 ∧ KN 73 7 ∧ KN 74 7 ∧ KN 75 7 ∧ KN 76 7 ∧ KN 77 7 ∧ KN 78 7 ∧ KN 79 7 ∧ KN 80 7 ∧ KN 81 7 ∧ KN 82 7 ∧ KN 83 7 ∧ KN 84 7 ∧ KN 85 7 ∧ KN 86 7 ∧ KN 87 7 ∧ KN 88 7 ∧ KN 89 7 := by decide +kernel
@[go_sem] theorem is_7_90 : KN 90 7 ∧ KN 91 7 ∧ KN 92 7 ∧ KN 93 7 ∧ KN 94 7 ∧ KN 95 7 ∧ KN 96 7 ∧ KN 97 7 ∧ KN 98 7 ∧ KN 99 7 ∧ KN 100 7 ∧ KN 101 7 ∧ KN 102 7 ∧ KN 103 7 ∧ KN 104 7 ∧ KN 105 7 ∧ KN 106 7 ∧ KN 107 7 ∧ KN 108 7 ∧ KN 109 7 ∧ KN 110 7 ∧ KN 111 7 ∧ KN 112 7 ∧ KN 113 7 ∧ KN 114 7 ∧ KN 115 7 ∧ KN 116 7 ∧ KN 117 7 ∧ KN 118 7 ∧ KN 119 7 := by decide +kernel
@[go_sem] theorem is_7_120 : KN 120 7 ∧ KN 121 7 ∧ KN 122 7 ∧ KN 123 7 ∧ KN 124 7 ∧ KN 125 7 ∧ KN 126 7 ∧ KN 127 7 ∧ KN 128 7 ∧ KN 129 7 ∧ KN 130 7 ∧ KN 131 7 ∧ KN 132 7 ∧ KN 133 7 ∧ KN 134 7 ∧ KN 135 7 ∧ KN 136 7 ∧ KN 137 7 ∧ KN 138 7 ∧ KN 139 7 ∧ KN 140 7 ∧ KN 141 7 ∧ KN 142 7 ∧ KN 143 7 ∧ KN 144 7 ∧ KN 145 7 ∧ KN 146 7 ∧ KN 147 7 ∧ KN 148 7 ∧ KN 149 7 := by decide +kernel
@[go_sem] theorem is_7_150 : KN 150 7 ∧ KN 151 7 ∧ KN 152 7 ∧ KN 153 7 ∧ KN 154 7 ∧ KN 155 7 ∧ KN 156 7 ∧ KN 157 7 ∧ KN 158 7 ∧ KN 159 7 ∧ KN 160 7 ∧ KN 161 7 ∧ KN 162 7 ∧ KN 163 7 ∧ KN 164 7 ∧ KN 165 7 ∧ KN 166 7 ∧ KN 167 7 ∧ KN 168 7 ∧ KN 169 7 ∧ KN 170 7 ∧ KN 171 7 ∧ KN 172 7 ∧ KN 173 7 ∧ KN 174 7 ∧ KN 175 7 ∧ KN 176 7 ∧ KN 177 7 ∧ KN 178 7 ∧ KN 179 7 := by decide +kernel
@[go_sem] theorem is_7_180 : KN 180 7 ∧ KN 181 7 ∧ KN 182 7 ∧ KN 183 7 ∧ KN 184 7 ∧ KN 185 7 ∧ KN 186 7 := by decide +kernel
@[go_sem] theorem dp_7 : isIn 999999 (tabX.keep 7) = false := id rfl
@[go_sem] theorem is_8_0 : KY 1 8 ∧ KY 2 8 ∧ KY 3 8 ∧ KY 4 8 ∧ KY 5 8 ∧ KY 6 8 ∧ KY 7 8 ∧ KN 8 8 ∧ KN 9 8 ∧ KN 10 8 ∧ KN 11 8 ∧ KN 12 8 ∧ KN 13 8 ∧ KY 14 8 ∧ KN 15 8 ∧ KN 16 8 ∧ KN 17 8 ∧ KN 18 8 ∧ KN 19 8 ∧ KN 20 8 ∧ KN 21 8 ∧ KN 22 8 ∧ KN 23 8 ∧ KN 24 8 ∧ KN 25 8 ∧ KN 26 8 ∧ KN 27 8 ∧ KN 28 8 ∧ KN 29 8 ∧ KN 30 8 := by decide +kernel
@[go_sem] theorem is_8_30 : KY 31 8 ∧ KY 32 8 ∧ KY 33 8 ∧ KN 34 8 ∧ KN 35 8 ∧ KN 36 8 ∧ KN 37 8 ∧ KN 38 8 ∧ KN 39 8 ∧ KN 40 8 ∧ KN 41 8 ∧ KN 42 8 ∧ KN 43 8 := by decide +kernel
@[go_sem] theorem dp_8 : isIn 999999 (tabX.keep 8) = false := id rfl
@[go_sem] theorem is_9_0 : KY 2 9 ∧ KY 4 9 ∧ KY 5 9 ∧ KY 6 9 ∧ KY 7 9 ∧ KY 8 9 ∧ KY 9 9 ∧ KN 10 9 ∧ KY 12 9 ∧ KN 13 9 ∧ KN 14 9 ∧ KN 15 9 ∧ KN 16 9 ∧ KN 17 9 ∧ KN 18 9 ∧ KN 19 9 ∧ KN 20 9 ∧ KN 21 9 ∧ KN 22 9 ∧ KN 23 9 ∧ KY 24 9 ∧ KN 25 9 ∧ KN 26 9 ∧ KN 27 9 ∧ KN 28 9 ∧ KN 29 9 ∧ KN 30 9 ∧ KY 31 9 ∧ KY 32 9 ∧ KY 33 9 := by decide +kernel
@[go_sem] theorem is_9_30 : KY 34 9 ∧ KN 35 9 ∧ KN 36 9 ∧ KN 37 9 ∧ KN 38 9 ∧ KN 39 9 ∧ KY 40 9 ∧ KN 41 9 ∧ KN 42 9 ∧ KN 43 9 ∧ KN 44 9 ∧ KN 45 9 ∧ KN 46 9 ∧ KN 47 9 ∧ KN 48 9 ∧ KN 49 9 ∧ KN 50 9 ∧ KN 51 9 ∧ KN 52 9 ∧ KN 53 9 := by decide +kernel
@[go_sem] theorem dp_9 : isIn 999999 (tabX.keep 9) = false := id rfl
@[go_sem] theorem is_10_0 : KY 4 10 ∧ KY 5 10 ∧ KY 6 10 ∧ KY 7 10 ∧ KN 8 10 ∧ KN 9 10 ∧ KY 10 10 ∧ KN 11 10 ∧ KN 12 10 ∧ KN 13 10 ∧ KN 14 10 ∧ KY 15 10 ∧ KN 16 10 ∧ KN 17 10 ∧ KN 18 10 ∧ KN 19 10 ∧ KN 20 10 ∧ KN 21 10 := by decide +kernel
@[go_sem] theorem dp_10 : isIn 999999 (tabX.keep 10) = false := id rfl
@[go_sem] theorem is_11_0 : KY 1 11 ∧ KY 2 11 ∧ KY 3 11 ∧ KY 4 11 ∧ KY 5 11 ∧ KY 6 11 ∧ KY 7 11 ∧ KN 8 11 ∧ KN 9 11 ∧ KN 10 11 ∧ KN 11 11 ∧ KN 12 11 ∧ KN 13 11 ∧ KY 14 11 ∧ KN 15 11 ∧ KN 16 11 ∧ KN 17 11 ∧ KN 18 11 ∧ KN 19 11 ∧ KY 20 11 ∧ KN 21 11 ∧ KY 22 11 ∧ KN 23 11 ∧ KN 24 11 ∧ KN 25 11 ∧ KN 26 11 ∧ KN 27 11 ∧ KN 28 11 ∧ KN 29 11 ∧ KN 30 11 := by decide +kernel
@[go_sem] theorem is_11_30 : KN 31 11 ∧ KN 32 11 ∧ KN 33 11 ∧ KN 34 11 ∧ KN 35 11 ∧ KN 36 11 ∧ KN 37 11 ∧ KN 38 11 ∧ KY 39 11 ∧ KN 40 11 ∧ KN 41 11 ∧ KN 42 11 ∧ KN 43 11 ∧ KN 44 11 ∧ KN 45 11 ∧ KN 46 11 ∧ KN 47 11 ∧ KN 48 11 ∧ KN 49 11 := by decide +kernel
@[go_sem] theorem dp_11 : isIn 999999 (tabX.keep 11) = false := id rfl
@[go_sem] theorem is_12_0 : KY 4 12 ∧ KN 5 12 ∧ KN 6 12 ∧ KN 7 12 ∧ KN 8 12 ∧ KN 9 12 ∧ KN 10 12 ∧ KN 11 12 ∧ KN 12 12 ∧ KN 13 12 ∧ KN 14 12 ∧ KN 15 12 ∧ KN 16 12 ∧ KN 17 12 ∧ KN 18 12 ∧ KN 19 12 ∧ KN 20 12 ∧ KN 21 12 := by decide +kernel
@[go_sem] theorem dp_12 : isIn 999999 (tabX.keep 12) = false := id rfl
@[go_sem] theorem is_13_0 : KY 1 13 ∧ KY 2 13 ∧ KY 3 13 ∧ KY 4 13 ∧ KY 5 13 ∧ KY 6 13 ∧ KY 7 13 ∧ KN 8 13 ∧ KN 9 13 ∧ KN 10 13 ∧ KN 11 13 ∧ KN 12 13 ∧ KN 13 13 ∧ KN 14 13 ∧ KN 15 13 ∧ KY 16 13 ∧ KN 17 13 ∧ KN 18 13 ∧ KN 19 13 ∧ KN 20 13 ∧ KN 21 13 ∧ KN 22 13 ∧ KN 23 13 ∧ KN 24 13 ∧ KN 25 13 ∧ KN 26 13 ∧ KN 27 13 ∧ KN 28 13 ∧ KN 29 13 ∧ KY 30 13 := by decide +kernel
@[go_sem] theorem is_13_30 : KN 31 13 ∧ KN 32 13 ∧ KN 33 13 ∧ KN 34 13 ∧ KN 35 13 ∧ KN 36 13 ∧ KN 37 13 ∧ KN 38 13 ∧ KN 39 13 ∧ KY 40 13 ∧ KN 41 13 ∧ KN 42 13 ∧ KN 43 13 ∧ KN 44 13 ∧ KN 45 13 ∧ KN 46 13 ∧ KN 47 13 ∧ KN 48 13 := by decide +kernel
@[go_sem] theorem dp_13 : isIn 999999 (tabX.keep 13) = false := id rfl
@[go_sem] theorem is_14_0 : KY 2 14 ∧ KY 4 14 ∧ KY 5 14 ∧ KY 6 14 ∧ KY 7 14 ∧ KY 8 14 ∧ KN 9 14 ∧ KY 10 14 ∧ KY 12 14 ∧ KN 13 14 ∧ KN 14 14 ∧ KN 15 14 ∧ KN 16 14 ∧ KN 17 14 ∧ KN 18 14 ∧ KN 19 14 ∧ KN 20 14 ∧ KN 21 14 ∧ KN 22 14 ∧ KN 23 14 ∧ KY 24 14 ∧ KN 25 14 ∧ KN 26 14 ∧ KN 27 14 ∧ KN 28 14 ∧ KN 29 14 ∧ KN 30 14 ∧ KN 31 14 ∧ KN 32 14 ∧ KN 33 14 := by decide +kernel
@[go_sem] theorem is_14_30 : KN 34 14 ∧ KN 35 14 ∧ KY 36 14 ∧ KY 37 14 ∧ KY 38 14 ∧ KY 39 14 ∧ KN 40 14 ∧ KN 41 14 ∧ KN 42 14 ∧ KN 43 14 ∧ KN 44 14 ∧ KN 45 14 ∧ KN 46 14 ∧ KN 47 14 ∧ KN 48 14 ∧ KN 49 14 ∧ KY 50 14 ∧ KN 51 14 ∧ KN 52 14 ∧ KN 53 14 := by decide +kernel
@[go_sem] theorem dp_14 : isIn 999999 (tabX.keep 14) = false := id rfl
@[go_sem] theorem is_15_0 : KY 2 15 ∧ KY 4 15 ∧ KY 5 15 ∧ KY 6 15 ∧ KY 7 15 ∧ KN 8 15 ∧ KN 9 15 ∧ KN 10 15 ∧ KN 11 15 ∧ KN 12 15 ∧ KN 13 15 ∧ KN 14 15 ∧ KN 15 15 ∧ KN 16 15 ∧ KN 17 15 ∧ KY 18 15 ∧ KN 19 15 ∧ KN 20 15 ∧ KN 21 15 ∧ KY 22 15 ∧ KN 23 15 ∧ KN 24 15 ∧ KN 25 15 ∧ KN 26 15 ∧ KN 27 15 ∧ KN 28 15 ∧ KN 29 15 ∧ KN 30 15 ∧ KN 31 15 ∧ KN 32 15 := by decide +kernel
@[go_sem] theorem is_15_30 : KN 33 15 ∧ KN 34 15 ∧ KN 35 15 ∧ KN 36 15 ∧ KN 37 15 ∧ KN 38 15 := by decide +kernel
@[go_sem] theorem dp_15 : isIn 999999 (tabX.keep 15) = false := id rfl
@[go_sem] theorem is_16_0 : KY 2 16 ∧ KY 4 16 ∧ KY 5 16 ∧ KY 6 16 ∧ KY 7 16 ∧ KN 8 16 ∧ KN 9 16 ∧ KN 10 16 ∧ KN 11 16 ∧ KN 12 16 ∧ KN 13 16 ∧ KN 14 16 ∧ KN 15 16 ∧ KN 16 16 ∧ KN 17 16 ∧ KN 18 16 ∧ KY 19 16 ∧ KN 20 16 ∧ KN 21 16 ∧ KN 22 16 ∧ KN 23 16 ∧ KN 24 16 ∧ KN 25 16 ∧ KN 26 16 ∧ KN 27 16 ∧ KN 28 16 ∧ KN 29 16 ∧ KN 30 16 := by decide +kernel
@[go_sem] theorem dp_16 : isIn 999999 (tabX.keep 16) = false := id rfl
@[go_sem] theorem is_22_0 : KY 2 22 ∧ KY 4 22 ∧ KY 5 22 ∧ KY 6 22 ∧ KY 7 22 ∧ KY 9 22 ∧ KY 10 22 ∧ KN 11 22 ∧ KN 12 22 ∧ KN 13 22 ∧ KN 14 22 ∧ KN 15 22 ∧ KN 16 22 ∧ KN 17 22 ∧ KN 18 22 ∧ KN 19 22 ∧ KN 20 22 ∧ KN 21 22 ∧ KY 22 22 ∧ KN 23 22 ∧ KN 24 22 ∧ KN 25 22 ∧ KN 26 22 ∧ KN 27 22 ∧ KN 28 22 ∧ KY 29 22 ∧ KN 30 22 ∧ KY 31 22 ∧ KN 32 22 ∧ KN 33 22 := by decide +kernel
@[go_sem] theorem is_22_30 : KN 34 22 ∧ KN 35 22 ∧ KN 36 22 ∧ KY 37 22 ∧ KN 38 22 ∧ KN 39 22 ∧ KN 40 22 ∧ KN 41 22 ∧ KN 42 22 ∧ KN 43 22 ∧ KN 44 22 ∧ KN 45 22 ∧ KN 46 22 ∧ KN 47 22 ∧ KN 48 22 ∧ KN 49 22 ∧ KN 50 22 := by decide +kernel
@[go_sem] theorem dp_22 : isIn 999999 (tabX.keep 22) = false := id rfl
@[go_sem] theorem is_24_0 : KY 6 24 ∧ KN 7 24 ∧ KN 8 24 ∧ KN 9 24 ∧ KN 10 24 ∧ KN 11 24 ∧ KN 12 24 ∧ KN 13 24 ∧ KN 14 24 := by decide +kernel
@[go_sem] theorem dp_24 : isIn 999999 (tabX.keep 24) = false := id rfl
@[go_sem] theorem is_28_0 : KY 4 28 ∧ KY 5 28 ∧ KN 6 28 ∧ KN 7 28 ∧ KN 8 28 ∧ KY 9 28 ∧ KN 10 28 ∧ KN 11 28 ∧ KY 12 28 ∧ KN 13 28 := by decide +kernel
@[go_sem] theorem dp_28 : isIn 999999 (tabX.keep 28) = false := id rfl
@[go_sem] theorem is_29_0 : KY 4 29 ∧ KY 5 29 ∧ KY 6 29 ∧ KN 7 29 ∧ KN 8 29 ∧ KN 9 29 ∧ KY 10 29 ∧ KN 11 29 ∧ KN 12 29 ∧ KN 13 29 ∧ KN 14 29 ∧ KN 15 29 ∧ KN 16 29 ∧ KN 17 29 ∧ KN 18 29 ∧ KN 19 29 ∧ KN 20 29 ∧ KN 21 29 ∧ KN 22 29 := by decide +kernel
@[go_sem] theorem dp_29 : isIn 999999 (tabX.keep 29) = false := id rfl
@[go_sem] theorem is_30_0 : KY 2 30 ∧ KY 3 30 ∧ KN 4 30 ∧ KN 5 30 ∧ KN 6 30 ∧ KN 7 30 ∧ KN 8 30 ∧ KN 9 30 ∧ KN 10 30 ∧ KN 11 30 ∧ KN 12 30 ∧ KN 13 30 ∧ KN 14 30 ∧ KN 15 30 ∧ KN 16 30 ∧ KY 17 30 ∧ KN 18 30 ∧ KN 19 30 ∧ KN 20 30 ∧ KN 21 30 ∧ KN 22 30 ∧ KN 23 30 ∧ KN 24 30 ∧ KN 25 30 := by decide +kernel
@[go_sem] theorem dp_30 : isIn 999999 (tabX.keep 30) = false := id rfl
@[go_sem] theorem is_31_0 : KY 3 31 ∧ KY 6 31 ∧ KY 7 31 ∧ KY 8 31 ∧ KY 10 31 ∧ KN 11 31 ∧ KN 12 31 ∧ KN 13 31 ∧ KN 14 31 ∧ KN 15 31 ∧ KN 16 31 ∧ KN 17 31 ∧ KN 18 31 ∧ KN 19 31 ∧ KN 20 31 ∧ KY 21 31 ∧ KN 22 31 ∧ KN 23 31 ∧ KN 24 31 ∧ KY 25 31 ∧ KN 26 31 ∧ KN 27 31 ∧ KN 28 31 ∧ KN 29 31 ∧ KN 30 31 ∧ KN 31 31 ∧ KN 32 31 ∧ KN 33 31 ∧ KN 34 31 ∧ KN 35 31 := by decide +kernel
@[go_sem] theorem is_31_30 : KY 36 31 ∧ KY 37 31 ∧ KY 38 31 ∧ KY 39 31 ∧ KN 40 31 ∧ KN 41 31 ∧ KN 42 31 ∧ KN 43 31 ∧ KN 44 31 ∧ KN 45 31 ∧ KN 46 31 ∧ KN 47 31 ∧ KY 48 31 ∧ KN 49 31 ∧ KN 50 31 ∧ KN 51 31 ∧ KN 52 31 ∧ KN 53 31 ∧ KN 54 31 ∧ KN 55 31 := by decide +kernel
@[go_sem] theorem dp_31 : isIn 999999 (tabX.keep 31) = false := id rfl
@[go_sem] theorem is_32_0 : KY 1 32 ∧ KY 2 32 ∧ KY 3 32 ∧ KY 4 32 ∧ KY 5 32 ∧ KN 6 32 ∧ KY 7 32 ∧ KY 8 32 ∧ KY 9 32 ∧ KY 10 32 ∧ KY 11 32 ∧ KN 12 32 ∧ KN 13 32 ∧ KN 14 32 ∧ KN 15 32 ∧ KN 16 32 ∧ KN 17 32 ∧ KY 18 32 ∧ KN 19 32 ∧ KN 20 32 ∧ KN 21 32 ∧ KN 22 32 ∧ KN 23 32 ∧ KN 24 32 ∧ KY 25 32 ∧ KY 26 32 ∧ KY 27 32 ∧ KY 28 32 ∧ KN 29 32 ∧ KN 30 32 := by decide +kernel
@[go_sem] theorem is_32_30 : KN 31 32 ∧ KN 32 32 ∧ KN 33 32 ∧ KY 34 32 ∧ KY 35 32 ∧ KY 36 32 ∧ KN 37 32 ∧ KN 38 32 ∧ KN 39 32 ∧ KN 40 32 ∧ KY 41 32 ∧ KN 42 32 ∧ KN 43 32 ∧ KN 44 32 ∧ KN 45 32 ∧ KN 46 32 ∧ KN 47 32 ∧ KN 48 32 ∧ KN 49 32 ∧ KN 50 32 ∧ KN 51 32 ∧ KN 52 32 ∧ KN 53 32 ∧ KN 54 32 ∧ KN 55 32 ∧ KN 56 32 ∧ KN 57 32 ∧ KN 58 32 ∧ KY 59 32 ∧ KN 60 32 := by decide +kernel
@[go_sem] theorem is_32_60 : KN 61 32 ∧ KN 62 32 := by decide +kernel
@[go_sem] theorem dp_32 : isIn 999999 (tabX.keep 32) = false := id rfl
@[go_sem] theorem is_33_0 : KY 3 33 ∧ KY 6 33 ∧ KY 7 33 ∧ KY 8 33 ∧ KY 9 33 ∧ KN 10 33 ∧ KN 11 33 ∧ KN 12 33 ∧ KN 13 33 ∧ KN 14 33 ∧ KN 15 33 ∧ KN 16 33 ∧ KN 17 33 ∧ KN 18 33 ∧ KN 19 33 ∧ KN 20 33 ∧ KY 21 33 ∧ KN 22 33 ∧ KN 23 33 ∧ KN 24 33 ∧ KY 25 33 ∧ KN 26 33 ∧ KN 27 33 ∧ KN 28 33 ∧ KN 29 33 ∧ KN 30 33 ∧ KN 31 33 ∧ KN 32 33 ∧ KN 33 33 ∧ KN 34 33 := by decide +kernel
@[go_sem] theorem is_33_30 : KN 35 33 ∧ KN 36 33 ∧ KN 37 33 ∧ KN 38 33 ∧ KN 39 33 ∧ KN 40 33 ∧ KN 41 33 ∧ KN 42 33 ∧ KN 43 33 ∧ KN 44 33 := by decide +kernel
@[go_sem] theorem dp_33 : isIn 999999 (tabX.keep 33) = false := id rfl
@[go_sem] theorem is_34_0 : KY 1 34 ∧ KY 2 34 ∧ KY 3 34 ∧ KY 4 34 ∧ KY 5 34 ∧ KY 6 34 ∧ KY 7 34 ∧ KY 8 34 ∧ KY 10 34 ∧ KN 11 34 ∧ KN 12 34 ∧ KN 13 34 ∧ KN 14 34 ∧ KN 15 34 ∧ KN 16 34 ∧ KY 17 34 ∧ KN 18 34 ∧ KN 19 34 ∧ KY 20 34 ∧ KY 21 34 ∧ KY 22 34 ∧ KY 23 34 ∧ KN 24 34 ∧ KN 25 34 ∧ KN 26 34 ∧ KN 27 34 ∧ KN 28 34 ∧ KN 29 34 ∧ KY 30 34 ∧ KY 31 34 := by decide +kernel
@[go_sem] theorem is_34_30 : KY 32 34 ∧ KY 33 34 ∧ KN 34 34 ∧ KN 35 34 ∧ KN 36 34 ∧ KN 37 34 ∧ KN 38 34 ∧ KN 39 34 ∧ KN 40 34 ∧ KN 41 34 ∧ KN 42 34 ∧ KN 43 34 ∧ KN 44 34 ∧ KN 45 34 ∧ KN 46 34 ∧ KN 47 34 ∧ KY 48 34 ∧ KN 49 34 ∧ KN 50 34 ∧ KN 51 34 ∧ KN 52 34 ∧ KN 53 34 ∧ KN 54 34 ∧ KN 55 34 ∧ KY 56 34 ∧ KN 57 34 := by decide +kernel
@[go_sem] theorem dp_34 : isIn 999999 (tabX.keep 34) = false := id rfl
@[go_sem] theorem is_35_0 : KY 2 35 ∧ KY 4 35 ∧ KY 5 35 ∧ KY 6 35 ∧ KY 7 35 ∧ KY 8 35 ∧ KY 9 35 ∧ KY 10 35 ∧ KN 11 35 ∧ KN 12 35 ∧ KN 13 35 ∧ KN 14 35 ∧ KN 15 35 ∧ KY 16 35 ∧ KN 17 35 ∧ KN 18 35 ∧ KN 19 35 ∧ KY 20 35 ∧ KN 21 35 ∧ KN 22 35 ∧ KN 23 35 ∧ KN 24 35 ∧ KN 25 35 ∧ KY 26 35 ∧ KN 27 35 ∧ KN 28 35 ∧ KN 29 35 ∧ KY 30 35 ∧ KY 31 35 ∧ KY 32 35 := by decide +kernel
@[go_sem] theorem is_35_30 : KY 33 35 ∧ KN 34 35 ∧ KN 35 35 ∧ KN 36 35 ∧ KN 37 35 ∧ KN 38 35 ∧ KN 39 35 ∧ KN 40 35 ∧ KN 41 35 ∧ KN 42 35 ∧ KY 43 35 ∧ KN 44 35 ∧ KN 45 35 ∧ KN 46 35 ∧ KN 47 35 ∧ KN 48 35 ∧ KN 49 35 ∧ KN 50 35 ∧ KN 51 35 ∧ KN 52 35 ∧ KN 53 35 := by decide +kernel
@[go_sem] theorem dp_35 : isIn 999999 (tabX.keep 35) = false := id rfl
@[go_sem] theorem is_36_0 : KY 2 36 ∧ KY 3 36 ∧ KN 4 36 ∧ KN 5 36 ∧ KN 6 36 ∧ KN 7 36 ∧ KN 8 36 ∧ KN 9 36 ∧ KN 10 36 ∧ KN 11 36 ∧ KN 12 36 ∧ KN 13 36 ∧ KN 14 36 ∧ KY 15 36 ∧ KN 16 36 ∧ KN 17 36 ∧ KN 18 36 ∧ KN 19 36 ∧ KN 20 36 ∧ KN 21 36 := by decide +kernel
@[go_sem] theorem dp_36 : isIn 999999 (tabX.keep 36) = false := id rfl
@[go_sem] theorem is_37_0 : KY 1 37 ∧ KY 2 37 ∧ KY 3 37 ∧ KY 4 37 ∧ KY 5 37 ∧ KN 6 37 ∧ KN 7 37 ∧ KN 8 37 ∧ KN 9 37 ∧ KN 10 37 ∧ KN 11 37 ∧ KY 12 37 ∧ KN 13 37 ∧ KN 14 37 ∧ KN 15 37 := by decide +kernel
@[go_sem] theorem dp_37 : isIn 999999 (tabX.keep 37) = false := id rfl
@[go_sem] theorem is_38_0 : KY 1 38 ∧ KY 2 38 ∧ KY 3 38 ∧ KY 4 38 ∧ KY 5 38 ∧ KY 6 38 ∧ KY 7 38 ∧ KN 8 38 ∧ KN 9 38 ∧ KN 10 38 ∧ KN 11 38 ∧ KN 12 38 ∧ KN 13 38 ∧ KY 14 38 ∧ KN 15 38 ∧ KN 16 38 ∧ KN 17 38 ∧ KN 18 38 ∧ KN 19 38 ∧ KN 20 38 ∧ KN 21 38 ∧ KN 22 38 ∧ KN 23 38 ∧ KN 24 38 ∧ KY 25 38 ∧ KN 26 38 := by decide +kernel
@[go_sem] theorem dp_38 : isIn 999999 (tabX.keep 38) = false := id rfl
@[go_sem] theorem is_39_0 : KY 1 39 ∧ KY 2 39 ∧ KY 3 39 ∧ KY 4 39 ∧ KY 5 39 ∧ KY 6 39 ∧ KY 7 39 ∧ KN 8 39 ∧ KN 9 39 ∧ KN 10 39 ∧ KN 11 39 ∧ KN 12 39 ∧ KN 13 39 ∧ KY 14 39 ∧ KN 15 39 ∧ KN 16 39 ∧ KY 17 39 ∧ KY 18 39 ∧ KY 19 39 ∧ KY 20 39 ∧ KN 21 39 ∧ KN 22 39 ∧ KN 23 39 ∧ KN 24 39 ∧ KN 25 39 ∧ KN 26 39 ∧ KY 27 39 ∧ KN 28 39 ∧ KN 29 39 ∧ KN 30 39 := by decide +kernel
@[go_sem] theorem is_39_30 : KN 31 39 ∧ KN 32 39 ∧ KN 33 39 ∧ KY 34 39 ∧ KN 35 39 ∧ KN 36 39 ∧ KN 37 39 ∧ KN 38 39 ∧ KN 39 39 ∧ KN 40 39 ∧ KN 41 39 := by decide +kernel
@[go_sem] theorem dp_39 : isIn 999999 (tabX.keep 39) = false := id rfl
@[go_sem] theorem is_40_0 : KY 1 40 ∧ KY 2 40 ∧ KY 3 40 ∧ KY 4 40 ∧ KY 5 40 ∧ KY 6 40 ∧ KN 7 40 ∧ KN 8 40 ∧ KN 9 40 ∧ KN 10 40 ∧ KN 11 40 ∧ KN 12 40 ∧ KN 13 40 ∧ KY 14 40 ∧ KN 15 40 ∧ KN 16 40 ∧ KN 17 40 ∧ KN 18 40 ∧ KN 19 40 ∧ KN 20 40 ∧ KN 21 40 ∧ KN 22 40 ∧ KN 23 40 ∧ KN 24 40 := by decide +kernel
@[go_sem] theorem dp_40 : isIn 999999 (tabX.keep 40) = false := id rfl
@[go_sem] theorem is_41_0 : KY 4 41 ∧ KN 5 41 ∧ KN 6 41 ∧ KN 7 41 := by decide +kernel
@[go_sem] theorem dp_41 : isIn 999999 (tabX.keep 41) = false := id rfl
@[go_sem] theorem is_42_0 : KY 3 42 ∧ KY 6 42 ∧ KY 7 42 ∧ KN 8 42 ∧ KN 9 42 ∧ KY 10 42 ∧ KN 11 42 ∧ KN 12 42 ∧ KN 13 42 ∧ KN 14 42 ∧ KN 15 42 ∧ KN 16 42 ∧ KY 17 42 ∧ KN 18 42 ∧ KN 19 42 ∧ KN 20 42 ∧ KY 21 42 ∧ KN 22 42 ∧ KN 23 42 ∧ KN 24 42 ∧ KN 25 42 ∧ KN 26 42 ∧ KN 27 42 := by decide +kernel
@[go_sem] theorem dp_42 : isIn 999999 (tabX.keep 42) = false := id rfl
@[go_sem] theorem is_43_0 : KY 2 43 ∧ KY 3 43 ∧ KY 4 43 ∧ KY 5 43 ∧ KN 6 43 ∧ KN 7 43 ∧ KN 8 43 ∧ KN 9 43 ∧ KN 10 43 ∧ KN 11 43 ∧ KN 12 43 ∧ KN 13 43 ∧ KY 14 43 ∧ KY 15 43 ∧ KY 16 43 ∧ KY 17 43 ∧ KN 18 43 ∧ KN 19 43 ∧ KN 20 43 ∧ KN 21 43 ∧ KN 22 43 ∧ KN 23 43 ∧ KY 24 43 ∧ KN 25 43 ∧ KN 26 43 ∧ KN 27 43 ∧ KN 28 43 ∧ KN 29 43 ∧ KN 30 43 ∧ KN 31 43 := by decide +kernel
@[go_sem] theorem is_43_30 : KN 32 43 ∧ KN 33 43 ∧ KN 34 43 ∧ KN 35 43 ∧ KN 36 43 ∧ KN 37 43 ∧ KN 38 43 ∧ KN 39 43 ∧ KN 40 43 ∧ KN 41 43 ∧ KN 42 43 ∧ KN 43 43 := by decide +kernel
@[go_sem] theorem dp_43 : isIn 999999 (tabX.keep 43) = false := id rfl
@[go_sem] theorem is_44_0 : KY 4 44 ∧ KY 5 44 ∧ KY 6 44 ∧ KY 7 44 ∧ KY 8 44 ∧ KN 9 44 ∧ KN 10 44 ∧ KN 11 44 ∧ KN 12 44 ∧ KN 13 44 ∧ KY 14 44 ∧ KN 15 44 ∧ KN 16 44 ∧ KN 17 44 ∧ KN 18 44 ∧ KN 19 44 ∧ KN 20 44 := by decide +kernel
@[go_sem] theorem dp_44 : isIn 999999 (tabX.keep 44) = false := id rfl
@[go_sem] theorem is_45_0 : KY 4 45 ∧ KY 5 45 ∧ KY 6 45 ∧ KN 7 45 ∧ KN 8 45 ∧ KN 9 45 ∧ KY 10 45 ∧ KN 11 45 ∧ KN 12 45 ∧ KN 13 45 ∧ KN 14 45 ∧ KN 15 45 ∧ KN 16 45 ∧ KN 17 45 ∧ KN 18 45 ∧ KN 19 45 ∧ KN 20 45 ∧ KN 21 45 ∧ KN 22 45 := by decide +kernel
@[go_sem] theorem dp_45 : isIn 999999 (tabX.keep 45) = false := id rfl
@[go_sem] theorem is_46_0 : KY 3 46 ∧ KY 6 46 ∧ KY 7 46 ∧ KN 8 46 ∧ KN 9 46 ∧ KY 10 46 ∧ KY 11 46 ∧ KN 12 46 ∧ KN 13 46 ∧ KN 14 46 ∧ KN 15 46 ∧ KN 16 46 ∧ KN 17 46 ∧ KY 18 46 ∧ KN 19 46 ∧ KN 20 46 ∧ KN 21 46 ∧ KY 22 46 ∧ KN 23 46 ∧ KN 24 46 ∧ KN 25 46 ∧ KN 26 46 ∧ KN 27 46 ∧ KN 28 46 ∧ KN 29 46 ∧ KN 30 46 ∧ KN 31 46 ∧ KN 32 46 ∧ KN 33 46 ∧ KY 34 46 := by decide +kernel
@[go_sem] theorem is_46_30 : isIn 35 (tabX.keep 46) = false := id rfl
@[go_sem] theorem dp_46 : isIn 999999 (tabX.keep 46) = false := id rfl
@[go_sem] theorem is_47_0 : KY 4 47 ∧ KY 5 47 ∧ KY 6 47 ∧ KY 7 47 ∧ KY 8 47 ∧ KY 9 47 ∧ KY 10 47 ∧ KY 11 47 ∧ KY 12 47 ∧ KN 13 47 ∧ KN 14 47 ∧ KN 15 47 ∧ KN 16 47 ∧ KN 17 47 ∧ KN 18 47 ∧ KY 19 47 ∧ KN 20 47 ∧ KN 21 47 ∧ KN 22 47 ∧ KN 23 47 ∧ KN 24 47 ∧ KN 25 47 ∧ KN 26 47 ∧ KN 27 47 ∧ KY 28 47 ∧ KN 29 47 ∧ KN 30 47 ∧ KN 31 47 ∧ KN 32 47 ∧ KN 33 47 := by decide +kernel
@[go_sem] theorem is_47_30 : KN 34 47 ∧ KY 35 47 := by decide +kernel
@[go_sem] theorem dp_47 : isIn 999999 (tabX.keep 47) = false := id rfl
@[go_sem] theorem is_48_0 : KY 4 48 ∧ KY 5 48 ∧ KN 6 48 ∧ KN 7 48 ∧ KN 8 48 ∧ KN 9 48 ∧ KN 10 48 ∧ KN 11 48 ∧ KN 12 48 ∧ KN 13 48 ∧ KN 14 48 ∧ KN 15 48 ∧ KN 16 48 ∧ KN 17 48 ∧ KN 18 48 ∧ KN 19 48 ∧ KN 20 48 ∧ KN 21 48 ∧ KN 22 48 ∧ KN 23 48 ∧ KN 24 48 ∧ KN 25 48 ∧ KY 26 48 ∧ KN 27 48 ∧ KN 28 48 ∧ KN 29 48 ∧ KN 30 48 ∧ KN 31 48 ∧ KY 32 48 ∧ KN 33 48 := by decide +kernel
@[go_sem] theorem is_48_30 : KN 34 48 ∧ KN 35 48 ∧ KN 36 48 ∧ KN 37 48 ∧ KN 38 48 ∧ KN 39 48 ∧ KN 40 48 ∧ KN 41 48 ∧ KN 42 48 ∧ KN 43 48 ∧ KN 44 48 ∧ KN 45 48 ∧ KN 46 48 ∧ KN 47 48 := by decide +kernel
@[go_sem] theorem dp_48 : isIn 999999 (tabX.keep 48) = false := id rfl
@[go_sem] theorem is_49_0 : KY 1 49 ∧ KY 2 49 ∧ KY 3 49 ∧ KY 4 49 ∧ KY 5 49 ∧ KY 6 49 ∧ KY 7 49 ∧ KN 8 49 ∧ KN 9 49 ∧ KN 10 49 ∧ KN 11 49 ∧ KN 12 49 ∧ KY 13 49 ∧ KN 14 49 ∧ KN 15 49 ∧ KN 16 49 ∧ KN 17 49 ∧ KN 18 49 ∧ KY 19 49 ∧ KN 20 49 ∧ KN 21 49 ∧ KN 22 49 ∧ KN 23 49 ∧ KN 24 49 ∧ KN 25 49 ∧ KY 26 49 ∧ KN 27 49 ∧ KN 28 49 ∧ KN 29 49 ∧ KN 30 49 := by decide +kernel
@[go_sem] theorem is_49_30 : KN 31 49 ∧ KN 32 49 ∧ KN 33 49 ∧ KN 34 49 ∧ KN 35 49 ∧ KN 36 49 ∧ KN 37 49 ∧ KN 38 49 ∧ KN 39 49 ∧ KN 40 49 ∧ KN 41 49 ∧ KN 42 49 ∧ KN 43 49 ∧ KN 44 49 ∧ KN 45 49 ∧ KN 46 49 ∧ KY 47 49 ∧ KN 48 49 ∧ KN 49 49 ∧ KN 50 49 ∧ KN 51 49 ∧ KN 52 49 ∧ KN 53 49 ∧ KN 54 49 ∧ KN 55 49 ∧ KN 56 49 ∧ KN 57 49 ∧ KN 58 49 ∧ KN 59 49 ∧ KN 60 49 := by decide +kernel
@[go_sem] theorem is_49_60 : isIn 61 (tabX.keep 49) = false := id rfl
@[go_sem] theorem dp_49 : isIn 999999 (tabX.keep 49) = false := id rfl
@[go_sem] theorem is_50_0 : KY 2 50 ∧ KY 3 50 ∧ KY 4 50 ∧ KN 5 50 ∧ KN 6 50 ∧ KN 7 50 ∧ KY 8 50 ∧ KN 9 50 ∧ KN 10 50 ∧ KN 11 50 ∧ KN 12 50 ∧ KN 13 50 ∧ KN 14 50 ∧ KY 15 50 ∧ KN 16 50 ∧ KN 17 50 ∧ KN 18 50 ∧ KN 19 50 ∧ KN 20 50 := by decide +kernel
@[go_sem] theorem dp_50 : isIn 999999 (tabX.keep 50) = false := id rfl
@[go_sem] theorem is_51_0 : KY 4 51 ∧ KN 5 51 ∧ KN 6 51 ∧ KN 7 51 ∧ KN 8 51 ∧ KN 9 51 ∧ KN 10 51 ∧ KN 11 51 ∧ KN 12 51 ∧ KN 13 51 ∧ KN 14 51 ∧ KN 15 51 ∧ KN 16 51 ∧ KN 17 51 ∧ KN 18 51 ∧ KN 19 51 := by decide +kernel
@[go_sem] theorem dp_51 : isIn 999999 (tabX.keep 51) = false := id rfl
@[go_sem] theorem is_52_0 : KY 4 52 ∧ KY 5 52 ∧ KY 6 52 ∧ KY 7 52 ∧ KY 8 52 ∧ KN 9 52 ∧ KN 10 52 ∧ KN 11 52 ∧ KN 12 52 ∧ KN 13 52 ∧ KY 14 52 ∧ KN 15 52 ∧ KN 16 52 ∧ KN 17 52 ∧ KN 18 52 ∧ KN 19 52 ∧ KN 20 52 := by decide +kernel
@[go_sem] theorem dp_52 : isIn 999999 (tabX.keep 52) = false := id rfl
@[go_sem] theorem is_78_0 : KY 4 78 ∧ KY 5 78 ∧ KN 6 78 ∧ KN 7 78 ∧ KN 8 78 ∧ KN 9 78 ∧ KN 10 78 ∧ KN 11 78 ∧ KN 12 78 ∧ KN 13 78 ∧ KN 14 78 ∧ KN 15 78 ∧ KN 16 78 ∧ KY 17 78 ∧ KN 18 78 ∧ KN 19 78 ∧ KN 20 78 ∧ KN 21 78 ∧ KN 22 78 ∧ KY 23 78 ∧ KN 24 78 := by decide +kernel
@[go_sem] theorem dp_78 : isIn 999999 (tabX.keep 78) = false := id rfl
@[go_sem] theorem is_79_0 : KY 2 79 ∧ KY 3 79 ∧ KY 4 79 ∧ KY 5 79 ∧ KN 6 79 ∧ KN 7 79 ∧ KN 8 79 ∧ KN 9 79 ∧ KN 10 79 ∧ KN 11 79 ∧ KY 12 79 ∧ KN 13 79 ∧ KN 14 79 ∧ KN 15 79 ∧ KN 16 79 ∧ KN 17 79 ∧ KN 18 79 ∧ KN 19 79 ∧ KN 20 79 ∧ KN 21 79 ∧ KN 22 79 ∧ KN 23 79 ∧ KN 24 79 ∧ KN 25 79 ∧ KN 26 79 ∧ KN 27 79 ∧ KN 28 79 ∧ KN 29 79 ∧ KN 30 79 ∧ KN 31 79 := by decide +kernel
@[go_sem] theorem is_79_30 : KN 32 79 ∧ KN 33 79 ∧ KN 34 79 ∧ KN 35 79 ∧ KN 36 79 ∧ KN 37 79 ∧ KN 38 79 ∧ KN 39 79 ∧ KN 40 79 ∧ KN 41 79 := by decide +kernel
@[go_sem] theorem dp_79 : isIn 999999 (tabX.keep 79) = false := id rfl
@[go_sem] theorem is_80_0 : KY 3 80 ∧ KY 4 80 ∧ KY 6 80 ∧ KN 7 80 ∧ KN 8 80 ∧ KN 9 80 := by decide +kernel
@[go_sem] theorem dp_80 : isIn 999999 (tabX.keep 80) = false := id rfl
@[go_sem] theorem is_81_0 : KY 8 81 ∧ KY 9 81 ∧ KY 10 81 ∧ KY 11 81 ∧ KN 12 81 ∧ KN 13 81 ∧ KN 14 81 ∧ KN 15 81 ∧ KY 16 81 ∧ KY 17 81 ∧ KY 18 81 ∧ KN 19 81 ∧ KN 20 81 ∧ KN 21 81 ∧ KN 22 81 ∧ KN 23 81 ∧ KY 24 81 ∧ KY 25 81 ∧ KY 26 81 ∧ KN 27 81 ∧ KN 28 81 ∧ KN 29 81 ∧ KN 30 81 ∧ KN 31 81 ∧ KN 32 81 ∧ KN 33 81 ∧ KN 34 81 ∧ KN 35 81 ∧ KN 36 81 ∧ KN 37 81 := by decide +kernel
@[go_sem] theorem is_81_30 : KN 38 81 ∧ KN 39 81 ∧ KN 40 81 ∧ KN 41 81 ∧ KN 42 81 ∧ KN 43 81 ∧ KN 44 81 ∧ KN 45 81 ∧ KN 46 81 ∧ KN 47 81 ∧ KN 48 81 ∧ KN 49 81 ∧ KN 50 81 ∧ KN 51 81 ∧ KN 52 81 ∧ KN 53 81 ∧ KN 54 81 ∧ KN 55 81 ∧ KN 56 81 ∧ KN 57 81 ∧ KN 58 81 ∧ KY 59 81 ∧ KN 60 81 ∧ KN 61 81 ∧ KN 62 81 ∧ KN 63 81 ∧ KY 64 81 ∧ KN 65 81 ∧ KN 66 81 := by decide +kernel
@[go_sem] theorem dp_81 : isIn 999999 (tabX.keep 81) = false := id rfl
@[go_sem] theorem is_82_0 : KY 2 82 ∧ KY 3 82 ∧ KN 4 82 ∧ KN 5 82 ∧ KN 6 82 ∧ KN 7 82 ∧ KN 8 82 ∧ KY 9 82 ∧ KY 10 82 ∧ KY 11 82 ∧ KN 12 82 ∧ KN 13 82 ∧ KN 14 82 ∧ KN 15 82 ∧ KY 16 82 ∧ KN 17 82 ∧ KN 18 82 ∧ KN 19 82 ∧ KN 20 82 ∧ KN 21 82 ∧ KN 22 82 := by decide +kernel
@[go_sem] theorem dp_82 : isIn 999999 (tabX.keep 82) = false := id rfl
@[go_sem] theorem is_83_0 : KY 4 83 ∧ KY 5 83 ∧ KY 6 83 ∧ KY 7 83 ∧ KN 8 83 ∧ KY 9 83 ∧ KY 10 83 ∧ KY 11 83 ∧ KN 12 83 ∧ KN 13 83 ∧ KN 14 83 ∧ KN 15 83 ∧ KN 16 83 ∧ KN 17 83 ∧ KN 18 83 ∧ KN 19 83 ∧ KN 20 83 ∧ KN 21 83 ∧ KN 22 83 ∧ KN 23 83 ∧ KN 24 83 ∧ KN 25 83 ∧ KN 26 83 ∧ KN 27 83 ∧ KN 28 83 ∧ KN 29 83 ∧ KN 30 83 ∧ KN 31 83 ∧ KN 32 83 ∧ KN 33 83 := by decide +kernel
@[go_sem] theorem is_83_30 : KN 34 83 ∧ KN 35 83 ∧ KY 36 83 ∧ KN 37 83 ∧ KN 38 83 ∧ KY 39 83 ∧ KN 40 83 ∧ KN 41 83 ∧ KN 42 83 ∧ KN 43 83 := by decide +kernel
@[go_sem] theorem dp_83 : isIn 999999 (tabX.keep 83) = false := id rfl
@[go_sem] theorem is_84_0 : KY 4 84 ∧ KY 5 84 ∧ KN 6 84 ∧ KN 7 84 ∧ KN 8 84 ∧ KN 9 84 ∧ KN 10 84 ∧ KN 11 84 ∧ KY 12 84 ∧ KN 13 84 ∧ KN 14 84 ∧ KN 15 84 ∧ KN 16 84 ∧ KN 17 84 ∧ KN 18 84 ∧ KN 19 84 ∧ KN 20 84 ∧ KN 21 84 ∧ KN 22 84 ∧ KN 23 84 ∧ KN 24 84 ∧ KN 25 84 ∧ KN 26 84 ∧ KN 27 84 := by decide +kernel
@[go_sem] theorem dp_84 : isIn 999999 (tabX.keep 84) = false := id rfl
@[go_sem] theorem is_85_0 : KY 2 85 ∧ KY 4 85 ∧ KY 5 85 ∧ KY 6 85 ∧ KY 7 85 ∧ KY 8 85 ∧ KY 9 85 ∧ KN 10 85 ∧ KN 11 85 ∧ KN 12 85 ∧ KN 13 85 ∧ KN 14 85 ∧ KN 15 85 ∧ KY 16 85 ∧ KY 17 85 ∧ KY 18 85 ∧ KY 19 85 ∧ KN 20 85 ∧ KN 21 85 ∧ KN 22 85 ∧ KN 23 85 ∧ KY 24 85 ∧ KN 25 85 ∧ KN 26 85 ∧ KN 27 85 ∧ KN 28 85 ∧ KN 29 85 ∧ KN 30 85 ∧ KN 31 85 ∧ KN 32 85 := by decide +kernel
@[go_sem] theorem is_85_30 : KN 33 85 ∧ KN 34 85 ∧ KN 35 85 ∧ KY 36 85 ∧ KY 37 85 ∧ KN 38 85 ∧ KN 39 85 ∧ KN 40 85 ∧ KN 41 85 ∧ KN 42 85 ∧ KN 43 85 ∧ KN 44 85 ∧ KN 45 85 ∧ KN 46 85 ∧ KN 47 85 ∧ KY 48 85 ∧ KY 49 85 ∧ KY 50 85 ∧ KN 51 85 ∧ KN 52 85 ∧ KN 53 85 ∧ KN 54 85 ∧ KN 55 85 ∧ KN 56 85 ∧ KN 57 85 ∧ KN 58 85 ∧ KN 59 85 ∧ KN 60 85 ∧ KN 61 85 ∧ KN 62 85 := by decide +kernel
@[go_sem] theorem is_85_60 : KN 63 85 ∧ KN 64 85 ∧ KN 65 85 ∧ KN 66 85 ∧ KN 67 85 := by decide +kernel
@[go_sem] theorem dp_85 : isIn 999999 (tabX.keep 85) = false := id rfl
@[go_sem] theorem is_86_0 : KY 4 86 ∧ KN 5 86 ∧ KN 6 86 ∧ KN 7 86 ∧ KN 8 86 := by decide +kernel
@[go_sem] theorem dp_86 : isIn 999999 (tabX.keep 86) = false := id rfl
@[go_sem] theorem is_88_0 : KY 3 88 ∧ KY 4 88 ∧ KN 5 88 ∧ KN 6 88 ∧ KN 7 88 ∧ KN 8 88 ∧ KY 9 88 ∧ KN 10 88 ∧ KY 11 88 ∧ KN 12 88 ∧ KN 13 88 ∧ KN 14 88 ∧ KN 15 88 ∧ KN 16 88 ∧ KY 17 88 := by decide +kernel
@[go_sem] theorem dp_88 : isIn 999999 (tabX.keep 88) = false := id rfl
@[go_sem] theorem is_89_0 : KY 4 89 ∧ KY 6 89 ∧ KY 7 89 ∧ KY 8 89 ∧ KY 9 89 ∧ KN 10 89 ∧ KN 11 89 ∧ KN 12 89 ∧ KN 13 89 ∧ KY 14 89 ∧ KY 15 89 ∧ KY 16 89 ∧ KY 17 89 ∧ KN 18 89 ∧ KN 19 89 ∧ KN 20 89 ∧ KN 21 89 ∧ KN 22 89 ∧ KN 23 89 ∧ KN 24 89 ∧ KY 25 89 ∧ KN 26 89 ∧ KN 27 89 ∧ KN 28 89 ∧ KN 29 89 ∧ KN 30 89 ∧ KN 31 89 ∧ KN 32 89 ∧ KN 33 89 ∧ KN 34 89 := by decide +kernel
@[go_sem] theorem is_89_30 : KN 35 89 ∧ KN 36 89 ∧ KN 37 89 ∧ KN 38 89 ∧ KN 39 89 ∧ KY 40 89 ∧ KN 41 89 ∧ KN 42 89 ∧ KN 43 89 ∧ KN 44 89 ∧ KN 45 89 ∧ KN 46 89 := by decide +kernel
@[go_sem] theorem dp_89 : isIn 999999 (tabX.keep 89) = false := id rfl
@[go_sem] theorem is_90_0 : KY 1 90 ∧ KY 2 90 ∧ KY 3 90 ∧ KY 4 90 ∧ KY 5 90 ∧ KY 7 90 ∧ KY 9 90 ∧ KY 10 90 ∧ KN 11 90 ∧ KN 12 90 ∧ KN 13 90 ∧ KN 14 90 ∧ KN 15 90 ∧ KN 16 90 ∧ KN 17 90 ∧ KN 18 90 ∧ KN 19 90 ∧ KN 20 90 ∧ KN 21 90 ∧ KN 22 90 ∧ KN 23 90 ∧ KN 24 90 ∧ KN 25 90 ∧ KN 26 90 ∧ KN 27 90 ∧ KN 28 90 ∧ KY 29 90 ∧ KN 30 90 ∧ KN 31 90 ∧ KN 32 90 := by decide +kernel
@[go_sem] theorem is_90_30 : KN 33 90 ∧ KN 34 90 ∧ KY 35 90 ∧ KY 36 90 ∧ KY 37 90 ∧ KY 38 90 ∧ KN 39 90 ∧ KN 40 90 ∧ KN 41 90 ∧ KN 42 90 ∧ KN 43 90 ∧ KN 44 90 ∧ KN 45 90 ∧ KN 46 90 ∧ KN 47 90 ∧ KN 48 90 ∧ KN 49 90 ∧ KN 50 90 ∧ KN 51 90 ∧ KN 52 90 ∧ KN 53 90 ∧ KN 54 90 ∧ KN 55 90 ∧ KN 56 90 ∧ KN 57 90 ∧ KY 58 90 ∧ KN 59 90 ∧ KN 60 90 ∧ KN 61 90 ∧ KN 62 90 := by decide +kernel
@[go_sem] theorem is_90_60 : KN 63 90 ∧ KY 64 90 ∧ KN 65 90 ∧ KY 66 90 ∧ KY 67 90 ∧ KY 68 90 ∧ KY 69 90 ∧ KN 70 90 ∧ KN 71 90 ∧ KN 72 90 ∧ KN 73 90 ∧ KN 74 90 ∧ KN 75 90 ∧ KN 76 90 ∧ KN 77 90 ∧ KN 78 90 ∧ KN 79 90 ∧ KN 80 90 ∧ KN 81 90 ∧ KN 82 90 ∧ KN 83 90 ∧ KN 84 90 ∧ KN 85 90 ∧ KN 86 90 ∧ KN 87 90 ∧ KN 88 90 ∧ KY 89 90 ∧ KN 90 90 ∧ KN 91 90 := by decide +kernel
@[go_sem] theorem dp_90 : isIn 999999 (tabX.keep 90) = false := id rfl
@[go_sem] theorem is_91_0 : KY 1 91 ∧ KY 2 91 ∧ KY 3 91 ∧ KY 4 91 ∧ KY 5 91 ∧ KY 6 91 ∧ KY 7 91 ∧ KN 8 91 ∧ KN 9 91 ∧ KN 10 91 ∧ KN 11 91 ∧ KN 12 91 ∧ KN 13 91 ∧ KY 14 91 ∧ KY 15 91 ∧ KY 16 91 ∧ KN 17 91 ∧ KN 18 91 ∧ KN 19 91 ∧ KY 20 91 ∧ KY 21 91 ∧ KY 22 91 ∧ KN 23 91 ∧ KN 24 91 ∧ KY 25 91 ∧ KY 26 91 ∧ KY 27 91 ∧ KN 28 91 ∧ KN 29 91 ∧ KN 30 91 := by decide +kernel
@[go_sem] theorem is_91_30 : KN 31 91 ∧ KN 32 91 ∧ KN 33 91 ∧ KN 34 91 ∧ KY 35 91 ∧ KN 36 91 ∧ KN 37 91 ∧ KN 38 91 ∧ KN 39 91 ∧ KN 40 91 ∧ KN 41 91 ∧ KN 42 91 ∧ KN 43 91 ∧ KN 44 91 ∧ KN 45 91 ∧ KN 46 91 ∧ KN 47 91 ∧ KN 48 91 ∧ KN 49 91 ∧ KN 50 91 ∧ KN 51 91 ∧ KN 52 91 ∧ KN 53 91 ∧ KN 54 91 ∧ KN 55 91 ∧ KN 56 91 ∧ KN 57 91 ∧ KN 58 91 ∧ KN 59 91 ∧ KN 60 91 := by decide +kernel
@[go_sem] theorem dp_91 : isIn 999999 (tabX.keep 91) = false := id rfl
@[go_sem] theorem is_92_0 : KY 1 92 ∧ KY 2 92 ∧ KN 3 92 := by decide +kernel
@[go_sem] theorem dp_92 : isIn 999999 (tabX.keep 92) = false := id rfl
@[go_sem] theorem is_93_0 : KY 1 93 ∧ KY 2 93 ∧ KY 3 93 ∧ KY 4 93 ∧ KN 5 93 ∧ KN 6 93 ∧ KN 7 93 ∧ KN 8 93 ∧ KN 9 93 ∧ KN 10 93 ∧ KN 11 93 ∧ KN 12 93 ∧ KY 13 93 ∧ KN 14 93 ∧ KN 15 93 ∧ KN 16 93 ∧ KN 17 93 ∧ KN 18 93 ∧ KN 19 93 ∧ KN 20 93 ∧ KN 21 93 ∧ KN 22 93 ∧ KN 23 93 ∧ KY 24 93 ∧ KN 25 93 ∧ KN 26 93 ∧ KN 27 93 ∧ KN 28 93 ∧ KN 29 93 ∧ KN 30 93 := by decide +kernel
@[go_sem] theorem is_93_30 : KN 31 93 ∧ KN 32 93 ∧ KN 33 93 ∧ KN 34 93 ∧ KY 35 93 ∧ KN 36 93 ∧ KN 37 93 ∧ KN 38 93 ∧ KN 39 93 ∧ KN 40 93 ∧ KN 41 93 ∧ KN 42 93 ∧ KN 43 93 ∧ KN 44 93 ∧ KN 45 93 ∧ KY 46 93 ∧ KN 47 93 ∧ KN 48 93 := by decide +kernel
@[go_sem] theorem dp_93 : isIn 999999 (tabX.keep 93) = false := id rfl
@[go_sem] theorem is_94_0 : KY 3 94 ∧ KY 4 94 ∧ KY 6 94 ∧ KN 7 94 ∧ KN 8 94 ∧ KN 9 94 := by decide +kernel
@[go_sem] theorem dp_94 : isIn 999999 (tabX.keep 94) = false := id rfl
@[go_sem] theorem is_95_0 : KY 4 95 ∧ KY 5 95 ∧ KY 6 95 ∧ KN 7 95 ∧ KN 8 95 ∧ KN 9 95 ∧ KN 10 95 ∧ KY 11 95 ∧ KY 12 95 ∧ KY 13 95 ∧ KN 14 95 ∧ KN 15 95 ∧ KY 16 95 ∧ KN 17 95 ∧ KN 18 95 ∧ KY 19 95 := by decide +kernel
@[go_sem] theorem dp_95 : isIn 999999 (tabX.keep 95) = false := id rfl
@[go_sem] theorem is_96_0 : KY 3 96 ∧ KY 6 96 ∧ KY 7 96 ∧ KY 8 96 ∧ KN 9 96 ∧ KN 10 96 ∧ KN 11 96 ∧ KY 12 96 ∧ KN 13 96 ∧ KN 14 96 ∧ KN 15 96 ∧ KN 16 96 ∧ KN 17 96 ∧ KN 18 96 ∧ KN 19 96 ∧ KN 20 96 ∧ KN 21 96 ∧ KN 22 96 ∧ KN 23 96 ∧ KN 24 96 ∧ KN 25 96 ∧ KN 26 96 ∧ KN 27 96 ∧ KN 28 96 ∧ KY 29 96 ∧ KN 30 96 ∧ KN 31 96 ∧ KN 32 96 ∧ KN 33 96 ∧ KN 34 96 := by decide +kernel
@[go_sem] theorem dp_96 : isIn 999999 (tabX.keep 96) = false := id rfl
@[go_sem] theorem is_107_0 : KY 4 107 ∧ KN 5 107 ∧ KN 6 107 ∧ KN 7 107 ∧ KN 8 107 := by decide +kernel
@[go_sem] theorem dp_107 : isIn 999999 (tabX.keep 107) = false := id rfl
@[go_sem] theorem is_109_0 : KY 4 109 ∧ KN 5 109 ∧ KN 6 109 ∧ KN 7 109 ∧ KN 8 109 ∧ KN 9 109 ∧ KN 10 109 ∧ KN 11 109 ∧ KN 12 109 := by decide +kernel
@[go_sem] theorem dp_109 : isIn 999999 (tabX.keep 109) = false := id rfl
@[go_sem] theorem is_110_0 : KY 1 110 ∧ KY 2 110 ∧ KN 3 110 := by decide +kernel
@[go_sem] theorem dp_110 : isIn 999999 (tabX.keep 110) = false := id rfl
@[go_sem] theorem is_111_0 : KY 3 111 ∧ KY 4 111 ∧ KY 5 111 ∧ KY 6 111 ∧ KN 7 111 ∧ KN 8 111 ∧ KN 9 111 ∧ KN 10 111 ∧ KY 11 111 ∧ KY 12 111 ∧ KY 13 111 ∧ KY 14 111 ∧ KN 15 111 ∧ KN 16 111 ∧ KN 17 111 ∧ KN 18 111 ∧ KN 19 111 ∧ KN 20 111 ∧ KN 21 111 ∧ KN 22 111 ∧ KN 23 111 ∧ KN 24 111 ∧ KN 25 111 ∧ KN 26 111 ∧ KN 27 111 ∧ KN 28 111 := by decide +kernel
@[go_sem] theorem dp_111 : isIn 999999 (tabX.keep 111) = false := id rfl
@[go_sem] theorem is_112_0 : KY 4 112 ∧ KY 5 112 ∧ KN 6 112 ∧ KY 7 112 ∧ KY 8 112 ∧ KY 9 112 ∧ KN 10 112 ∧ KN 11 112 ∧ KN 12 112 ∧ KN 13 112 ∧ KN 14 112 ∧ KN 15 112 ∧ KY 16 112 ∧ KN 17 112 ∧ KN 18 112 := by decide +kernel
@[go_sem] theorem dp_112 : isIn 999999 (tabX.keep 112) = false := id rfl
@[go_sem] theorem is_113_0 : KY 3 113 ∧ KN 4 113 ∧ KN 5 113 ∧ KN 6 113 ∧ KN 7 113 := by decide +kernel
@[go_sem] theorem dp_113 : isIn 999999 (tabX.keep 113) = false := id rfl
@[go_sem] theorem is_114_0 : KY 4 114 ∧ KY 5 114 ∧ KY 6 114 ∧ KY 7 114 ∧ KY 8 114 ∧ KY 9 114 ∧ KY 10 114 ∧ KY 11 114 ∧ KY 12 114 ∧ KN 13 114 ∧ KN 14 114 ∧ KN 15 114 ∧ KN 16 114 ∧ KN 17 114 ∧ KN 18 114 ∧ KN 19 114 ∧ KN 20 114 ∧ KY 21 114 ∧ KN 22 114 ∧ KN 23 114 ∧ KN 24 114 := by decide +kernel
@[go_sem] theorem dp_114 : isIn 999999 (tabX.keep 114) = false := id rfl
@[go_sem] theorem is_115_0 : KN 4 115 ∧ KY 5 115 ∧ KN 6 115 ∧ KN 7 115 ∧ KN 8 115 := by decide +kernel
@[go_sem] theorem dp_115 : isIn 999999 (tabX.keep 115) = false := id rfl
@[go_sem] theorem is_116_0 : KY 4 116 ∧ KY 5 116 ∧ KN 6 116 ∧ KN 7 116 ∧ KN 8 116 ∧ KN 9 116 ∧ KY 10 116 ∧ KN 11 116 ∧ KN 12 116 ∧ KN 13 116 ∧ KN 14 116 ∧ KY 15 116 ∧ KN 16 116 ∧ KN 17 116 ∧ KN 18 116 ∧ KN 19 116 ∧ KN 20 116 ∧ KY 21 116 ∧ KN 22 116 ∧ KN 23 116 ∧ KN 24 116 ∧ KN 25 116 ∧ KN 26 116 ∧ KN 27 116 ∧ KY 28 116 ∧ KN 29 116 ∧ KN 30 116 ∧ KN 31 116 ∧ KN 32 116 ∧ KN 33 116 := by decide +kernel
@[go_sem] theorem dp_116 : isIn 999999 (tabX.keep 116) = false := id rfl
@[go_sem] theorem is_117_0 : KY 3 117 ∧ KN 4 117 ∧ KN 5 117 ∧ KN 6 117 ∧ KN 7 117 ∧ KN 8 117 ∧ KN 9 117 ∧ KN 10 117 := by decide +kernel
@[go_sem] theorem dp_117 : isIn 999999 (tabX.keep 117) = false := id rfl
@[go_sem] theorem is_118_0 : KN 4 118 ∧ KY 5 118 ∧ KN 6 118 ∧ KN 7 118 ∧ KN 8 118 := by decide +kernel
@[go_sem] theorem dp_118 : isIn 999999 (tabX.keep 118) = false := id rfl
@[go_sem] theorem is_119_0 : KY 3 119 ∧ KY 4 119 ∧ KY 5 119 ∧ KY 6 119 ∧ KY 7 119 ∧ KY 8 119 ∧ KN 9 119 ∧ KN 10 119 ∧ KN 11 119 ∧ KN 12 119 ∧ KN 13 119 ∧ KN 14 119 ∧ KN 15 119 ∧ KN 16 119 ∧ KN 17 119 ∧ KN 18 119 ∧ KN 19 119 ∧ KN 20 119 ∧ KN 21 119 ∧ KN 22 119 ∧ KN 23 119 ∧ KN 24 119 ∧ KN 25 119 ∧ KN 26 119 ∧ KN 27 119 ∧ KN 28 119 ∧ KN 29 119 ∧ KN 30 119 ∧ KN 31 119 ∧ KN 32 119 := by decide +kernel
@[go_sem] theorem is_119_30 : KN 33 119 ∧ KN 34 119 ∧ KN 35 119 ∧ KY 36 119 ∧ KY 37 119 ∧ KY 38 119 ∧ KY 39 119 ∧ KY 40 119 ∧ KN 41 119 ∧ KN 42 119 ∧ KN 43 119 ∧ KN 44 119 ∧ KN 45 119 ∧ KN 46 119 ∧ KN 47 119 ∧ KN 48 119 ∧ KN 49 119 ∧ KN 50 119 ∧ KN 51 119 ∧ KN 52 119 ∧ KN 53 119 ∧ KN 54 119 ∧ KN 55 119 ∧ KN 56 119 ∧ KN 57 119 ∧ KN 58 119 ∧ KN 59 119 ∧ KY 60 119 ∧ KN 61 119 := by decide +kernel
@[go_sem] theorem dp_119 : isIn 999999 (tabX.keep 119) = false := id rfl
@[go_sem] theorem is_120_0 : KY 2 120 ∧ KY 3 120 ∧ KY 4 120 ∧ KY 5 120 ∧ KN 6 120 ∧ KN 7 120 ∧ KN 8 120 ∧ KN 9 120 ∧ KN 10 120 := by decide +kernel
@[go_sem] theorem dp_120 : isIn 999999 (tabX.keep 120) = false := id rfl
@[go_sem] theorem is_121_0 : KY 6 121 ∧ KY 7 121 ∧ KN 8 121 ∧ KN 9 121 ∧ KN 10 121 ∧ KN 11 121 ∧ KY 12 121 ∧ KY 13 121 ∧ KY 14 121 ∧ KN 15 121 ∧ KN 16 121 ∧ KN 17 121 ∧ KN 18 121 ∧ KN 19 121 ∧ KN 20 121 ∧ KN 21 121 ∧ KN 22 121 ∧ KN 23 121 ∧ KN 24 121 ∧ KY 25 121 ∧ KN 26 121 := by decide +kernel
@[go_sem] theorem dp_121 : isIn 999999 (tabX.keep 121) = false := id rfl
@[go_sem] theorem is_122_0 : KY 11 122 ∧ KY 12 122 ∧ KN 13 122 ∧ KN 14 122 ∧ KN 15 122 ∧ KN 16 122 ∧ KN 17 122 ∧ KN 18 122 ∧ KN 19 122 ∧ KY 20 122 ∧ KN 21 122 ∧ KN 22 122 ∧ KN 23 122 ∧ KN 24 122 ∧ KN 25 122 ∧ KN 26 122 ∧ KN 27 122 ∧ KN 28 122 ∧ KN 29 122 ∧ KN 30 122 ∧ KN 31 122 ∧ KN 32 122 ∧ KN 33 122 ∧ KY 34 122 ∧ KN 35 122 ∧ KN 36 122 ∧ KN 37 122 ∧ KN 38 122 ∧ KN 39 122 ∧ KY 40 122 := by decide +kernel
@[go_sem] theorem is_122_30 : KY 41 122 ∧ KY 42 122 ∧ KN 43 122 ∧ KN 44 122 ∧ KN 45 122 ∧ KN 46 122 ∧ KN 47 122 ∧ KN 48 122 ∧ KN 49 122 ∧ KN 50 122 ∧ KN 51 122 ∧ KN 52 122 ∧ KN 53 122 ∧ KN 54 122 ∧ KY 55 122 ∧ KN 56 122 ∧ KN 57 122 ∧ KN 58 122 ∧ KN 59 122 ∧ KN 60 122 ∧ KN 61 122 ∧ KN 62 122 ∧ KN 63 122 ∧ KN 64 122 ∧ KN 65 122 ∧ KN 66 122 ∧ KN 67 122 ∧ KN 68 122 ∧ KY 69 122 ∧ KN 70 122 := by decide +kernel
@[go_sem] theorem is_122_60 : KN 71 122 ∧ KN 72 122 := by decide +kernel
@[go_sem] theorem dp_122 : isIn 999999 (tabX.keep 122) = false := id rfl
@[go_sem] theorem is_123_0 : KY 6 123 ∧ KY 7 123 ∧ KY 8 123 ∧ KY 9 123 ∧ KY 10 123 ∧ KN 11 123 ∧ KN 12 123 ∧ KN 13 123 ∧ KY 14 123 ∧ KY 15 123 ∧ KY 16 123 ∧ KY 17 123 ∧ KY 18 123 ∧ KN 19 123 ∧ KN 20 123 ∧ KN 21 123 ∧ KN 22 123 ∧ KN 23 123 ∧ KN 24 123 ∧ KN 25 123 ∧ KN 26 123 ∧ KY 27 123 ∧ KN 28 123 ∧ KN 29 123 ∧ KN 30 123 := by decide +kernel
@[go_sem] theorem dp_123 : isIn 999999 (tabX.keep 123) = false := id rfl
@[go_sem] theorem is_124_0 : KY 5 124 ∧ KY 6 124 ∧ KN 7 124 ∧ KN 8 124 ∧ KN 9 124 ∧ KY 10 124 ∧ KN 11 124 ∧ KN 12 124 ∧ KN 13 124 ∧ KN 14 124 ∧ KN 15 124 ∧ KN 16 124 := by decide +kernel
@[go_sem] theorem dp_124 : isIn 999999 (tabX.keep 124) = false := id rfl
@[go_sem] theorem is_125_0 : KY 2 125 ∧ KY 3 125 ∧ KY 4 125 ∧ KY 5 125 ∧ KN 6 125 ∧ KY 7 125 ∧ KY 8 125 ∧ KY 9 125 ∧ KN 10 125 ∧ KN 11 125 ∧ KN 12 125 ∧ KN 13 125 ∧ KN 14 125 ∧ KN 15 125 ∧ KN 16 125 ∧ KN 17 125 ∧ KN 18 125 ∧ KN 19 125 ∧ KN 20 125 ∧ KN 21 125 ∧ KN 22 125 ∧ KN 23 125 ∧ KN 24 125 ∧ KN 25 125 ∧ KN 26 125 ∧ KN 27 125 ∧ KN 28 125 ∧ KN 29 125 ∧ KN 30 125 ∧ KN 31 125 := by decide +kernel
@[go_sem] theorem is_125_30 : KN 32 125 ∧ KN 33 125 ∧ KN 34 125 ∧ KY 35 125 ∧ KN 36 125 ∧ KN 37 125 ∧ KN 38 125 ∧ KN 39 125 ∧ KN 40 125 := by decide +kernel
@[go_sem] theorem dp_125 : isIn 999999 (tabX.keep 125) = false := id rfl
@[go_sem] theorem is_126_0 : KY 4 126 ∧ KN 5 126 ∧ KN 6 126 ∧ KN 7 126 ∧ KN 8 126 := by decide +kernel
@[go_sem] theorem dp_126 : isIn 999999 (tabX.keep 126) = false := id rfl
@[go_sem] theorem is_127_0 : KY 6 127 ∧ KY 7 127 ∧ KY 8 127 ∧ KY 9 127 ∧ KY 10 127 ∧ KN 11 127 ∧ KN 12 127 ∧ KN 13 127 ∧ KY 14 127 ∧ KY 15 127 ∧ KY 16 127 ∧ KY 17 127 ∧ KY 18 127 ∧ KN 19 127 ∧ KN 20 127 ∧ KN 21 127 ∧ KN 22 127 ∧ KN 23 127 ∧ KN 24 127 ∧ KN 25 127 ∧ KN 26 127 ∧ KY 27 127 ∧ KN 28 127 ∧ KN 29 127 ∧ KN 30 127 := by decide +kernel
@[go_sem] theorem dp_127 : isIn 999999 (tabX.keep 127) = false := id rfl
@[go_sem] theorem is_128_0 : KY 4 128 ∧ KY 5 128 ∧ KY 6 128 ∧ KN 7 128 ∧ KN 8 128 ∧ KN 9 128 ∧ KN 10 128 ∧ KY 11 128 ∧ KN 12 128 ∧ KN 13 128 ∧ KN 14 128 ∧ KN 15 128 ∧ KN 16 128 ∧ KN 17 128 ∧ KY 18 128 ∧ KN 19 128 ∧ KN 20 128 ∧ KN 21 128 ∧ KN 22 128 ∧ KN 23 128 ∧ KN 24 128 ∧ KN 25 128 ∧ KN 26 128 ∧ KN 27 128 ∧ KN 28 128 ∧ KN 29 128 ∧ KN 30 128 ∧ KN 31 128 ∧ KN 32 128 ∧ KN 33 128 := by decide +kernel
@[go_sem] theorem dp_128 : isIn 999999 (tabX.keep 128) = false := id rfl
@[go_sem] theorem is_129_0 : KY 4 129 ∧ KN 5 129 ∧ KN 6 129 ∧ KN 7 129 ∧ KN 8 129 := by decide +kernel
@[go_sem] theorem dp_129 : isIn 999999 (tabX.keep 129) = false := id rfl
@[go_sem] theorem is_130_0 : KY 2 130 ∧ KY 3 130 ∧ KN 4 130 ∧ KN 5 130 ∧ KN 6 130 ∧ KN 7 130 ∧ KN 8 130 := by decide +kernel
@[go_sem] theorem dp_130 : isIn 999999 (tabX.keep 130) = false := id rfl
@[go_sem] theorem is_131_0 : KY 6 131 ∧ KY 7 131 ∧ KY 8 131 ∧ KY 9 131 ∧ KY 10 131 ∧ KN 11 131 ∧ KN 12 131 ∧ KN 13 131 ∧ KY 14 131 ∧ KY 15 131 ∧ KY 16 131 ∧ KY 17 131 ∧ KY 18 131 ∧ KN 19 131 ∧ KN 20 131 ∧ KN 21 131 ∧ KN 22 131 ∧ KN 23 131 ∧ KN 24 131 ∧ KN 25 131 ∧ KN 26 131 ∧ KY 27 131 ∧ KN 28 131 ∧ KN 29 131 ∧ KN 30 131 := by decide +kernel
@[go_sem] theorem dp_131 : isIn 999999 (tabX.keep 131) = false := id rfl
@[go_sem] theorem is_132_0 : KY 4 132 ∧ KY 5 132 ∧ KY 6 132 ∧ KN 7 132 ∧ KN 8 132 ∧ KN 9 132 ∧ KN 10 132 ∧ KN 11 132 ∧ KY 12 132 ∧ KN 13 132 ∧ KN 14 132 ∧ KN 15 132 ∧ KY 16 132 ∧ KN 17 132 ∧ KN 18 132 ∧ KN 19 132 ∧ KN 20 132 ∧ KY 21 132 ∧ KN 22 132 ∧ KN 23 132 ∧ KN 24 132 ∧ KN 25 132 ∧ KN 26 132 ∧ KN 27 132 ∧ KN 28 132 ∧ KN 29 132 ∧ KN 30 132 ∧ KN 31 132 ∧ KN 32 132 ∧ KN 33 132 := by decide +kernel
@[go_sem] theorem is_132_30 : KN 34 132 ∧ KN 35 132 ∧ KN 36 132 ∧ KN 37 132 ∧ KN 38 132 ∧ KN 39 132 ∧ KN 40 132 ∧ KN 41 132 ∧ KN 42 132 ∧ KN 43 132 ∧ KN 44 132 ∧ KN 45 132 ∧ KN 46 132 ∧ KN 47 132 ∧ KY 48 132 ∧ KN 49 132 ∧ KN 50 132 ∧ KN 51 132 ∧ KN 52 132 ∧ KN 53 132 ∧ KN 54 132 ∧ KN 55 132 ∧ KN 56 132 ∧ KN 57 132 ∧ KN 58 132 ∧ KN 59 132 ∧ KN 60 132 ∧ KN 61 132 ∧ KN 62 132 ∧ KN 63 132 := by decide +kernel
@[go_sem] theorem is_132_60 : isIn 64 (tabX.keep 132) = false := id rfl
@[go_sem] theorem dp_132 : isIn 999999 (tabX.keep 132) = false := id rfl
@[go_sem] theorem is_133_0 : KY 6 133 ∧ KY 7 133 ∧ KY 8 133 ∧ KY 9 133 ∧ KY 10 133 ∧ KN 11 133 ∧ KN 12 133 ∧ KN 13 133 ∧ KY 14 133 ∧ KY 15 133 ∧ KY 16 133 ∧ KY 17 133 ∧ KY 18 133 ∧ KN 19 133 ∧ KN 20 133 ∧ KN 21 133 ∧ KN 22 133 ∧ KN 23 133 ∧ KN 24 133 ∧ KN 25 133 ∧ KN 26 133 ∧ KY 27 133 ∧ KN 28 133 ∧ KN 29 133 ∧ KN 30 133 := by decide +kernel
@[go_sem] theorem dp_133 : isIn 999999 (tabX.keep 133) = false := id rfl
@[go_sem] theorem is_134_0 : KY 4 134 ∧ KY 5 134 ∧ KN 6 134 ∧ KN 7 134 ∧ KN 8 134 ∧ KN 9 134 ∧ KN 10 134 ∧ KN 11 134 ∧ KN 12 134 ∧ KN 13 134 ∧ KN 14 134 ∧ KN 15 134 ∧ KN 16 134 ∧ KN 17 134 ∧ KN 18 134 ∧ KN 19 134 ∧ KN 20 134 ∧ KN 21 134 ∧ KN 22 134 ∧ KY 23 134 := by decide +kernel
@[go_sem] theorem dp_134 : isIn 999999 (tabX.keep 134) = false := id rfl
@[go_sem] theorem is_135_0 : KY 4 135 ∧ KN 5 135 ∧ KN 6 135 ∧ KN 7 135 ∧ KN 8 135 ∧ KN 9 135 ∧ KN 10 135 ∧ KN 11 135 ∧ KN 12 135 := by decide +kernel
@[go_sem] theorem dp_135 : isIn 999999 (tabX.keep 135) = false := id rfl
@[go_sem] theorem is_136_0 : KY 2 136 ∧ KN 3 136 ∧ KN 4 136 ∧ KN 5 136 := by decide +kernel
@[go_sem] theorem dp_136 : isIn 999999 (tabX.keep 136) = false := id rfl
@[go_sem] theorem is_137_0 : KY 4 137 ∧ KY 8 137 ∧ KY 9 137 ∧ KN 10 137 ∧ KN 11 137 ∧ KN 12 137 ∧ KN 13 137 ∧ KN 14 137 ∧ KN 15 137 ∧ KY 16 137 ∧ KN 17 137 ∧ KN 18 137 ∧ KN 19 137 ∧ KY 20 137 ∧ KN 21 137 ∧ KN 22 137 ∧ KN 23 137 ∧ KN 24 137 ∧ KN 25 137 ∧ KN 26 137 ∧ KN 27 137 ∧ KN 28 137 ∧ KN 29 137 ∧ KN 30 137 ∧ KN 31 137 ∧ KN 32 137 ∧ KN 33 137 ∧ KN 34 137 ∧ KN 35 137 ∧ KN 36 137 := by decide +kernel
@[go_sem] theorem is_137_30 : KN 37 137 ∧ KN 38 137 ∧ KN 39 137 ∧ KN 40 137 ∧ KN 41 137 ∧ KN 42 137 ∧ KN 43 137 ∧ KY 44 137 := by decide +kernel
@[go_sem] theorem dp_137 : isIn 999999 (tabX.keep 137) = false := id rfl
@[go_sem] theorem is_151_0 : KY 4 151 ∧ KY 5 151 ∧ KN 6 151 ∧ KY 7 151 ∧ KY 8 151 ∧ KY 9 151 ∧ KN 10 151 ∧ KN 11 151 ∧ KN 12 151 ∧ KN 13 151 ∧ KN 14 151 ∧ KN 15 151 ∧ KY 16 151 ∧ KN 17 151 ∧ KN 18 151 := by decide +kernel
@[go_sem] theorem dp_151 : isIn 999999 (tabX.keep 151) = false := id rfl
@[go_sem] theorem is_152_0 : KY 2 152 ∧ KY 3 152 ∧ KY 4 152 ∧ KN 5 152 ∧ KN 6 152 ∧ KN 7 152 := by decide +kernel
@[go_sem] theorem dp_152 : isIn 999999 (tabX.keep 152) = false := id rfl
@[go_sem] theorem is_153_0 : KY 6 153 ∧ KY 7 153 ∧ KN 8 153 ∧ KN 9 153 ∧ KN 10 153 ∧ KN 11 153 ∧ KN 12 153 ∧ KN 13 153 ∧ KN 14 153 ∧ KY 15 153 ∧ KN 16 153 ∧ KN 17 153 ∧ KN 18 153 ∧ KN 19 153 ∧ KN 20 153 ∧ KN 21 153 ∧ KN 22 153 ∧ KN 23 153 ∧ KY 24 153 ∧ KY 25 153 ∧ KY 26 153 ∧ KN 27 153 ∧ KN 28 153 ∧ KN 29 153 ∧ KN 30 153 ∧ KN 31 153 ∧ KN 32 153 ∧ KN 33 153 ∧ KN 34 153 ∧ KN 35 153 := by decide +kernel
@[go_sem] theorem is_153_30 : KN 36 153 ∧ KN 37 153 ∧ KN 38 153 ∧ KN 39 153 ∧ KN 40 153 ∧ KN 41 153 ∧ KN 42 153 ∧ KN 43 153 ∧ KN 44 153 ∧ KN 45 153 ∧ KN 46 153 ∧ KN 47 153 ∧ KN 48 153 ∧ KN 49 153 ∧ KY 50 153 ∧ KN 51 153 ∧ KN 52 153 ∧ KN 53 153 ∧ KN 54 153 ∧ KY 55 153 ∧ KN 56 153 ∧ KN 57 153 ∧ KN 58 153 := by decide +kernel
@[go_sem] theorem dp_153 : isIn 999999 (tabX.keep 153) = false := id rfl
@[go_sem] theorem is_154_0 : KY 4 154 ∧ KY 6 154 ∧ KY 7 154 ∧ KY 8 154 ∧ KY 9 154 ∧ KY 10 154 ∧ KY 11 154 ∧ KY 12 154 ∧ KN 13 154 ∧ KN 14 154 ∧ KN 15 154 ∧ KN 16 154 ∧ KN 17 154 ∧ KN 18 154 ∧ KN 19 154 ∧ KY 20 154 ∧ KY 21 154 ∧ KY 22 154 ∧ KY 23 154 ∧ KN 24 154 ∧ KN 25 154 ∧ KN 26 154 ∧ KN 27 154 ∧ KN 28 154 ∧ KN 29 154 ∧ KN 30 154 ∧ KN 31 154 ∧ KN 32 154 ∧ KY 33 154 ∧ KN 34 154 := by decide +kernel
@[go_sem] theorem is_154_30 : KN 35 154 ∧ KN 36 154 ∧ KN 37 154 ∧ KN 38 154 ∧ KN 39 154 ∧ KN 40 154 ∧ KN 41 154 ∧ KN 42 154 ∧ KN 43 154 ∧ KN 44 154 ∧ KN 45 154 ∧ KN 46 154 ∧ KN 47 154 ∧ KN 48 154 ∧ KN 49 154 ∧ KN 50 154 ∧ KN 51 154 ∧ KN 52 154 ∧ KN 53 154 ∧ KN 54 154 ∧ KN 55 154 ∧ KN 56 154 ∧ KN 57 154 ∧ KN 58 154 ∧ KN 59 154 ∧ KN 60 154 ∧ KN 61 154 ∧ KN 62 154 ∧ KN 63 154 ∧ KY 64 154 := by decide +kernel
@[go_sem] theorem is_154_60 : isIn 65 (tabX.keep 154) = false := id rfl
@[go_sem] theorem dp_154 : isIn 999999 (tabX.keep 154) = false := id rfl
@[go_sem] theorem is_155_0 : KY 4 155 ∧ KN 5 155 ∧ KN 6 155 ∧ KN 7 155 ∧ KN 8 155 := by decide +kernel
@[go_sem] theorem dp_155 : isIn 999999 (tabX.keep 155) = false := id rfl
@[go_sem] theorem is_156_0 : KY 2 156 ∧ KY 3 156 ∧ KN 4 156 ∧ KN 5 156 ∧ KN 6 156 ∧ KN 7 156 ∧ KN 8 156 := by decide +kernel
@[go_sem] theorem dp_156 : isIn 999999 (tabX.keep 156) = false := id rfl
@[go_sem] theorem is_157_0 : KY 3 157 ∧ KY 4 157 ∧ KY 6 157 ∧ KN 7 157 ∧ KN 8 157 ∧ KN 9 157 := by decide +kernel
@[go_sem] theorem dp_157 : isIn 999999 (tabX.keep 157) = false := id rfl
@[go_sem] theorem is_158_0 : KY 4 158 ∧ KY 5 158 ∧ KN 6 158 ∧ KY 7 158 ∧ KY 8 158 ∧ KY 9 158 ∧ KN 10 158 ∧ KN 11 158 ∧ KN 12 158 ∧ KN 13 158 ∧ KN 14 158 ∧ KN 15 158 ∧ KY 16 158 ∧ KN 17 158 ∧ KN 18 158 := by decide +kernel
@[go_sem] theorem dp_158 : isIn 999999 (tabX.keep 158) = false := id rfl
@[go_sem] theorem is_159_0 : KY 4 159 ∧ KY 5 159 ∧ KN 6 159 ∧ KY 7 159 ∧ KY 8 159 ∧ KY 9 159 ∧ KN 10 159 ∧ KN 11 159 ∧ KN 12 159 ∧ KN 13 159 ∧ KN 14 159 ∧ KN 15 159 ∧ KY 16 159 ∧ KN 17 159 ∧ KN 18 159 := by decide +kernel
@[go_sem] theorem dp_159 : isIn 999999 (tabX.keep 159) = false := id rfl
@[go_sem] theorem is_161_0 : KY 0 161 ∧ KY 1 161 ∧ KY 2 161 ∧ KN 3 161 ∧ KN 4 161 ∧ KN 5 161 ∧ KN 6 161 ∧ KN 7 161 ∧ KN 8 161 ∧ KN 9 161 := by decide +kernel
@[go_sem] theorem dp_161 : isIn 999999 (tabX.keep 161) = false := id rfl
@[go_sem] theorem is_162_0 : KY 4 162 ∧ KY 5 162 ∧ KY 6 162 ∧ KN 7 162 ∧ KN 8 162 ∧ KN 9 162 ∧ KN 10 162 ∧ KY 11 162 ∧ KY 12 162 ∧ KY 13 162 ∧ KY 14 162 ∧ KN 15 162 ∧ KN 16 162 ∧ KN 17 162 ∧ KN 18 162 ∧ KN 19 162 ∧ KN 20 162 ∧ KN 21 162 ∧ KN 22 162 ∧ KN 23 162 ∧ KN 24 162 ∧ KN 25 162 ∧ KN 26 162 ∧ KN 27 162 ∧ KN 28 162 ∧ KN 29 162 ∧ KN 30 162 ∧ KY 31 162 ∧ KN 32 162 ∧ KN 33 162 := by decide +kernel
@[go_sem] theorem is_162_30 : KN 34 162 ∧ KN 35 162 ∧ KN 36 162 ∧ KN 37 162 ∧ KN 38 162 ∧ KN 39 162 ∧ KN 40 162 := by decide +kernel
@[go_sem] theorem dp_162 : isIn 999999 (tabX.keep 162) = false := id rfl
@[go_sem] theorem is_163_0 : KY 4 163 ∧ KY 5 163 ∧ KN 6 163 ∧ KY 7 163 ∧ KY 8 163 ∧ KY 9 163 ∧ KN 10 163 ∧ KN 11 163 ∧ KN 12 163 ∧ KN 13 163 ∧ KN 14 163 ∧ KN 15 163 ∧ KY 16 163 ∧ KN 17 163 ∧ KN 18 163 := by decide +kernel
@[go_sem] theorem dp_163 : isIn 999999 (tabX.keep 163) = false := id rfl
@[go_sem] theorem is_164_0 : KY 4 164 ∧ KN 5 164 ∧ KN 6 164 ∧ KN 7 164 ∧ KN 8 164 ∧ KN 9 164 ∧ KN 10 164 ∧ KN 11 164 ∧ KN 12 164 := by decide +kernel
@[go_sem] theorem dp_164 : isIn 999999 (tabX.keep 164) = false := id rfl
@[go_sem] theorem is_165_0 : KY 4 165 ∧ KN 5 165 ∧ KN 6 165 ∧ KN 7 165 := by decide +kernel
@[go_sem] theorem dp_165 : isIn 999999 (tabX.keep 165) = false := id rfl
@[go_sem] theorem is_166_0 : KY 4 166 ∧ KN 5 166 ∧ KN 6 166 ∧ KN 7 166 := by decide +kernel
@[go_sem] theorem dp_166 : isIn 999999 (tabX.keep 166) = false := id rfl
end Go.Proofs.YtiighcpimecehaaGreat
