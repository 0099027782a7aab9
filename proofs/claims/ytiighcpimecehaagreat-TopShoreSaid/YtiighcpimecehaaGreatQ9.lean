/- What the tables of the abstract interpreter hold. Conditions: none. -/
import Derived.Test.YtiighcpimecehaaGreatQ8
set_option linter.unusedSimpArgs false
set_option linter.unusedVariables false
namespace Go.Proofs.YtiighcpimecehaaGreat
open Go.Proofs Go.Proofs.YtiighcpimecehaaGreat
abbrev KY (t f : Nat) : Prop := isIn t (tabX.keep f) = true
abbrev KN (t f : Nat) : Prop := isIn t (tabX.keep f) = false
@[go_sem] theorem is_4_0 : KY 3 4 ∧ KY 4 4 ∧ KY 5 4 ∧ KY 6 4 ∧ KN 7 4 ∧ KN 8 4 ∧ KY 9 4 ∧ KN 10 4 ∧ KN 11 4 ∧ KY 12 4 ∧ KY 13 4 ∧ KY 14 4 ∧ KY 15 4 ∧ KY 16 4 ∧ KY 17 4 ∧ KY 18 4 ∧ KY 19 4 ∧ KY 20 4 ∧ KY 21 4 ∧ KY 22 4 ∧ KY 23 4 ∧ KY 24 4 ∧ KY 25 4 ∧ KN 26 4 ∧ KY 27 4 ∧ KY 28 4 ∧ KN 29 4 ∧ KN 30 4 ∧ KN 31 4 ∧ KN 32 4 := by decide +kernel
@[go_sem] theorem is_4_30 : KN 33 4 ∧ KN 34 4 ∧ KN 35 4 ∧ KN 36 4 ∧ KN 37 4 ∧ KN 38 4 ∧ KN 39 4 ∧ KN 40 4 ∧ KN 41 4 ∧ KN 42 4 ∧ KN 43 4 ∧ KN 44 4 ∧ KN 45 4 ∧ KN 46 4 ∧ KN 47 4 ∧ KN 48 4 ∧ KN 49 4 ∧ KN 50 4 ∧ KN 51 4 ∧ KN 52 4 ∧ KN 53 4 ∧ KN 54 4 ∧ KN 55 4 ∧ KN 56 4 ∧ KN 57 4 ∧ KY 58 4 ∧ KN 59 4 ∧ KN 60 4 ∧ KN 61 4 ∧ KN 62 4 := by decide +kernel
@[go_sem] theorem is_4_60 : KN 63 4 ∧ KN 64 4 ∧ KN 65 4 ∧ KN 66 4 ∧ KN 67 4 ∧ KN 68 4 ∧ KN 69 4 ∧ KN 70 4 ∧ KN 71 4 ∧ KN 72 4 ∧ KN 73 4 ∧ KY 74 4 ∧ KN 75 4 ∧ KN 76 4 ∧ KN 77 4 ∧ KN 78 4 ∧ KN 79 4 ∧ KN 80 4 ∧ KN 81 4 ∧ KN 82 4 ∧ KN 83 4 ∧ KN 84 4 ∧ KN 85 4 ∧ KN 86 4 ∧ KN 87 4 ∧ KN 88 4 ∧ KN 89 4 ∧ KN 90 4 ∧ KN 91 4 ∧ KN 92 4 := by decide +kernel
@[go_sem] theorem is_4_90 : KN 93 4 ∧ KN 94 4 ∧ KN 95 4 ∧ KN 96 4 ∧ KN 97 4 ∧ KN 98 4 ∧ KN 99 4 ∧ KN 100 4 ∧ KN 101 4 ∧ KN 102 4 ∧ KN 103 4 ∧ KN 104 4 ∧ KN 105 4 ∧ KN 106 4 ∧ KN 107 4 ∧ KN 108 4 ∧ KN 109 4 ∧ KN 110 4 ∧ KN 111 4 ∧ KN 112 4 ∧ KN 113 4 ∧ KN 114 4 ∧ KN 115 4 ∧ KN 116 4 ∧ KN 117 4 ∧ KY 118 4 ∧ KN 119 4 ∧ KN 120 4 ∧ KY 121 4 ∧ KN 122 4 := by decide +kernel
@[go_sem] theorem is_4_120 : KN 123 4 ∧ KN 124 4 ∧ KN 125 4 ∧ KN 126 4 ∧ KN 127 4 ∧ KN 128 4 ∧ KN 129 4 ∧ KN 130 4 ∧ KN 131 4 ∧ KN 132 4 ∧ KN 133 4 ∧ KN 134 4 ∧ KN 135 4 ∧ KN 136 4 ∧ KN 137 4 ∧ KN 138 4 ∧ KN 139 4 ∧ KN 140 4 ∧ KN 141 4 ∧ KN 142 4 ∧ KN 143 4 ∧ KN 144 4 ∧ KN 145 4 ∧ KN 146 4 ∧ KN 147 4 ∧ KN 148 4 ∧ KN 149 4 ∧ KN 150 4 ∧ KN 151 4 ∧ KN 152 4 := by decide +kernel
@[go_sem] theorem is_4_150 : KN 153 4 ∧ KN 154 4 ∧ KY 155 4 ∧ KN 156 4 ∧ KN 157 4 ∧ KN 158 4 ∧ KN 159 4 ∧ KN 160 4 ∧ KN 161 4 ∧ KN 162 4 ∧ KN 163 4 ∧ KN 164 4 ∧ KN 165 4 ∧ KN 166 4 ∧ KN 167 4 ∧ KN 168 4 ∧ KN 169 4 ∧ KN 170 4 ∧ KN 171 4 ∧ KN 172 4 ∧ KN 173 4 ∧ KN 174 4 ∧ KN 175 4 ∧ KN 176 4 ∧ KN 177 4 ∧ KN 178 4 ∧ KN 179 4 ∧ KN 180 4 ∧ KN 181 4 ∧ KN 182 4 := by decide +kernel
@[go_sem] theorem is_4_180 : KN 183 4 ∧ KN 184 4 ∧ KN 185 4 ∧ KN 186 4 ∧ KN 187 4 ∧ KN 188 4 ∧ KN 189 4 ∧ KN 190 4 ∧ KN 191 4 ∧ KN 192 4 ∧ KY 193 4 ∧ KN 194 4 ∧ KN 195 4 ∧ KN 196 4 ∧ KN 197 4 ∧ KN 198 4 ∧ KN 199 4 ∧ KN 200 4 ∧ KN 201 4 ∧ KN 202 4 ∧ KN 203 4 ∧ KN 204 4 ∧ KN 205 4 ∧ KN 206 4 ∧ KN 207 4 ∧ KN 208 4 ∧ KN 209 4 ∧ KN 210 4 ∧ KN 211 4 ∧ KN 212 4 := by decide +kernel
@[go_sem] theorem is_4_210 : KN 213 4 ∧ KN 214 4 ∧ KN 215 4 ∧ KN 216 4 := by decide +kernel
@[go_sem] theorem dp_4 : isIn 999999 (tabX.keep 4) = false := id rfl
@[go_sem] theorem is_7_0 : KY 0 7 ∧ KY 1 7 ∧ KY 2 7 ∧ KY 3 7 ∧ KY 4 7 ∧ KY 5 7 ∧ KY 6 7 ∧ KY 7 7 ∧ KY 8 7 ∧ KY 9 7 ∧ KN 10 7 ∧ KY 11 7 ∧ KY 12 7 ∧ KY 13 7 ∧ KY 14 7 ∧ KY 15 7 ∧ KY 16 7 ∧ KY 17 7 ∧ KY 18 7 ∧ KY 19 7 ∧ KY 20 7 ∧ KY 21 7 ∧ KY 22 7 ∧ KY 23 7 ∧ KY 24 7 ∧ KN 25 7 ∧ KY 26 7 ∧ KN 27 7 ∧ KN 28 7 ∧ KN 29 7 := by decide +kernel
@[go_sem] theorem is_7_30 : KN 30 7 ∧ KN 31 7 ∧ KN 32 7 ∧ KN 33 7 ∧ KN 34 7 ∧ KN 35 7 ∧ KN 36 7 ∧ KN 37 7 ∧ KN 38 7 ∧ KN 39 7 ∧ KN 40 7 ∧ KN 41 7 ∧ KN 42 7 ∧ KN 43 7 ∧ KN 44 7 ∧ KN 45 7 ∧ KN 46 7 ∧ KN 47 7 ∧ KN 48 7 ∧ KN 49 7 ∧ KN 50 7 ∧ KN 51 7 ∧ KN 52 7 ∧ KN 53 7 ∧ KN 54 7 ∧ KN 55 7 ∧ KN 56 7 ∧ KN 57 7 ∧ KN 58 7 ∧ KN 59 7 := by decide +kernel
@[go_sem] theorem is_7_60 : KN 60 7 ∧ KN 61 7 ∧ KN 62 7 ∧ KN 63 7 ∧ KN 64 7 ∧ KN 65 7 ∧ KN 66 7 ∧ KN 67 7 ∧ KN 68 7 ∧ KN 69 7 ∧ KN 70 7 ∧ KN 71 7 ∧ KN 72 7 ∧ KN 73 7 ∧ KN 74 7 ∧ KN 75 7 ∧ KN 76 7 ∧ KN 77 7 ∧ KN 78 7 ∧ KN 79 7 ∧ KN 80 7 ∧ KN 81 7 ∧ KN 82 7 ∧ KN 83 7 ∧ KN 84 7 ∧ KN 85 7 ∧ KN 86 7 ∧ KN 87 7 ∧ KN 88 7 ∧ KN 89 7 := by decide +kernel
@[go_sem] theorem is_7_90 : KN 90 7 ∧ KN 91 7 ∧ KN 92 7 ∧ KN 93 7 ∧ KN 94 7 ∧ KN 95 7 ∧ KN 96 7 ∧ KN 97 7 ∧ KN 98 7 ∧ KN 99 7 ∧ KN 100 7 ∧ KN 101 7 ∧ KN 102 7 ∧ KN 103 7 ∧ KN 104 7 ∧ KN 105 7 ∧ KN 106 7 ∧ KN 107 7 ∧ KN 108 7 ∧ KN 109 7 ∧ KN 110 7 ∧ KN 111 7 ∧ KN 112 7 ∧ KN 113 7 ∧ KN 114 7 ∧ KN 115 7 ∧ KN 116 7 ∧ KN 117 7 ∧ KN 118 7 ∧ KN 119 7 := by decide +kernel
@[go_sem] theorem is_7_120 : KN 120 7 ∧ KN 121 7 ∧ KN 122 7 ∧ KN 123 7 ∧ KN 124 7 ∧ KN 125 7 ∧ KN 126 7 ∧ KN 127 7 ∧ KN 128 7 ∧ KN 129 7 ∧ KN 130 7 ∧ KN 131 7 ∧ KN 132 7 ∧ KN 133 7 ∧ KN 134 7 ∧ KN 135 7 ∧ KN 136 7 ∧ KN 137 7 ∧ KN 138 7 ∧ KN 139 7 ∧ KN 140 7 ∧ KN 141 7 ∧ KN 142 7 ∧ KN 143 7 ∧ KN 144 7 ∧ KN 145 7 ∧ KN 146 7 ∧ KN 147 7 ∧ KN 148 7 ∧ KN 149 7 := by decide +kernel
@[go_sem] theorem is_7_150 : KN 150 7 ∧ KN 151 7 ∧ KN 152 7 ∧ KN 153 7 ∧ KN 154 7 ∧ KN 155 7 ∧ KN 156 7 ∧ KN 157 7 ∧ KN 158 7 ∧ KN 159 7 ∧ KN 160 7 ∧ KN 161 7 ∧ KN 162 7 ∧ KN 163 7 ∧ KN 164 7 ∧ KN 165 7 ∧ KN 166 7 ∧ KN 167 7 ∧ KN 168 7 ∧ KN 169 7 ∧ KN 170 7 ∧ KN 171 7 ∧ KN 172 7 ∧ KN 173 7 ∧ KN 174 7 ∧ KN 175 7 ∧ KN 176 7 ∧ KN 177 7 ∧ KN 178 7 ∧ KN 179 7 := by decide +kernel
@[go_sem] theorem is_7_180 : KN 180 7 ∧ KN 181 7 ∧ KN 182 7 ∧ KN 183 7 ∧ KN 184 7 ∧ KN 185 7 ∧ KN 186 7 := by decide +kernel
@[go_sem] theorem dp_7 : isIn 999999 (tabX.keep 7) = false := id rfl
@[go_sem] theorem is_11_0 : KY 1 11 ∧ KY 2 11 ∧ KY 3 11 ∧ KY 4 11 ∧ KY 5 11 ∧ KY 6 11 ∧ KY 7 11 ∧ KN 8 11 ∧ KN 9 11 ∧ KN 10 11 ∧ KN 11 11 ∧ KN 12 11 ∧ KN 13 11 ∧ KY 14 11 ∧ KN 15 11 ∧ KN 16 11 ∧ KN 17 11 ∧ KN 18 11 ∧ KN 19 11 ∧ KY 20 11 ∧ KN 21 11 ∧ KY 22 11 ∧ KN 23 11 ∧ KN 24 11 ∧ KN 25 11 ∧ KN 26 11 ∧ KN 27 11 ∧ KN 28 11 ∧ KN 29 11 ∧ KN 30 11 := by decide +kernel
@[go_sem] theorem is_11_30 : KN 31 11 ∧ KN 32 11 ∧ KN 33 11 ∧ KN 34 11 ∧ KN 35 11 ∧ KN 36 11 ∧ KN 37 11 ∧ KN 38 11 ∧ KY 39 11 ∧ KN 40 11 ∧ KN 41 11 ∧ KN 42 11 ∧ KN 43 11 ∧ KN 44 11 ∧ KN 45 11 ∧ KN 46 11 ∧ KN 47 11 ∧ KN 48 11 ∧ KN 49 11 := by decide +kernel
@[go_sem] theorem dp_11 : isIn 999999 (tabX.keep 11) = false := id rfl
@[go_sem] theorem is_12_0 : KY 4 12 ∧ KN 5 12 ∧ KN 6 12 ∧ KN 7 12 ∧ KN 8 12 ∧ KN 9 12 ∧ KN 10 12 ∧ KN 11 12 ∧ KN 12 12 ∧ KN 13 12 ∧ KN 14 12 ∧ KN 15 12 ∧ KN 16 12 ∧ KN 17 12 ∧ KN 18 12 ∧ KN 19 12 ∧ KN 20 12 ∧ KN 21 12 := by decide +kernel
@[go_sem] theorem dp_12 : isIn 999999 (tabX.keep 12) = false := id rfl
@[go_sem] theorem is_15_0 : KY 2 15 ∧ KY 4 15 ∧ KY 5 15 ∧ KY 6 15 ∧ KY 7 15 ∧ KN 8 15 ∧ KN 9 15 ∧ KN 10 15 ∧ KN 11 15 ∧ KN 12 15 ∧ KN 13 15 ∧ KN 14 15 ∧ KN 15 15 ∧ KN 16 15 ∧ KN 17 15 ∧ KY 18 15 ∧ KN 19 15 ∧ KN 20 15 ∧ KN 21 15 ∧ KY 22 15 ∧ KN 23 15 ∧ KN 24 15 ∧ KN 25 15 ∧ KN 26 15 ∧ KN 27 15 ∧ KN 28 15 ∧ KN 29 15 ∧ KN 30 15 ∧ KN 31 15 ∧ KN 32 15 := by decide +kernel
@[go_sem] theorem is_15_30 : KN 33 15 ∧ KN 34 15 ∧ KN 35 15 ∧ KN 36 15 ∧ KN 37 15 ∧ KN 38 15 := by decide +kernel
@[go_sem] theorem dp_15 : isIn 999999 (tabX.keep 15) = false := id rfl
@[go_sem] theorem is_16_0 : KY 2 16 ∧ KY 4 16 ∧ KY 5 16 ∧ KY 6 16 ∧ KY 7 16 ∧ KN 8 16 ∧ KN 9 16 ∧ KN 10 16 ∧ KN 11 16 ∧ KN 12 16 ∧ KN 13 16 ∧ KN 14 16 ∧ KN 15 16 ∧ KN 16 16 ∧ KN 17 16 ∧ KN 18 16 ∧ KY 19 16 ∧ KN 20 16 ∧ KN 21 16 ∧ KN 22 16 ∧ KN 23 16 ∧ KN 24 16 ∧ KN 25 16 ∧ KN 26 16 ∧ KN 27 16 ∧ KN 28 16 ∧ KN 29 16 ∧ KN 30 16 := by decide +kernel
@[go_sem] theorem dp_16 : isIn 999999 (tabX.keep 16) = false := id rfl
@[go_sem] theorem is_17_0 : KY 1 17 ∧ KY 2 17 ∧ KY 3 17 ∧ KY 4 17 ∧ KY 5 17 ∧ KY 6 17 ∧ KY 7 17 ∧ KY 8 17 ∧ KY 9 17 ∧ KY 10 17 ∧ KY 11 17 ∧ KY 12 17 ∧ KN 13 17 ∧ KN 14 17 ∧ KN 15 17 ∧ KY 16 17 ∧ KN 17 17 ∧ KN 18 17 ∧ KN 19 17 ∧ KN 20 17 ∧ KY 21 17 ∧ KN 22 17 ∧ KN 23 17 ∧ KN 24 17 ∧ KN 25 17 ∧ KN 26 17 ∧ KN 27 17 ∧ KN 28 17 ∧ KN 29 17 ∧ KN 30 17 := by decide +kernel
@[go_sem] theorem is_17_30 : KN 31 17 ∧ KN 32 17 ∧ KN 33 17 ∧ KN 34 17 ∧ KY 35 17 ∧ KN 36 17 ∧ KN 37 17 ∧ KN 38 17 ∧ KN 39 17 ∧ KN 40 17 ∧ KY 41 17 ∧ KN 42 17 ∧ KN 43 17 ∧ KN 44 17 ∧ KN 45 17 ∧ KY 46 17 ∧ KN 47 17 ∧ KN 48 17 ∧ KN 49 17 ∧ KN 50 17 ∧ KN 51 17 ∧ KN 52 17 ∧ KN 53 17 ∧ KN 54 17 ∧ KN 55 17 ∧ KN 56 17 ∧ KN 57 17 ∧ KN 58 17 ∧ KN 59 17 ∧ KN 60 17 := by decide +kernel
@[go_sem] theorem is_17_60 : KN 61 17 ∧ KN 62 17 ∧ KN 63 17 ∧ KN 64 17 ∧ KN 65 17 ∧ KN 66 17 ∧ KN 67 17 ∧ KN 68 17 ∧ KN 69 17 ∧ KN 70 17 ∧ KN 71 17 ∧ KN 72 17 ∧ KN 73 17 ∧ KN 74 17 ∧ KN 75 17 ∧ KN 76 17 ∧ KN 77 17 ∧ KN 78 17 ∧ KN 79 17 ∧ KN 80 17 ∧ KN 81 17 ∧ KN 82 17 ∧ KN 83 17 ∧ KN 84 17 ∧ KN 85 17 ∧ KN 86 17 ∧ KN 87 17 ∧ KN 88 17 ∧ KN 89 17 ∧ KN 90 17 := by decide +kernel
@[go_sem] theorem is_17_90 : KY 91 17 ∧ KN 92 17 ∧ KY 93 17 ∧ KN 94 17 ∧ KN 95 17 ∧ KN 96 17 ∧ KN 97 17 ∧ KN 98 17 ∧ KY 99 17 ∧ KN 100 17 ∧ KN 101 17 ∧ KN 102 17 ∧ KN 103 17 ∧ KY 104 17 ∧ KN 105 17 ∧ KN 106 17 ∧ KN 107 17 ∧ KN 108 17 ∧ KN 109 17 ∧ KN 110 17 ∧ KY 111 17 ∧ KN 112 17 ∧ KN 113 17 ∧ KN 114 17 ∧ KN 115 17 ∧ KN 116 17 ∧ KY 117 17 ∧ KN 118 17 ∧ KN 119 17 ∧ KN 120 17 := by decide +kernel
@[go_sem] theorem is_17_120 : KN 121 17 ∧ KY 122 17 ∧ KN 123 17 ∧ KN 124 17 ∧ KN 125 17 ∧ KN 126 17 ∧ KN 127 17 ∧ KN 128 17 ∧ KN 129 17 ∧ KN 130 17 ∧ KN 131 17 ∧ KN 132 17 ∧ KN 133 17 ∧ KN 134 17 ∧ KN 135 17 ∧ KN 136 17 ∧ KN 137 17 ∧ KN 138 17 ∧ KN 139 17 ∧ KN 140 17 ∧ KN 141 17 ∧ KN 142 17 ∧ KN 143 17 ∧ KN 144 17 ∧ KN 145 17 ∧ KN 146 17 ∧ KN 147 17 ∧ KN 148 17 ∧ KN 149 17 ∧ KY 150 17 := by decide +kernel
@[go_sem] theorem is_17_150 : isIn 151 (tabX.keep 17) = false := id rfl
@[go_sem] theorem dp_17 : isIn 999999 (tabX.keep 17) = false := id rfl
@[go_sem] theorem is_18_0 : KY 1 18 ∧ KY 2 18 ∧ KY 3 18 ∧ KY 4 18 ∧ KY 5 18 ∧ KY 6 18 ∧ KY 7 18 ∧ KY 8 18 ∧ KY 9 18 ∧ KY 10 18 ∧ KY 11 18 ∧ KN 12 18 ∧ KN 13 18 ∧ KN 14 18 ∧ KY 15 18 ∧ KN 16 18 ∧ KN 17 18 ∧ KN 18 18 ∧ KN 19 18 ∧ KN 20 18 ∧ KY 21 18 ∧ KN 22 18 ∧ KN 23 18 ∧ KN 24 18 ∧ KN 25 18 ∧ KY 26 18 ∧ KN 27 18 ∧ KN 28 18 ∧ KN 29 18 ∧ KN 30 18 := by decide +kernel
@[go_sem] theorem is_18_30 : KN 31 18 ∧ KN 32 18 ∧ KN 33 18 ∧ KN 34 18 ∧ KN 35 18 ∧ KY 36 18 ∧ KN 37 18 ∧ KN 38 18 ∧ KN 39 18 ∧ KN 40 18 ∧ KN 41 18 ∧ KY 42 18 ∧ KN 43 18 ∧ KN 44 18 ∧ KN 45 18 ∧ KY 46 18 ∧ KN 47 18 ∧ KN 48 18 ∧ KN 49 18 ∧ KN 50 18 ∧ KY 51 18 ∧ KN 52 18 ∧ KN 53 18 ∧ KN 54 18 ∧ KN 55 18 ∧ KN 56 18 ∧ KN 57 18 ∧ KN 58 18 ∧ KN 59 18 ∧ KN 60 18 := by decide +kernel
@[go_sem] theorem is_18_60 : KN 61 18 ∧ KN 62 18 ∧ KN 63 18 ∧ KN 64 18 ∧ KN 65 18 ∧ KN 66 18 ∧ KN 67 18 ∧ KN 68 18 ∧ KN 69 18 ∧ KN 70 18 ∧ KN 71 18 ∧ KY 72 18 ∧ KN 73 18 ∧ KN 74 18 ∧ KN 75 18 ∧ KN 76 18 ∧ KN 77 18 ∧ KN 78 18 ∧ KN 79 18 ∧ KY 80 18 ∧ KN 81 18 ∧ KN 82 18 ∧ KN 83 18 ∧ KN 84 18 ∧ KN 85 18 ∧ KY 86 18 ∧ KN 87 18 ∧ KN 88 18 ∧ KN 89 18 ∧ KN 90 18 := by decide +kernel
@[go_sem] theorem is_18_90 : KY 91 18 ∧ KN 92 18 ∧ KN 93 18 ∧ KN 94 18 ∧ KN 95 18 ∧ KN 96 18 ∧ KN 97 18 ∧ KN 98 18 ∧ KN 99 18 ∧ KN 100 18 ∧ KN 101 18 ∧ KN 102 18 ∧ KN 103 18 ∧ KN 104 18 ∧ KN 105 18 ∧ KN 106 18 ∧ KN 107 18 ∧ KN 108 18 ∧ KN 109 18 ∧ KN 110 18 ∧ KN 111 18 ∧ KN 112 18 ∧ KN 113 18 ∧ KN 114 18 ∧ KY 115 18 ∧ KN 116 18 ∧ KN 117 18 ∧ KN 118 18 ∧ KN 119 18 ∧ KN 120 18 := by decide +kernel
@[go_sem] theorem is_18_120 : KN 121 18 ∧ KN 122 18 ∧ KN 123 18 ∧ KN 124 18 ∧ KN 125 18 ∧ KY 126 18 ∧ KN 127 18 := by decide +kernel
@[go_sem] theorem dp_18 : isIn 999999 (tabX.keep 18) = false := id rfl
@[go_sem] theorem is_19_0 : KY 0 19 ∧ KY 1 19 ∧ KY 2 19 ∧ KY 3 19 ∧ KY 4 19 ∧ KY 5 19 ∧ KY 6 19 ∧ KY 7 19 ∧ KY 8 19 ∧ KY 9 19 ∧ KY 10 19 ∧ KY 11 19 ∧ KY 12 19 ∧ KY 13 19 ∧ KY 14 19 ∧ KY 15 19 ∧ KY 16 19 ∧ KY 17 19 ∧ KY 18 19 ∧ KY 19 19 ∧ KY 20 19 ∧ KY 21 19 ∧ KY 22 19 ∧ KY 23 19 ∧ KN 24 19 ∧ KY 25 19 ∧ KN 26 19 ∧ KY 27 19 ∧ KN 28 19 ∧ KN 29 19 := by decide +kernel
@[go_sem] theorem is_19_30 : KN 30 19 ∧ KN 31 19 ∧ KN 32 19 ∧ KN 33 19 ∧ KN 34 19 ∧ KN 35 19 ∧ KN 36 19 ∧ KN 37 19 ∧ KN 38 19 ∧ KN 39 19 ∧ KN 40 19 ∧ KN 41 19 ∧ KN 42 19 ∧ KN 43 19 ∧ KN 44 19 ∧ KN 45 19 ∧ KN 46 19 ∧ KN 47 19 ∧ KN 48 19 ∧ KN 49 19 ∧ KN 50 19 ∧ KN 51 19 ∧ KN 52 19 ∧ KN 53 19 ∧ KN 54 19 ∧ KN 55 19 ∧ KN 56 19 ∧ KN 57 19 ∧ KN 58 19 ∧ KN 59 19 := by decide +kernel
@[go_sem] theorem is_19_60 : KN 60 19 ∧ KN 61 19 ∧ KN 62 19 ∧ KN 63 19 ∧ KN 64 19 ∧ KN 65 19 ∧ KN 66 19 ∧ KN 67 19 ∧ KN 68 19 ∧ KN 69 19 ∧ KN 70 19 ∧ KN 71 19 ∧ KN 72 19 ∧ KN 73 19 ∧ KN 74 19 ∧ KN 75 19 ∧ KN 76 19 ∧ KN 77 19 ∧ KN 78 19 ∧ KN 79 19 ∧ KN 80 19 ∧ KN 81 19 ∧ KN 82 19 ∧ KN 83 19 ∧ KN 84 19 ∧ KN 85 19 ∧ KN 86 19 ∧ KN 87 19 ∧ KN 88 19 ∧ KN 89 19 := by decide +kernel
@[go_sem] theorem is_19_90 : KN 90 19 ∧ KN 91 19 ∧ KN 92 19 ∧ KN 93 19 ∧ KN 94 19 ∧ KN 95 19 ∧ KN 96 19 ∧ KN 97 19 ∧ KN 98 19 ∧ KN 99 19 ∧ KN 100 19 ∧ KN 101 19 ∧ KN 102 19 ∧ KN 103 19 ∧ KN 104 19 ∧ KN 105 19 ∧ KN 106 19 ∧ KN 107 19 ∧ KN 108 19 ∧ KN 109 19 ∧ KN 110 19 ∧ KN 111 19 ∧ KN 112 19 ∧ KN 113 19 ∧ KN 114 19 ∧ KN 115 19 ∧ KN 116 19 ∧ KN 117 19 ∧ KN 118 19 ∧ KN 119 19 := by decide +kernel
@[go_sem] theorem is_19_120 : KN 120 19 ∧ KN 121 19 ∧ KN 122 19 ∧ KN 123 19 ∧ KN 124 19 ∧ KN 125 19 ∧ KN 126 19 ∧ KN 127 19 ∧ KN 128 19 ∧ KN 129 19 ∧ KN 130 19 ∧ KN 131 19 ∧ KN 132 19 ∧ KN 133 19 ∧ KN 134 19 ∧ KN 135 19 ∧ KN 136 19 ∧ KN 137 19 ∧ KN 138 19 ∧ KN 139 19 ∧ KN 140 19 ∧ KN 141 19 ∧ KN 142 19 ∧ KN 143 19 ∧ KN 144 19 ∧ KN 145 19 ∧ KN 146 19 ∧ KN 147 19 ∧ KN 148 19 ∧ KN 149 19 := by decide +kernel
@[go_sem] theorem is_19_150 : KN 150 19 ∧ KN 151 19 ∧ KN 152 19 ∧ KN 153 19 ∧ KN 154 19 ∧ KN 155 19 ∧ KN 156 19 ∧ KN 157 19 ∧ KN 158 19 ∧ KN 159 19 ∧ KN 160 19 ∧ KN 161 19 ∧ KN 162 19 ∧ KN 163 19 ∧ KN 164 19 ∧ KN 165 19 ∧ KN 166 19 ∧ KN 167 19 ∧ KN 168 19 ∧ KN 169 19 ∧ KN 170 19 ∧ KN 171 19 ∧ KN 172 19 ∧ KN 173 19 ∧ KN 174 19 ∧ KN 175 19 ∧ KN 176 19 ∧ KN 177 19 ∧ KN 178 19 ∧ KN 179 19 := by decide +kernel
@[go_sem] theorem dp_19 : isIn 999999 (tabX.keep 19) = false := id rfl
@[go_sem] theorem is_20_0 : KY 1 20 ∧ KY 2 20 ∧ KY 3 20 ∧ KY 4 20 ∧ KY 5 20 ∧ KY 6 20 ∧ KY 7 20 ∧ KY 8 20 ∧ KY 9 20 ∧ KY 10 20 ∧ KN 11 20 ∧ KN 12 20 ∧ KN 13 20 ∧ KN 14 20 ∧ KN 15 20 ∧ KY 16 20 ∧ KN 17 20 ∧ KN 18 20 ∧ KN 19 20 ∧ KN 20 20 ∧ KN 21 20 ∧ KY 22 20 ∧ KN 23 20 ∧ KN 24 20 ∧ KN 25 20 ∧ KN 26 20 ∧ KN 27 20 ∧ KN 28 20 ∧ KY 29 20 ∧ KN 30 20 := by decide +kernel
@[go_sem] theorem is_20_30 : KN 31 20 ∧ KN 32 20 ∧ KN 33 20 ∧ KN 34 20 ∧ KN 35 20 ∧ KN 36 20 ∧ KN 37 20 ∧ KN 38 20 ∧ KN 39 20 ∧ KN 40 20 ∧ KN 41 20 ∧ KN 42 20 ∧ KN 43 20 ∧ KN 44 20 ∧ KN 45 20 ∧ KN 46 20 ∧ KN 47 20 ∧ KN 48 20 ∧ KN 49 20 ∧ KN 50 20 ∧ KN 51 20 ∧ KN 52 20 ∧ KY 53 20 ∧ KN 54 20 ∧ KN 55 20 ∧ KN 56 20 ∧ KN 57 20 ∧ KN 58 20 ∧ KN 59 20 ∧ KN 60 20 := by decide +kernel
@[go_sem] theorem is_20_60 : KN 61 20 ∧ KN 62 20 ∧ KN 63 20 ∧ KN 64 20 ∧ KN 65 20 ∧ KN 66 20 ∧ KN 67 20 ∧ KN 68 20 ∧ KN 69 20 ∧ KN 70 20 ∧ KN 71 20 ∧ KY 72 20 ∧ KN 73 20 ∧ KN 74 20 ∧ KN 75 20 ∧ KN 76 20 ∧ KN 77 20 ∧ KN 78 20 := by decide +kernel
@[go_sem] theorem dp_20 : isIn 999999 (tabX.keep 20) = false := id rfl
@[go_sem] theorem is_21_0 : KY 2 21 ∧ KY 4 21 ∧ KY 5 21 ∧ KY 6 21 ∧ KY 7 21 ∧ KY 8 21 ∧ KY 9 21 ∧ KN 10 21 ∧ KN 11 21 ∧ KN 12 21 ∧ KN 13 21 ∧ KN 14 21 ∧ KY 15 21 ∧ KN 16 21 ∧ KN 17 21 ∧ KN 18 21 ∧ KN 19 21 ∧ KN 20 21 ∧ KN 21 21 ∧ KY 22 21 ∧ KN 23 21 ∧ KN 24 21 ∧ KN 25 21 ∧ KN 26 21 ∧ KN 27 21 ∧ KN 28 21 ∧ KN 29 21 ∧ KN 30 21 ∧ KN 31 21 ∧ KN 32 21 := by decide +kernel
@[go_sem] theorem is_21_30 : KN 33 21 ∧ KN 34 21 ∧ KN 35 21 ∧ KN 36 21 ∧ KN 37 21 ∧ KN 38 21 ∧ KN 39 21 ∧ KN 40 21 ∧ KN 41 21 ∧ KN 42 21 ∧ KN 43 21 ∧ KY 44 21 ∧ KN 45 21 ∧ KN 46 21 ∧ KN 47 21 ∧ KN 48 21 ∧ KN 49 21 ∧ KN 50 21 ∧ KN 51 21 ∧ KN 52 21 := by decide +kernel
@[go_sem] theorem dp_21 : isIn 999999 (tabX.keep 21) = false := id rfl
@[go_sem] theorem is_22_0 : KY 2 22 ∧ KY 4 22 ∧ KY 5 22 ∧ KY 6 22 ∧ KY 7 22 ∧ KY 9 22 ∧ KY 10 22 ∧ KN 11 22 ∧ KN 12 22 ∧ KN 13 22 ∧ KN 14 22 ∧ KN 15 22 ∧ KN 16 22 ∧ KN 17 22 ∧ KN 18 22 ∧ KN 19 22 ∧ KN 20 22 ∧ KN 21 22 ∧ KY 22 22 ∧ KN 23 22 ∧ KN 24 22 ∧ KN 25 22 ∧ KN 26 22 ∧ KN 27 22 ∧ KN 28 22 ∧ KY 29 22 ∧ KN 30 22 ∧ KY 31 22 ∧ KN 32 22 ∧ KN 33 22 := by decide +kernel
@[go_sem] theorem is_22_30 : KN 34 22 ∧ KN 35 22 ∧ KN 36 22 ∧ KY 37 22 ∧ KN 38 22 ∧ KN 39 22 ∧ KN 40 22 ∧ KN 41 22 ∧ KN 42 22 ∧ KN 43 22 ∧ KN 44 22 ∧ KN 45 22 ∧ KN 46 22 ∧ KN 47 22 ∧ KN 48 22 ∧ KN 49 22 ∧ KN 50 22 := by decide +kernel
@[go_sem] theorem dp_22 : isIn 999999 (tabX.keep 22) = false := id rfl
@[go_sem] theorem is_23_0 : KY 4 23 ∧ KY 5 23 ∧ KY 6 23 ∧ KY 7 23 ∧ KY 8 23 ∧ KY 9 23 ∧ KY 10 23 ∧ KY 11 23 ∧ KN 12 23 ∧ KN 13 23 ∧ KN 14 23 ∧ KN 15 23 ∧ KN 16 23 ∧ KN 17 23 ∧ KN 18 23 ∧ KY 19 23 ∧ KN 20 23 ∧ KN 21 23 ∧ KN 22 23 ∧ KN 23 23 ∧ KN 24 23 := by decide +kernel
@[go_sem] theorem dp_23 : isIn 999999 (tabX.keep 23) = false := id rfl
@[go_sem] theorem is_24_0 : KY 6 24 ∧ KN 7 24 ∧ KN 8 24 ∧ KN 9 24 ∧ KN 10 24 ∧ KN 11 24 ∧ KN 12 24 ∧ KN 13 24 ∧ KN 14 24 := by decide +kernel
@[go_sem] theorem dp_24 : isIn 999999 (tabX.keep 24) = false := id rfl
@[go_sem] theorem is_25_0 : KY 3 25 ∧ KY 6 25 ∧ KY 7 25 ∧ KY 8 25 ∧ KN 9 25 ∧ KN 10 25 ∧ KN 11 25 ∧ KY 12 25 ∧ KN 13 25 ∧ KN 14 25 ∧ KN 15 25 ∧ KN 16 25 ∧ KN 17 25 ∧ KN 18 25 ∧ KN 19 25 ∧ KY 20 25 ∧ KN 21 25 ∧ KN 22 25 ∧ KN 23 25 ∧ KN 24 25 ∧ KN 25 25 ∧ KN 26 25 ∧ KN 27 25 ∧ KN 28 25 ∧ KN 29 25 := by decide +kernel
@[go_sem] theorem dp_25 : isIn 999999 (tabX.keep 25) = false := id rfl
@[go_sem] theorem is_26_0 : KY 3 26 ∧ KY 6 26 ∧ KY 7 26 ∧ KN 8 26 ∧ KN 9 26 ∧ KN 10 26 ∧ KN 11 26 ∧ KN 12 26 ∧ KN 13 26 ∧ KN 14 26 ∧ KN 15 26 ∧ KN 16 26 ∧ KY 17 26 ∧ KN 18 26 ∧ KN 19 26 ∧ KN 20 26 ∧ KN 21 26 ∧ KN 22 26 ∧ KN 23 26 ∧ KY 24 26 ∧ KN 25 26 ∧ KN 26 26 ∧ KN 27 26 ∧ KN 28 26 ∧ KN 29 26 := by decide +kernel
@[go_sem] theorem dp_26 : isIn 999999 (tabX.keep 26) = false := id rfl
@[go_sem] theorem is_27_0 : KY 3 27 ∧ KY 4 27 ∧ KY 5 27 ∧ KY 6 27 ∧ KY 7 27 ∧ KY 8 27 ∧ KY 9 27 ∧ KY 10 27 ∧ KY 11 27 ∧ KY 12 27 ∧ KN 13 27 ∧ KN 14 27 ∧ KN 15 27 ∧ KN 16 27 ∧ KN 17 27 ∧ KN 18 27 ∧ KN 19 27 ∧ KY 20 27 ∧ KN 21 27 ∧ KN 22 27 ∧ KN 23 27 ∧ KN 24 27 ∧ KN 25 27 ∧ KY 26 27 ∧ KY 27 27 ∧ KN 28 27 ∧ KN 29 27 ∧ KN 30 27 ∧ KY 31 27 ∧ KY 32 27 := by decide +kernel
@[go_sem] theorem is_27_30 : KY 33 27 ∧ KN 34 27 ∧ KN 35 27 ∧ KN 36 27 ∧ KN 37 27 ∧ KN 38 27 ∧ KN 39 27 ∧ KN 40 27 ∧ KN 41 27 ∧ KY 42 27 ∧ KN 43 27 ∧ KN 44 27 ∧ KN 45 27 ∧ KN 46 27 := by decide +kernel
@[go_sem] theorem dp_27 : isIn 999999 (tabX.keep 27) = false := id rfl
@[go_sem] theorem is_28_0 : KY 4 28 ∧ KY 5 28 ∧ KN 6 28 ∧ KN 7 28 ∧ KN 8 28 ∧ KY 9 28 ∧ KN 10 28 ∧ KN 11 28 ∧ KY 12 28 ∧ KN 13 28 := by decide +kernel
@[go_sem] theorem dp_28 : isIn 999999 (tabX.keep 28) = false := id rfl
@[go_sem] theorem is_36_0 : KY 2 36 ∧ KY 3 36 ∧ KN 4 36 ∧ KN 5 36 ∧ KN 6 36 ∧ KN 7 36 ∧ KN 8 36 ∧ KN 9 36 ∧ KN 10 36 ∧ KN 11 36 ∧ KN 12 36 ∧ KN 13 36 ∧ KN 14 36 ∧ KY 15 36 ∧ KN 16 36 ∧ KN 17 36 ∧ KN 18 36 ∧ KN 19 36 ∧ KN 20 36 ∧ KN 21 36 := by decide +kernel
@[go_sem] theorem dp_36 : isIn 999999 (tabX.keep 36) = false := id rfl
@[go_sem] theorem is_37_0 : KY 1 37 ∧ KY 2 37 ∧ KY 3 37 ∧ KY 4 37 ∧ KY 5 37 ∧ KN 6 37 ∧ KN 7 37 ∧ KN 8 37 ∧ KN 9 37 ∧ KN 10 37 ∧ KN 11 37 ∧ KY 12 37 ∧ KN 13 37 ∧ KN 14 37 ∧ KN 15 37 := by decide +kernel
@[go_sem] theorem dp_37 : isIn 999999 (tabX.keep 37) = false := id rfl
@[go_sem] theorem is_38_0 : KY 1 38 ∧ KY 2 38 ∧ KY 3 38 ∧ KY 4 38 ∧ KY 5 38 ∧ KY 6 38 ∧ KY 7 38 ∧ KN 8 38 ∧ KN 9 38 ∧ KN 10 38 ∧ KN 11 38 ∧ KN 12 38 ∧ KN 13 38 ∧ KY 14 38 ∧ KN 15 38 ∧ KN 16 38 ∧ KN 17 38 ∧ KN 18 38 ∧ KN 19 38 ∧ KN 20 38 ∧ KN 21 38 ∧ KN 22 38 ∧ KN 23 38 ∧ KN 24 38 ∧ KY 25 38 ∧ KN 26 38 := by decide +kernel
@[go_sem] theorem dp_38 : isIn 999999 (tabX.keep 38) = false := id rfl
@[go_sem] theorem is_39_0 : KY 1 39 ∧ KY 2 39 ∧ KY 3 39 ∧ KY 4 39 ∧ KY 5 39 ∧ KY 6 39 ∧ KY 7 39 ∧ KN 8 39 ∧ KN 9 39 ∧ KN 10 39 ∧ KN 11 39 ∧ KN 12 39 ∧ KN 13 39 ∧ KY 14 39 ∧ KN 15 39 ∧ KN 16 39 ∧ KY 17 39 ∧ KY 18 39 ∧ KY 19 39 ∧ KY 20 39 ∧ KN 21 39 ∧ KN 22 39 ∧ KN 23 39 ∧ KN 24 39 ∧ KN 25 39 ∧ KN 26 39 ∧ KY 27 39 ∧ KN 28 39 ∧ KN 29 39 ∧ KN 30 39 := by decide +kernel
@[go_sem] theorem is_39_30 : KN 31 39 ∧ KN 32 39 ∧ KN 33 39 ∧ KY 34 39 ∧ KN 35 39 ∧ KN 36 39 ∧ KN 37 39 ∧ KN 38 39 ∧ KN 39 39 ∧ KN 40 39 ∧ KN 41 39 := by decide +kernel
@[go_sem] theorem dp_39 : isIn 999999 (tabX.keep 39) = false := id rfl
@[go_sem] theorem is_40_0 : KY 1 40 ∧ KY 2 40 ∧ KY 3 40 ∧ KY 4 40 ∧ KY 5 40 ∧ KY 6 40 ∧ KN 7 40 ∧ KN 8 40 ∧ KN 9 40 ∧ KN 10 40 ∧ KN 11 40 ∧ KN 12 40 ∧ KN 13 40 ∧ KY 14 40 ∧ KN 15 40 ∧ KN 16 40 ∧ KN 17 40 ∧ KN 18 40 ∧ KN 19 40 ∧ KN 20 40 ∧ KN 21 40 ∧ KN 22 40 ∧ KN 23 40 ∧ KN 24 40 := by decide +kernel
@[go_sem] theorem dp_40 : isIn 999999 (tabX.keep 40) = false := id rfl
@[go_sem] theorem is_41_0 : KY 4 41 ∧ KN 5 41 ∧ KN 6 41 ∧ KN 7 41 := by decide +kernel
@[go_sem] theorem dp_41 : isIn 999999 (tabX.keep 41) = false := id rfl
@[go_sem] theorem is_45_0 : KY 4 45 ∧ KY 5 45 ∧ KY 6 45 ∧ KN 7 45 ∧ KN 8 45 ∧ KN 9 45 ∧ KY 10 45 ∧ KN 11 45 ∧ KN 12 45 ∧ KN 13 45 ∧ KN 14 45 ∧ KN 15 45 ∧ KN 16 45 ∧ KN 17 45 ∧ KN 18 45 ∧ KN 19 45 ∧ KN 20 45 ∧ KN 21 45 ∧ KN 22 45 := by decide +kernel
@[go_sem] theorem dp_45 : isIn 999999 (tabX.keep 45) = false := id rfl
@[go_sem] theorem is_46_0 : KY 3 46 ∧ KY 6 46 ∧ KY 7 46 ∧ KN 8 46 ∧ KN 9 46 ∧ KY 10 46 ∧ KY 11 46 ∧ KN 12 46 ∧ KN 13 46 ∧ KN 14 46 ∧ KN 15 46 ∧ KN 16 46 ∧ KN 17 46 ∧ KY 18 46 ∧ KN 19 46 ∧ KN 20 46 ∧ KN 21 46 ∧ KY 22 46 ∧ KN 23 46 ∧ KN 24 46 ∧ KN 25 46 ∧ KN 26 46 ∧ KN 27 46 ∧ KN 28 46 ∧ KN 29 46 ∧ KN 30 46 ∧ KN 31 46 ∧ KN 32 46 ∧ KN 33 46 ∧ KY 34 46 := by decide +kernel
@[go_sem] theorem is_46_30 : isIn 35 (tabX.keep 46) = false := id rfl
@[go_sem] theorem dp_46 : isIn 999999 (tabX.keep 46) = false := id rfl
@[go_sem] theorem is_47_0 : KY 4 47 ∧ KY 5 47 ∧ KY 6 47 ∧ KY 7 47 ∧ KY 8 47 ∧ KY 9 47 ∧ KY 10 47 ∧ KY 11 47 ∧ KY 12 47 ∧ KN 13 47 ∧ KN 14 47 ∧ KN 15 47 ∧ KN 16 47 ∧ KN 17 47 ∧ KN 18 47 ∧ KY 19 47 ∧ KN 20 47 ∧ KN 21 47 ∧ KN 22 47 ∧ KN 23 47 ∧ KN 24 47 ∧ KN 25 47 ∧ KN 26 47 ∧ KN 27 47 ∧ KY 28 47 ∧ KN 29 47 ∧ KN 30 47 ∧ KN 31 47 ∧ KN 32 47 ∧ KN 33 47 := by decide +kernel
@[go_sem] theorem is_47_30 : KN 34 47 ∧ KY 35 47 := by decide +kernel
@[go_sem] theorem dp_47 : isIn 999999 (tabX.keep 47) = false := id rfl
@[go_sem] theorem is_48_0 : KY 4 48 ∧ KY 5 48 ∧ KN 6 48 ∧ KN 7 48 ∧ KN 8 48 ∧ KN 9 48 ∧ KN 10 48 ∧ KN 11 48 ∧ KN 12 48 ∧ KN 13 48 ∧ KN 14 48 ∧ KN 15 48 ∧ KN 16 48 ∧ KN 17 48 ∧ KN 18 48 ∧ KN 19 48 ∧ KN 20 48 ∧ KN 21 48 ∧ KN 22 48 ∧ KN 23 48 ∧ KN 24 48 ∧ KN 25 48 ∧ KY 26 48 ∧ KN 27 48 ∧ KN 28 48 ∧ KN 29 48 ∧ KN 30 48 ∧ KN 31 48 ∧ KY 32 48 ∧ KN 33 48 := by decide +kernel
@[go_sem] theorem is_48_30 : KN 34 48 ∧ KN 35 48 ∧ KN 36 48 ∧ KN 37 48 ∧ KN 38 48 ∧ KN 39 48 ∧ KN 40 48 ∧ KN 41 48 ∧ KN 42 48 ∧ KN 43 48 ∧ KN 44 48 ∧ KN 45 48 ∧ KN 46 48 ∧ KN 47 48 := by decide +kernel
@[go_sem] theorem dp_48 : isIn 999999 (tabX.keep 48) = false := id rfl
@[go_sem] theorem is_51_0 : KY 4 51 ∧ KN 5 51 ∧ KN 6 51 ∧ KN 7 51 ∧ KN 8 51 ∧ KN 9 51 ∧ KN 10 51 ∧ KN 11 51 ∧ KN 12 51 ∧ KN 13 51 ∧ KN 14 51 ∧ KN 15 51 ∧ KN 16 51 ∧ KN 17 51 ∧ KN 18 51 ∧ KN 19 51 := by decide +kernel
@[go_sem] theorem dp_51 : isIn 999999 (tabX.keep 51) = false := id rfl
@[go_sem] theorem is_52_0 : KY 4 52 ∧ KY 5 52 ∧ KY 6 52 ∧ KY 7 52 ∧ KY 8 52 ∧ KN 9 52 ∧ KN 10 52 ∧ KN 11 52 ∧ KN 12 52 ∧ KN 13 52 ∧ KY 14 52 ∧ KN 15 52 ∧ KN 16 52 ∧ KN 17 52 ∧ KN 18 52 ∧ KN 19 52 ∧ KN 20 52 := by decide +kernel
@[go_sem] theorem dp_52 : isIn 999999 (tabX.keep 52) = false := id rfl
@[go_sem] theorem is_53_0 : KY 2 53 ∧ KY 3 53 ∧ KY 4 53 ∧ KN 5 53 ∧ KN 6 53 ∧ KY 7 53 ∧ KN 8 53 ∧ KN 9 53 ∧ KN 10 53 ∧ KN 11 53 ∧ KN 12 53 ∧ KN 13 53 := by decide +kernel
@[go_sem] theorem dp_53 : isIn 999999 (tabX.keep 53) = false := id rfl
@[go_sem] theorem is_54_0 : KY 2 54 ∧ KY 4 54 ∧ KY 5 54 ∧ KY 6 54 ∧ KN 7 54 ∧ KN 8 54 ∧ KN 9 54 ∧ KN 10 54 ∧ KN 11 54 ∧ KN 12 54 ∧ KN 13 54 ∧ KN 14 54 ∧ KY 15 54 ∧ KN 16 54 ∧ KN 17 54 ∧ KN 18 54 ∧ KN 19 54 ∧ KN 20 54 ∧ KY 21 54 ∧ KN 22 54 ∧ KN 23 54 ∧ KN 24 54 ∧ KN 25 54 ∧ KN 26 54 ∧ KN 27 54 ∧ KN 28 54 ∧ KN 29 54 ∧ KN 30 54 ∧ KN 31 54 ∧ KN 32 54 := by decide +kernel
@[go_sem] theorem is_54_30 : KN 33 54 ∧ KN 34 54 ∧ KN 35 54 ∧ KN 36 54 ∧ KN 37 54 ∧ KN 38 54 ∧ KN 39 54 ∧ KN 40 54 ∧ KN 41 54 ∧ KN 42 54 ∧ KN 43 54 ∧ KN 44 54 ∧ KN 45 54 ∧ KN 46 54 ∧ KN 47 54 ∧ KN 48 54 ∧ KN 49 54 ∧ KY 50 54 ∧ KN 51 54 ∧ KN 52 54 ∧ KN 53 54 ∧ KN 54 54 ∧ KN 55 54 ∧ KN 56 54 ∧ KN 57 54 ∧ KN 58 54 ∧ KN 59 54 ∧ KN 60 54 ∧ KN 61 54 ∧ KN 62 54 := by decide +kernel
@[go_sem] theorem is_54_60 : KN 63 54 ∧ KN 64 54 ∧ KN 65 54 ∧ KY 66 54 := by decide +kernel
@[go_sem] theorem dp_54 : isIn 999999 (tabX.keep 54) = false := id rfl
@[go_sem] theorem is_55_0 : KY 3 55 ∧ KY 6 55 ∧ KN 7 55 ∧ KN 8 55 ∧ KN 9 55 ∧ KN 10 55 ∧ KN 11 55 ∧ KN 12 55 ∧ KN 13 55 ∧ KN 14 55 ∧ KN 15 55 ∧ KN 16 55 ∧ KN 17 55 ∧ KN 18 55 ∧ KN 19 55 ∧ KY 20 55 ∧ KN 21 55 ∧ KN 22 55 ∧ KN 23 55 ∧ KN 24 55 ∧ KY 25 55 := by decide +kernel
@[go_sem] theorem dp_55 : isIn 999999 (tabX.keep 55) = false := id rfl
@[go_sem] theorem is_56_0 : KY 1 56 ∧ KY 2 56 ∧ KN 3 56 ∧ KN 4 56 ∧ KN 5 56 ∧ KN 6 56 ∧ KN 7 56 ∧ KN 8 56 ∧ KN 9 56 ∧ KN 10 56 ∧ KN 11 56 ∧ KY 12 56 := by decide +kernel
@[go_sem] theorem dp_56 : isIn 999999 (tabX.keep 56) = false := id rfl
@[go_sem] theorem is_57_0 : KY 2 57 ∧ KN 3 57 ∧ KN 4 57 ∧ KN 5 57 ∧ KN 6 57 ∧ KN 7 57 ∧ KN 8 57 ∧ KN 9 57 ∧ KN 10 57 ∧ KN 11 57 ∧ KN 12 57 ∧ KN 13 57 ∧ KN 14 57 := by decide +kernel
@[go_sem] theorem dp_57 : isIn 999999 (tabX.keep 57) = false := id rfl
@[go_sem] theorem is_58_0 : KY 1 58 ∧ KY 2 58 ∧ KY 3 58 ∧ KY 4 58 ∧ KY 5 58 ∧ KY 6 58 ∧ KY 7 58 ∧ KN 8 58 ∧ KN 9 58 ∧ KN 10 58 ∧ KN 11 58 ∧ KN 12 58 ∧ KN 13 58 ∧ KY 14 58 ∧ KN 15 58 ∧ KN 16 58 ∧ KY 17 58 ∧ KY 18 58 ∧ KN 19 58 ∧ KN 20 58 ∧ KN 21 58 ∧ KN 22 58 ∧ KN 23 58 ∧ KN 24 58 ∧ KY 25 58 ∧ KN 26 58 ∧ KN 27 58 ∧ KN 28 58 ∧ KN 29 58 ∧ KN 30 58 := by decide +kernel
@[go_sem] theorem is_58_30 : KN 31 58 ∧ KN 32 58 ∧ KN 33 58 ∧ KN 34 58 ∧ KN 35 58 ∧ KN 36 58 := by decide +kernel
@[go_sem] theorem dp_58 : isIn 999999 (tabX.keep 58) = false := id rfl
@[go_sem] theorem is_59_0 : KY 2 59 ∧ KY 3 59 ∧ KY 4 59 ∧ KY 5 59 ∧ KY 6 59 ∧ KY 7 59 ∧ KN 8 59 ∧ KN 9 59 ∧ KN 10 59 ∧ KN 11 59 ∧ KN 12 59 ∧ KN 13 59 ∧ KN 14 59 ∧ KN 15 59 ∧ KN 16 59 ∧ KN 17 59 ∧ KN 18 59 ∧ KY 19 59 ∧ KN 20 59 ∧ KN 21 59 ∧ KN 22 59 ∧ KN 23 59 ∧ KN 24 59 := by decide +kernel
@[go_sem] theorem dp_59 : isIn 999999 (tabX.keep 59) = false := id rfl
@[go_sem] theorem is_60_0 : KY 2 60 ∧ KY 4 60 ∧ KY 5 60 ∧ KN 6 60 ∧ KN 7 60 ∧ KY 8 60 ∧ KY 9 60 ∧ KY 10 60 ∧ KY 11 60 ∧ KY 12 60 ∧ KY 13 60 ∧ KY 14 60 ∧ KN 15 60 ∧ KN 16 60 ∧ KN 17 60 ∧ KN 18 60 ∧ KN 19 60 ∧ KN 20 60 ∧ KN 21 60 ∧ KY 22 60 ∧ KN 23 60 ∧ KN 24 60 ∧ KN 25 60 ∧ KN 26 60 ∧ KN 27 60 ∧ KN 28 60 ∧ KN 29 60 ∧ KY 30 60 ∧ KN 31 60 ∧ KN 32 60 := by decide +kernel
@[go_sem] theorem is_60_30 : KN 33 60 ∧ KN 34 60 ∧ KN 35 60 ∧ KN 36 60 ∧ KN 37 60 ∧ KY 38 60 ∧ KN 39 60 ∧ KN 40 60 ∧ KN 41 60 ∧ KN 42 60 ∧ KN 43 60 ∧ KN 44 60 ∧ KN 45 60 ∧ KN 46 60 ∧ KY 47 60 ∧ KN 48 60 ∧ KN 49 60 ∧ KY 50 60 ∧ KY 51 60 ∧ KN 52 60 ∧ KN 53 60 ∧ KN 54 60 ∧ KN 55 60 ∧ KN 56 60 ∧ KN 57 60 ∧ KN 58 60 ∧ KN 59 60 ∧ KY 60 60 ∧ KN 61 60 ∧ KN 62 60 := by decide +kernel
@[go_sem] theorem is_60_60 : KY 63 60 ∧ KY 64 60 ∧ KN 65 60 ∧ KN 66 60 ∧ KY 67 60 ∧ KN 68 60 := by decide +kernel
@[go_sem] theorem dp_60 : isIn 999999 (tabX.keep 60) = false := id rfl
@[go_sem] theorem is_61_0 : KY 1 61 ∧ KY 2 61 ∧ KY 3 61 ∧ KY 4 61 ∧ KY 5 61 ∧ KY 6 61 ∧ KN 7 61 ∧ KN 8 61 ∧ KN 9 61 ∧ KN 10 61 ∧ KN 11 61 ∧ KN 12 61 ∧ KN 13 61 ∧ KY 14 61 ∧ KN 15 61 ∧ KN 16 61 ∧ KN 17 61 ∧ KN 18 61 ∧ KY 19 61 ∧ KY 20 61 ∧ KY 21 61 ∧ KN 22 61 ∧ KN 23 61 ∧ KN 24 61 ∧ KN 25 61 ∧ KN 26 61 ∧ KN 27 61 ∧ KN 28 61 ∧ KN 29 61 ∧ KN 30 61 := by decide +kernel
@[go_sem] theorem is_61_30 : KN 31 61 ∧ KN 32 61 ∧ KN 33 61 ∧ KN 34 61 ∧ KN 35 61 ∧ KN 36 61 ∧ KN 37 61 ∧ KN 38 61 ∧ KN 39 61 ∧ KN 40 61 ∧ KN 41 61 ∧ KN 42 61 ∧ KN 43 61 ∧ KN 44 61 ∧ KN 45 61 ∧ KN 46 61 ∧ KN 47 61 ∧ KY 48 61 ∧ KN 49 61 ∧ KN 50 61 ∧ KN 51 61 ∧ KY 52 61 ∧ KN 53 61 ∧ KN 54 61 ∧ KN 55 61 ∧ KY 56 61 ∧ KN 57 61 := by decide +kernel
@[go_sem] theorem dp_61 : isIn 999999 (tabX.keep 61) = false := id rfl
@[go_sem] theorem is_62_0 : KY 2 62 ∧ KY 3 62 ∧ KY 4 62 ∧ KY 5 62 ∧ KY 6 62 ∧ KY 7 62 ∧ KN 8 62 ∧ KN 9 62 ∧ KN 10 62 ∧ KN 11 62 ∧ KN 12 62 ∧ KN 13 62 ∧ KN 14 62 ∧ KN 15 62 ∧ KN 16 62 ∧ KN 17 62 ∧ KN 18 62 ∧ KN 19 62 ∧ KY 20 62 ∧ KN 21 62 ∧ KN 22 62 ∧ KN 23 62 ∧ KN 24 62 ∧ KN 25 62 := by decide +kernel
@[go_sem] theorem dp_62 : isIn 999999 (tabX.keep 62) = false := id rfl
@[go_sem] theorem is_63_0 : KY 4 63 ∧ KN 5 63 ∧ KN 6 63 ∧ KN 7 63 := by decide +kernel
@[go_sem] theorem dp_63 : isIn 999999 (tabX.keep 63) = false := id rfl
@[go_sem] theorem is_64_0 : KY 0 64 ∧ KY 4 64 ∧ KY 5 64 ∧ KN 6 64 ∧ KN 7 64 ∧ KY 8 64 ∧ KN 9 64 ∧ KN 10 64 ∧ KN 11 64 ∧ KN 12 64 ∧ KN 13 64 ∧ KN 14 64 ∧ KN 15 64 := by decide +kernel
@[go_sem] theorem dp_64 : isIn 999999 (tabX.keep 64) = false := id rfl
@[go_sem] theorem is_65_0 : KY 2 65 ∧ KY 4 65 ∧ KY 5 65 ∧ KY 6 65 ∧ KN 7 65 ∧ KN 8 65 ∧ KN 9 65 ∧ KN 10 65 ∧ KN 11 65 ∧ KN 12 65 ∧ KN 13 65 ∧ KN 14 65 ∧ KN 15 65 ∧ KN 16 65 ∧ KY 17 65 ∧ KN 18 65 ∧ KN 19 65 ∧ KN 20 65 ∧ KN 21 65 ∧ KN 22 65 ∧ KN 23 65 ∧ KN 24 65 ∧ KN 25 65 ∧ KN 26 65 ∧ KN 27 65 ∧ KN 28 65 ∧ KN 29 65 ∧ KN 30 65 ∧ KN 31 65 ∧ KN 32 65 := by decide +kernel
@[go_sem] theorem is_65_30 : KN 33 65 ∧ KN 34 65 ∧ KN 35 65 ∧ KN 36 65 ∧ KN 37 65 ∧ KN 38 65 ∧ KN 39 65 ∧ KN 40 65 := by decide +kernel
@[go_sem] theorem dp_65 : isIn 999999 (tabX.keep 65) = false := id rfl
@[go_sem] theorem is_66_0 : KY 2 66 ∧ KY 4 66 ∧ KN 5 66 ∧ KN 6 66 ∧ KN 7 66 ∧ KN 8 66 ∧ KY 9 66 ∧ KN 10 66 ∧ KY 11 66 ∧ KY 12 66 ∧ KN 13 66 ∧ KN 14 66 ∧ KN 15 66 ∧ KN 16 66 ∧ KN 17 66 ∧ KN 18 66 ∧ KN 19 66 ∧ KN 20 66 ∧ KN 21 66 ∧ KY 22 66 ∧ KN 23 66 ∧ KN 24 66 ∧ KN 25 66 ∧ KN 26 66 ∧ KN 27 66 ∧ KN 28 66 ∧ KN 29 66 ∧ KN 30 66 ∧ KN 31 66 ∧ KY 32 66 := by decide +kernel
@[go_sem] theorem is_66_30 : KN 33 66 ∧ KN 34 66 ∧ KN 35 66 ∧ KN 36 66 ∧ KN 37 66 ∧ KN 38 66 ∧ KN 39 66 ∧ KN 40 66 ∧ KN 41 66 ∧ KN 42 66 ∧ KN 43 66 ∧ KN 44 66 ∧ KN 45 66 ∧ KN 46 66 ∧ KN 47 66 ∧ KN 48 66 ∧ KN 49 66 ∧ KN 50 66 ∧ KN 51 66 ∧ KN 52 66 ∧ KN 53 66 ∧ KN 54 66 ∧ KN 55 66 ∧ KN 56 66 ∧ KN 57 66 ∧ KN 58 66 ∧ KN 59 66 ∧ KN 60 66 ∧ KN 61 66 ∧ KN 62 66 := by decide +kernel
@[go_sem] theorem is_66_60 : KN 63 66 ∧ KN 64 66 ∧ KN 65 66 ∧ KN 66 66 ∧ KN 67 66 ∧ KN 68 66 ∧ KN 69 66 := by decide +kernel
@[go_sem] theorem dp_66 : isIn 999999 (tabX.keep 66) = false := id rfl
@[go_sem] theorem is_67_0 : KY 1 67 ∧ KY 2 67 ∧ KY 3 67 ∧ KY 4 67 ∧ KY 5 67 ∧ KY 6 67 ∧ KY 7 67 ∧ KN 8 67 ∧ KN 9 67 ∧ KN 10 67 ∧ KN 11 67 ∧ KY 12 67 ∧ KN 13 67 ∧ KN 14 67 ∧ KN 15 67 ∧ KN 16 67 ∧ KN 17 67 ∧ KY 18 67 ∧ KN 19 67 ∧ KN 20 67 ∧ KN 21 67 ∧ KN 22 67 ∧ KN 23 67 ∧ KN 24 67 ∧ KN 25 67 ∧ KN 26 67 ∧ KN 27 67 ∧ KN 28 67 ∧ KN 29 67 ∧ KN 30 67 := by decide +kernel
@[go_sem] theorem is_67_30 : KN 31 67 ∧ KN 32 67 ∧ KN 33 67 ∧ KY 34 67 ∧ KN 35 67 ∧ KN 36 67 ∧ KN 37 67 ∧ KN 38 67 ∧ KN 39 67 ∧ KN 40 67 ∧ KN 41 67 ∧ KN 42 67 ∧ KN 43 67 ∧ KN 44 67 ∧ KN 45 67 ∧ KN 46 67 ∧ KN 47 67 ∧ KN 48 67 ∧ KN 49 67 ∧ KN 50 67 ∧ KN 51 67 ∧ KN 52 67 ∧ KN 53 67 ∧ KN 54 67 ∧ KN 55 67 ∧ KN 56 67 ∧ KY 57 67 ∧ KN 58 67 ∧ KN 59 67 ∧ KN 60 67 := by decide +kernel
@[go_sem] theorem is_67_60 : KN 61 67 ∧ KN 62 67 ∧ KN 63 67 ∧ KN 64 67 ∧ KN 65 67 ∧ KN 66 67 ∧ KN 67 67 ∧ KN 68 67 ∧ KN 69 67 ∧ KN 70 67 ∧ KN 71 67 := by decide +kernel
@[go_sem] theorem dp_67 : isIn 999999 (tabX.keep 67) = false := id rfl
@[go_sem] theorem is_68_0 : KY 3 68 ∧ KY 4 68 ∧ KY 6 68 ∧ KN 7 68 ∧ KN 8 68 ∧ KN 9 68 ∧ KN 10 68 ∧ KN 11 68 ∧ KN 12 68 ∧ KN 13 68 ∧ KN 14 68 ∧ KN 15 68 ∧ KN 16 68 ∧ KN 17 68 ∧ KN 18 68 ∧ KN 19 68 ∧ KN 20 68 ∧ KN 21 68 ∧ KN 22 68 ∧ KN 23 68 ∧ KN 24 68 ∧ KN 25 68 ∧ KN 26 68 ∧ KN 27 68 ∧ KN 28 68 := by decide +kernel
@[go_sem] theorem dp_68 : isIn 999999 (tabX.keep 68) = false := id rfl
@[go_sem] theorem is_69_0 : KY 3 69 ∧ KY 6 69 ∧ KY 7 69 ∧ KN 8 69 ∧ KN 9 69 ∧ KY 10 69 ∧ KY 11 69 ∧ KY 12 69 ∧ KN 13 69 ∧ KN 14 69 ∧ KN 15 69 ∧ KN 16 69 ∧ KN 17 69 ∧ KN 18 69 ∧ KN 19 69 ∧ KY 20 69 ∧ KN 21 69 ∧ KN 22 69 ∧ KN 23 69 ∧ KN 24 69 ∧ KY 25 69 ∧ KN 26 69 ∧ KN 27 69 ∧ KN 28 69 ∧ KN 29 69 ∧ KN 30 69 ∧ KN 31 69 ∧ KY 32 69 ∧ KN 33 69 := by decide +kernel
@[go_sem] theorem dp_69 : isIn 999999 (tabX.keep 69) = false := id rfl
@[go_sem] theorem is_70_0 : KY 4 70 ∧ KY 5 70 ∧ KN 6 70 ∧ KN 7 70 ∧ KN 8 70 ∧ KN 9 70 ∧ KN 10 70 ∧ KN 11 70 ∧ KN 12 70 ∧ KN 13 70 ∧ KN 14 70 ∧ KN 15 70 ∧ KN 16 70 ∧ KN 17 70 ∧ KN 18 70 ∧ KN 19 70 ∧ KN 20 70 ∧ KN 21 70 ∧ KY 22 70 ∧ KN 23 70 := by decide +kernel
@[go_sem] theorem dp_70 : isIn 999999 (tabX.keep 70) = false := id rfl
@[go_sem] theorem is_71_0 : KY 1 71 ∧ KY 2 71 ∧ KN 3 71 := by decide +kernel
@[go_sem] theorem dp_71 : isIn 999999 (tabX.keep 71) = false := id rfl
@[go_sem] theorem is_72_0 : KY 3 72 ∧ KY 4 72 ∧ KY 6 72 ∧ KN 7 72 ∧ KN 8 72 ∧ KN 9 72 := by decide +kernel
@[go_sem] theorem dp_72 : isIn 999999 (tabX.keep 72) = false := id rfl
@[go_sem] theorem is_73_0 : KY 3 73 ∧ KY 4 73 ∧ KY 5 73 ∧ KY 6 73 ∧ KY 7 73 ∧ KY 8 73 ∧ KN 9 73 ∧ KY 10 73 ∧ KY 11 73 ∧ KN 12 73 ∧ KN 13 73 ∧ KN 14 73 ∧ KY 15 73 ∧ KN 16 73 ∧ KN 17 73 ∧ KN 18 73 ∧ KN 19 73 ∧ KN 20 73 ∧ KN 21 73 ∧ KN 22 73 ∧ KN 23 73 ∧ KN 24 73 ∧ KN 25 73 ∧ KN 26 73 ∧ KN 27 73 ∧ KN 28 73 ∧ KN 29 73 ∧ KY 30 73 ∧ KN 31 73 ∧ KN 32 73 := by decide +kernel
@[go_sem] theorem dp_73 : isIn 999999 (tabX.keep 73) = false := id rfl
@[go_sem] theorem is_74_0 : KY 5 74 ∧ KY 6 74 ∧ KN 7 74 ∧ KN 8 74 ∧ KN 9 74 ∧ KN 10 74 ∧ KN 11 74 ∧ KN 12 74 ∧ KN 13 74 ∧ KN 14 74 := by decide +kernel
@[go_sem] theorem dp_74 : isIn 999999 (tabX.keep 74) = false := id rfl
@[go_sem] theorem is_75_0 : KY 3 75 ∧ KY 4 75 ∧ KY 5 75 ∧ KY 6 75 ∧ KY 7 75 ∧ KY 8 75 ∧ KN 9 75 ∧ KN 10 75 ∧ KN 11 75 ∧ KN 12 75 ∧ KN 13 75 ∧ KN 14 75 ∧ KN 15 75 ∧ KN 16 75 ∧ KN 17 75 ∧ KN 18 75 ∧ KN 19 75 ∧ KN 20 75 ∧ KN 21 75 ∧ KY 22 75 ∧ KN 23 75 ∧ KN 24 75 ∧ KN 25 75 ∧ KN 26 75 ∧ KN 27 75 ∧ KN 28 75 ∧ KN 29 75 ∧ KN 30 75 ∧ KN 31 75 ∧ KY 32 75 := by decide +kernel
@[go_sem] theorem is_75_30 : KN 33 75 ∧ KN 34 75 ∧ KN 35 75 ∧ KN 36 75 ∧ KN 37 75 ∧ KN 38 75 ∧ KN 39 75 ∧ KN 40 75 ∧ KN 41 75 ∧ KN 42 75 ∧ KN 43 75 ∧ KN 44 75 ∧ KN 45 75 ∧ KN 46 75 ∧ KN 47 75 ∧ KN 48 75 ∧ KN 49 75 ∧ KN 50 75 ∧ KN 51 75 ∧ KN 52 75 ∧ KN 53 75 ∧ KN 54 75 ∧ KN 55 75 ∧ KN 56 75 ∧ KN 57 75 := by decide +kernel
@[go_sem] theorem dp_75 : isIn 999999 (tabX.keep 75) = false := id rfl
@[go_sem] theorem is_76_0 : KY 3 76 ∧ KY 4 76 ∧ KN 5 76 ∧ KN 6 76 ∧ KN 7 76 ∧ KN 8 76 ∧ KN 9 76 ∧ KN 10 76 ∧ KN 11 76 ∧ KN 12 76 ∧ KN 13 76 ∧ KN 14 76 ∧ KN 15 76 ∧ KN 16 76 ∧ KY 17 76 ∧ KN 18 76 := by decide +kernel
@[go_sem] theorem dp_76 : isIn 999999 (tabX.keep 76) = false := id rfl
@[go_sem] theorem is_77_0 : KY 2 77 ∧ KY 3 77 ∧ KN 4 77 ∧ KN 5 77 ∧ KN 6 77 := by decide +kernel
@[go_sem] theorem dp_77 : isIn 999999 (tabX.keep 77) = false := id rfl
@[go_sem] theorem is_78_0 : KY 4 78 ∧ KY 5 78 ∧ KN 6 78 ∧ KN 7 78 ∧ KN 8 78 ∧ KN 9 78 ∧ KN 10 78 ∧ KN 11 78 ∧ KN 12 78 ∧ KN 13 78 ∧ KN 14 78 ∧ KN 15 78 ∧ KN 16 78 ∧ KY 17 78 ∧ KN 18 78 ∧ KN 19 78 ∧ KN 20 78 ∧ KN 21 78 ∧ KN 22 78 ∧ KY 23 78 ∧ KN 24 78 := by decide +kernel
@[go_sem] theorem dp_78 : isIn 999999 (tabX.keep 78) = false := id rfl
@[go_sem] theorem is_79_0 : KY 2 79 ∧ KY 3 79 ∧ KY 4 79 ∧ KY 5 79 ∧ KN 6 79 ∧ KN 7 79 ∧ KN 8 79 ∧ KN 9 79 ∧ KN 10 79 ∧ KN 11 79 ∧ KY 12 79 ∧ KN 13 79 ∧ KN 14 79 ∧ KN 15 79 ∧ KN 16 79 ∧ KN 17 79 ∧ KN 18 79 ∧ KN 19 79 ∧ KN 20 79 ∧ KN 21 79 ∧ KN 22 79 ∧ KN 23 79 ∧ KN 24 79 ∧ KN 25 79 ∧ KN 26 79 ∧ KN 27 79 ∧ KN 28 79 ∧ KN 29 79 ∧ KN 30 79 ∧ KN 31 79 := by decide +kernel
@[go_sem] theorem is_79_30 : KN 32 79 ∧ KN 33 79 ∧ KN 34 79 ∧ KN 35 79 ∧ KN 36 79 ∧ KN 37 79 ∧ KN 38 79 ∧ KN 39 79 ∧ KN 40 79 ∧ KN 41 79 := by decide +kernel
@[go_sem] theorem dp_79 : isIn 999999 (tabX.keep 79) = false := id rfl
@[go_sem] theorem is_82_0 : KY 2 82 ∧ KY 3 82 ∧ KN 4 82 ∧ KN 5 82 ∧ KN 6 82 ∧ KN 7 82 ∧ KN 8 82 ∧ KY 9 82 ∧ KY 10 82 ∧ KY 11 82 ∧ KN 12 82 ∧ KN 13 82 ∧ KN 14 82 ∧ KN 15 82 ∧ KY 16 82 ∧ KN 17 82 ∧ KN 18 82 ∧ KN 19 82 ∧ KN 20 82 ∧ KN 21 82 ∧ KN 22 82 := by decide +kernel
@[go_sem] theorem dp_82 : isIn 999999 (tabX.keep 82) = false := id rfl
@[go_sem] theorem is_83_0 : KY 4 83 ∧ KY 5 83 ∧ KY 6 83 ∧ KY 7 83 ∧ KN 8 83 ∧ KY 9 83 ∧ KY 10 83 ∧ KY 11 83 ∧ KN 12 83 ∧ KN 13 83 ∧ KN 14 83 ∧ KN 15 83 ∧ KN 16 83 ∧ KN 17 83 ∧ KN 18 83 ∧ KN 19 83 ∧ KN 20 83 ∧ KN 21 83 ∧ KN 22 83 ∧ KN 23 83 ∧ KN 24 83 ∧ KN 25 83 ∧ KN 26 83 ∧ KN 27 83 ∧ KN 28 83 ∧ KN 29 83 ∧ KN 30 83 ∧ KN 31 83 ∧ KN 32 83 ∧ KN 33 83 := by decide +kernel
@[go_sem] theorem is_83_30 : KN 34 83 ∧ KN 35 83 ∧ KY 36 83 ∧ KN 37 83 ∧ KN 38 83 ∧ KY 39 83 ∧ KN 40 83 ∧ KN 41 83 ∧ KN 42 83 ∧ KN 43 83 := by decide +kernel
@[go_sem] theorem dp_83 : isIn 999999 (tabX.keep 83) = false := id rfl
@[go_sem] theorem is_84_0 : KY 4 84 ∧ KY 5 84 ∧ KN 6 84 ∧ KN 7 84 ∧ KN 8 84 ∧ KN 9 84 ∧ KN 10 84 ∧ KN 11 84 ∧ KY 12 84 ∧ KN 13 84 ∧ KN 14 84 ∧ KN 15 84 ∧ KN 16 84 ∧ KN 17 84 ∧ KN 18 84 ∧ KN 19 84 ∧ KN 20 84 ∧ KN 21 84 ∧ KN 22 84 ∧ KN 23 84 ∧ KN 24 84 ∧ KN 25 84 ∧ KN 26 84 ∧ KN 27 84 := by decide +kernel
@[go_sem] theorem dp_84 : isIn 999999 (tabX.keep 84) = false := id rfl
@[go_sem] theorem is_85_0 : KY 2 85 ∧ KY 4 85 ∧ KY 5 85 ∧ KY 6 85 ∧ KY 7 85 ∧ KY 8 85 ∧ KY 9 85 ∧ KN 10 85 ∧ KN 11 85 ∧ KN 12 85 ∧ KN 13 85 ∧ KN 14 85 ∧ KN 15 85 ∧ KY 16 85 ∧ KY 17 85 ∧ KY 18 85 ∧ KY 19 85 ∧ KN 20 85 ∧ KN 21 85 ∧ KN 22 85 ∧ KN 23 85 ∧ KY 24 85 ∧ KN 25 85 ∧ KN 26 85 ∧ KN 27 85 ∧ KN 28 85 ∧ KN 29 85 ∧ KN 30 85 ∧ KN 31 85 ∧ KN 32 85 := by decide +kernel
@[go_sem] theorem is_85_30 : KN 33 85 ∧ KN 34 85 ∧ KN 35 85 ∧ KY 36 85 ∧ KY 37 85 ∧ KN 38 85 ∧ KN 39 85 ∧ KN 40 85 ∧ KN 41 85 ∧ KN 42 85 ∧ KN 43 85 ∧ KN 44 85 ∧ KN 45 85 ∧ KN 46 85 ∧ KN 47 85 ∧ KY 48 85 ∧ KY 49 85 ∧ KY 50 85 ∧ KN 51 85 ∧ KN 52 85 ∧ KN 53 85 ∧ KN 54 85 ∧ KN 55 85 ∧ KN 56 85 ∧ KN 57 85 ∧ KN 58 85 ∧ KN 59 85 ∧ KN 60 85 ∧ KN 61 85 ∧ KN 62 85 := by decide +kernel
@[go_sem] theorem is_85_60 : KN 63 85 ∧ KN 64 85 ∧ KN 65 85 ∧ KN 66 85 ∧ KN 67 85 := by decide +kernel
@[go_sem] theorem dp_85 : isIn 999999 (tabX.keep 85) = false := id rfl
@[go_sem] theorem is_86_0 : KY 4 86 ∧ KN 5 86 ∧ KN 6 86 ∧ KN 7 86 ∧ KN 8 86 := by decide +kernel
@[go_sem] theorem dp_86 : isIn 999999 (tabX.keep 86) = false := id rfl
@[go_sem] theorem is_88_0 : KY 3 88 ∧ KY 4 88 ∧ KN 5 88 ∧ KN 6 88 ∧ KN 7 88 ∧ KN 8 88 ∧ KY 9 88 ∧ KN 10 88 ∧ KY 11 88 ∧ KN 12 88 ∧ KN 13 88 ∧ KN 14 88 ∧ KN 15 88 ∧ KN 16 88 ∧ KY 17 88 := by decide +kernel
@[go_sem] theorem dp_88 : isIn 999999 (tabX.keep 88) = false := id rfl
@[go_sem] theorem is_89_0 : KY 4 89 ∧ KY 6 89 ∧ KY 7 89 ∧ KY 8 89 ∧ KY 9 89 ∧ KN 10 89 ∧ KN 11 89 ∧ KN 12 89 ∧ KN 13 89 ∧ KY 14 89 ∧ KY 15 89 ∧ KY 16 89 ∧ KY 17 89 ∧ KN 18 89 ∧ KN 19 89 ∧ KN 20 89 ∧ KN 21 89 ∧ KN 22 89 ∧ KN 23 89 ∧ KN 24 89 ∧ KY 25 89 ∧ KN 26 89 ∧ KN 27 89 ∧ KN 28 89 ∧ KN 29 89 ∧ KN 30 89 ∧ KN 31 89 ∧ KN 32 89 ∧ KN 33 89 ∧ KN 34 89 := by decide +kernel
@[go_sem] theorem is_89_30 : KN 35 89 ∧ KN 36 89 ∧ KN 37 89 ∧ KN 38 89 ∧ KN 39 89 ∧ KY 40 89 ∧ KN 41 89 ∧ KN 42 89 ∧ KN 43 89 ∧ KN 44 89 ∧ KN 45 89 ∧ KN 46 89 := by decide +kernel
@[go_sem] theorem dp_89 : isIn 999999 (tabX.keep 89) = false := id rfl
@[go_sem] theorem is_93_0 : KY 1 93 ∧ KY 2 93 ∧ KY 3 93 ∧ KY 4 93 ∧ KN 5 93 ∧ KN 6 93 ∧ KN 7 93 ∧ KN 8 93 ∧ KN 9 93 ∧ KN 10 93 ∧ KN 11 93 ∧ KN 12 93 ∧ KY 13 93 ∧ KN 14 93 ∧ KN 15 93 ∧ KN 16 93 ∧ KN 17 93 ∧ KN 18 93 ∧ KN 19 93 ∧ KN 20 93 ∧ KN 21 93 ∧ KN 22 93 ∧ KN 23 93 ∧ KY 24 93 ∧ KN 25 93 ∧ KN 26 93 ∧ KN 27 93 ∧ KN 28 93 ∧ KN 29 93 ∧ KN 30 93 := by decide +kernel
@[go_sem] theorem is_93_30 : KN 31 93 ∧ KN 32 93 ∧ KN 33 93 ∧ KN 34 93 ∧ KY 35 93 ∧ KN 36 93 ∧ KN 37 93 ∧ KN 38 93 ∧ KN 39 93 ∧ KN 40 93 ∧ KN 41 93 ∧ KN 42 93 ∧ KN 43 93 ∧ KN 44 93 ∧ KN 45 93 ∧ KY 46 93 ∧ KN 47 93 ∧ KN 48 93 := by decide +kernel
@[go_sem] theorem dp_93 : isIn 999999 (tabX.keep 93) = false := id rfl
@[go_sem] theorem is_94_0 : KY 3 94 ∧ KY 4 94 ∧ KY 6 94 ∧ KN 7 94 ∧ KN 8 94 ∧ KN 9 94 := by decide +kernel
@[go_sem] theorem dp_94 : isIn 999999 (tabX.keep 94) = false := id rfl
@[go_sem] theorem is_95_0 : KY 4 95 ∧ KY 5 95 ∧ KY 6 95 ∧ KN 7 95 ∧ KN 8 95 ∧ KN 9 95 ∧ KN 10 95 ∧ KY 11 95 ∧ KY 12 95 ∧ KY 13 95 ∧ KN 14 95 ∧ KN 15 95 ∧ KY 16 95 ∧ KN 17 95 ∧ KN 18 95 ∧ KY 19 95 := by decide +kernel
@[go_sem] theorem dp_95 : isIn 999999 (tabX.keep 95) = false := id rfl
@[go_sem] theorem is_97_0 : isIn 0 (tabX.keep 97) = true := id rfl
@[go_sem] theorem dp_97 : isIn 999999 (tabX.keep 97) = false := id rfl
@[go_sem] theorem is_98_0 : KY 1 98 ∧ KY 2 98 ∧ KN 3 98 := by decide +kernel
@[go_sem] theorem dp_98 : isIn 999999 (tabX.keep 98) = false := id rfl
@[go_sem] theorem is_99_0 : KY 2 99 ∧ KY 3 99 ∧ KN 4 99 ∧ KN 5 99 ∧ KN 6 99 := by decide +kernel
@[go_sem] theorem dp_99 : isIn 999999 (tabX.keep 99) = false := id rfl
@[go_sem] theorem is_100_0 : KY 1 100 ∧ KY 2 100 ∧ KY 3 100 ∧ KY 4 100 ∧ KY 5 100 ∧ KN 6 100 ∧ KN 7 100 ∧ KN 8 100 ∧ KN 9 100 ∧ KY 10 100 ∧ KN 11 100 ∧ KN 12 100 ∧ KN 13 100 ∧ KN 14 100 ∧ KN 15 100 ∧ KN 16 100 ∧ KN 17 100 ∧ KN 18 100 ∧ KN 19 100 ∧ KN 20 100 ∧ KN 21 100 ∧ KN 22 100 ∧ KY 23 100 ∧ KN 24 100 ∧ KN 25 100 ∧ KN 26 100 ∧ KN 27 100 ∧ KY 28 100 ∧ KN 29 100 ∧ KN 30 100 := by decide +kernel
@[go_sem] theorem is_100_30 : KN 31 100 ∧ KN 32 100 ∧ KY 33 100 ∧ KN 34 100 ∧ KN 35 100 ∧ KN 36 100 ∧ KN 37 100 ∧ KN 38 100 ∧ KN 39 100 ∧ KN 40 100 ∧ KN 41 100 ∧ KN 42 100 ∧ KN 43 100 ∧ KN 44 100 ∧ KY 45 100 ∧ KN 46 100 ∧ KN 47 100 ∧ KN 48 100 ∧ KN 49 100 ∧ KY 50 100 ∧ KN 51 100 ∧ KN 52 100 ∧ KN 53 100 ∧ KN 54 100 ∧ KN 55 100 ∧ KN 56 100 ∧ KN 57 100 ∧ KN 58 100 ∧ KN 59 100 ∧ KN 60 100 := by decide +kernel
@[go_sem] theorem is_100_60 : KN 61 100 ∧ KN 62 100 ∧ KY 63 100 ∧ KN 64 100 ∧ KN 65 100 := by decide +kernel
@[go_sem] theorem dp_100 : isIn 999999 (tabX.keep 100) = false := id rfl
@[go_sem] theorem is_101_0 : KY 4 101 ∧ KY 5 101 ∧ KY 6 101 ∧ KN 7 101 ∧ KN 8 101 ∧ KN 9 101 ∧ KN 10 101 ∧ KN 11 101 ∧ KN 12 101 ∧ KN 13 101 ∧ KN 14 101 ∧ KN 15 101 ∧ KN 16 101 ∧ KN 17 101 := by decide +kernel
@[go_sem] theorem dp_101 : isIn 999999 (tabX.keep 101) = false := id rfl
@[go_sem] theorem is_102_0 : KY 4 102 ∧ KY 5 102 ∧ KY 6 102 ∧ KY 7 102 ∧ KY 8 102 ∧ KN 9 102 ∧ KN 10 102 ∧ KN 11 102 ∧ KN 12 102 ∧ KN 13 102 ∧ KY 14 102 ∧ KN 15 102 ∧ KN 16 102 ∧ KN 17 102 ∧ KN 18 102 ∧ KN 19 102 ∧ KN 20 102 := by decide +kernel
@[go_sem] theorem dp_102 : isIn 999999 (tabX.keep 102) = false := id rfl
@[go_sem] theorem is_103_0 : KY 2 103 ∧ KY 4 103 ∧ KY 5 103 ∧ KN 6 103 ∧ KN 7 103 ∧ KN 8 103 ∧ KN 9 103 ∧ KN 10 103 ∧ KN 11 103 ∧ KN 12 103 ∧ KN 13 103 ∧ KN 14 103 ∧ KN 15 103 ∧ KN 16 103 ∧ KN 17 103 ∧ KN 18 103 ∧ KN 19 103 ∧ KN 20 103 ∧ KN 21 103 ∧ KN 22 103 ∧ KN 23 103 ∧ KN 24 103 ∧ KN 25 103 ∧ KN 26 103 := by decide +kernel
@[go_sem] theorem dp_103 : isIn 999999 (tabX.keep 103) = false := id rfl
@[go_sem] theorem is_104_0 : KY 2 104 ∧ KN 3 104 ∧ KY 4 104 ∧ KN 5 104 := by decide +kernel
@[go_sem] theorem dp_104 : isIn 999999 (tabX.keep 104) = false := id rfl
@[go_sem] theorem is_105_0 : KY 4 105 ∧ KY 5 105 ∧ KY 7 105 ∧ KN 8 105 ∧ KY 9 105 ∧ KY 10 105 ∧ KY 11 105 ∧ KY 12 105 ∧ KN 13 105 ∧ KN 14 105 ∧ KN 15 105 ∧ KN 16 105 ∧ KN 17 105 ∧ KY 18 105 ∧ KN 19 105 ∧ KN 20 105 ∧ KN 21 105 ∧ KN 22 105 ∧ KN 23 105 ∧ KN 24 105 ∧ KN 25 105 ∧ KN 26 105 := by decide +kernel
@[go_sem] theorem dp_105 : isIn 999999 (tabX.keep 105) = false := id rfl
@[go_sem] theorem is_106_0 : KY 1 106 ∧ KY 2 106 ∧ KN 3 106 ∧ KN 4 106 ∧ KN 5 106 ∧ KN 6 106 ∧ KY 7 106 ∧ KN 8 106 ∧ KN 9 106 ∧ KN 10 106 ∧ KN 11 106 ∧ KN 12 106 ∧ KN 13 106 ∧ KN 14 106 ∧ KN 15 106 ∧ KN 16 106 ∧ KN 17 106 ∧ KN 18 106 ∧ KN 19 106 ∧ KN 20 106 ∧ KY 21 106 := by decide +kernel
@[go_sem] theorem dp_106 : isIn 999999 (tabX.keep 106) = false := id rfl
@[go_sem] theorem is_107_0 : KY 4 107 ∧ KN 5 107 ∧ KN 6 107 ∧ KN 7 107 ∧ KN 8 107 := by decide +kernel
@[go_sem] theorem dp_107 : isIn 999999 (tabX.keep 107) = false := id rfl
@[go_sem] theorem is_108_0 : KY 4 108 ∧ KN 5 108 ∧ KN 6 108 ∧ KN 7 108 ∧ KN 8 108 ∧ KN 9 108 ∧ KN 10 108 ∧ KN 11 108 ∧ KN 12 108 := by decide +kernel
@[go_sem] theorem dp_108 : isIn 999999 (tabX.keep 108) = false := id rfl
@[go_sem] theorem is_110_0 : KY 1 110 ∧ KY 2 110 ∧ KN 3 110 := by decide +kernel
@[go_sem] theorem dp_110 : isIn 999999 (tabX.keep 110) = false := id rfl
@[go_sem] theorem is_111_0 : KY 3 111 ∧ KY 4 111 ∧ KY 5 111 ∧ KY 6 111 ∧ KN 7 111 ∧ KN 8 111 ∧ KN 9 111 ∧ KN 10 111 ∧ KY 11 111 ∧ KY 12 111 ∧ KY 13 111 ∧ KY 14 111 ∧ KN 15 111 ∧ KN 16 111 ∧ KN 17 111 ∧ KN 18 111 ∧ KN 19 111 ∧ KN 20 111 ∧ KN 21 111 ∧ KN 22 111 ∧ KN 23 111 ∧ KN 24 111 ∧ KN 25 111 ∧ KN 26 111 ∧ KN 27 111 ∧ KN 28 111 := by decide +kernel
@[go_sem] theorem dp_111 : isIn 999999 (tabX.keep 111) = false := id rfl
@[go_sem] theorem is_112_0 : KY 4 112 ∧ KY 5 112 ∧ KN 6 112 ∧ KY 7 112 ∧ KY 8 112 ∧ KY 9 112 ∧ KN 10 112 ∧ KN 11 112 ∧ KN 12 112 ∧ KN 13 112 ∧ KN 14 112 ∧ KN 15 112 ∧ KY 16 112 ∧ KN 17 112 ∧ KN 18 112 := by decide +kernel
@[go_sem] theorem dp_112 : isIn 999999 (tabX.keep 112) = false := id rfl
@[go_sem] theorem is_123_0 : KY 6 123 ∧ KY 7 123 ∧ KY 8 123 ∧ KY 9 123 ∧ KY 10 123 ∧ KN 11 123 ∧ KN 12 123 ∧ KN 13 123 ∧ KY 14 123 ∧ KY 15 123 ∧ KY 16 123 ∧ KY 17 123 ∧ KY 18 123 ∧ KN 19 123 ∧ KN 20 123 ∧ KN 21 123 ∧ KN 22 123 ∧ KN 23 123 ∧ KN 24 123 ∧ KN 25 123 ∧ KN 26 123 ∧ KY 27 123 ∧ KN 28 123 ∧ KN 29 123 ∧ KN 30 123 := by decide +kernel
@[go_sem] theorem dp_123 : isIn 999999 (tabX.keep 123) = false := id rfl
@[go_sem] theorem is_124_0 : KY 5 124 ∧ KY 6 124 ∧ KN 7 124 ∧ KN 8 124 ∧ KN 9 124 ∧ KY 10 124 ∧ KN 11 124 ∧ KN 12 124 ∧ KN 13 124 ∧ KN 14 124 ∧ KN 15 124 ∧ KN 16 124 := by decide +kernel
@[go_sem] theorem dp_124 : isIn 999999 (tabX.keep 124) = false := id rfl
@[go_sem] theorem is_125_0 : KY 2 125 ∧ KY 3 125 ∧ KY 4 125 ∧ KY 5 125 ∧ KN 6 125 ∧ KY 7 125 ∧ KY 8 125 ∧ KY 9 125 ∧ KN 10 125 ∧ KN 11 125 ∧ KN 12 125 ∧ KN 13 125 ∧ KN 14 125 ∧ KN 15 125 ∧ KN 16 125 ∧ KN 17 125 ∧ KN 18 125 ∧ KN 19 125 ∧ KN 20 125 ∧ KN 21 125 ∧ KN 22 125 ∧ KN 23 125 ∧ KN 24 125 ∧ KN 25 125 ∧ KN 26 125 ∧ KN 27 125 ∧ KN 28 125 ∧ KN 29 125 ∧ KN 30 125 ∧ KN 31 125 := by decide +kernel
@[go_sem] theorem is_125_30 : KN 32 125 ∧ KN 33 125 ∧ KN 34 125 ∧ KY 35 125 ∧ KN 36 125 ∧ KN 37 125 ∧ KN 38 125 ∧ KN 39 125 ∧ KN 40 125 := by decide +kernel
@[go_sem] theorem dp_125 : isIn 999999 (tabX.keep 125) = false := id rfl
@[go_sem] theorem is_126_0 : KY 4 126 ∧ KN 5 126 ∧ KN 6 126 ∧ KN 7 126 ∧ KN 8 126 := by decide +kernel
@[go_sem] theorem dp_126 : isIn 999999 (tabX.keep 126) = false := id rfl
@[go_sem] theorem is_127_0 : KY 6 127 ∧ KY 7 127 ∧ KY 8 127 ∧ KY 9 127 ∧ KY 10 127 ∧ KN 11 127 ∧ KN 12 127 ∧ KN 13 127 ∧ KY 14 127 ∧ KY 15 127 ∧ KY 16 127 ∧ KY 17 127 ∧ KY 18 127 ∧ KN 19 127 ∧ KN 20 127 ∧ KN 21 127 ∧ KN 22 127 ∧ KN 23 127 ∧ KN 24 127 ∧ KN 25 127 ∧ KN 26 127 ∧ KY 27 127 ∧ KN 28 127 ∧ KN 29 127 ∧ KN 30 127 := by decide +kernel
@[go_sem] theorem dp_127 : isIn 999999 (tabX.keep 127) = false := id rfl
@[go_sem] theorem is_128_0 : KY 4 128 ∧ KY 5 128 ∧ KY 6 128 ∧ KN 7 128 ∧ KN 8 128 ∧ KN 9 128 ∧ KN 10 128 ∧ KY 11 128 ∧ KN 12 128 ∧ KN 13 128 ∧ KN 14 128 ∧ KN 15 128 ∧ KN 16 128 ∧ KN 17 128 ∧ KY 18 128 ∧ KN 19 128 ∧ KN 20 128 ∧ KN 21 128 ∧ KN 22 128 ∧ KN 23 128 ∧ KN 24 128 ∧ KN 25 128 ∧ KN 26 128 ∧ KN 27 128 ∧ KN 28 128 ∧ KN 29 128 ∧ KN 30 128 ∧ KN 31 128 ∧ KN 32 128 ∧ KN 33 128 := by decide +kernel
@[go_sem] theorem dp_128 : isIn 999999 (tabX.keep 128) = false := id rfl
@[go_sem] theorem is_129_0 : KY 4 129 ∧ KN 5 129 ∧ KN 6 129 ∧ KN 7 129 ∧ KN 8 129 := by decide +kernel
@[go_sem] theorem dp_129 : isIn 999999 (tabX.keep 129) = false := id rfl
@[go_sem] theorem is_130_0 : KY 2 130 ∧ KY 3 130 ∧ KN 4 130 ∧ KN 5 130 ∧ KN 6 130 ∧ KN 7 130 ∧ KN 8 130 := by decide +kernel
@[go_sem] theorem dp_130 : isIn 999999 (tabX.keep 130) = false := id rfl
@[go_sem] theorem is_131_0 : KY 6 131 ∧ KY 7 131 ∧ KY 8 131 ∧ KY 9 131 ∧ KY 10 131 ∧ KN 11 131 ∧ KN 12 131 ∧ KN 13 131 ∧ KY 14 131 ∧ KY 15 131 ∧ KY 16 131 ∧ KY 17 131 ∧ KY 18 131 ∧ KN 19 131 ∧ KN 20 131 ∧ KN 21 131 ∧ KN 22 131 ∧ KN 23 131 ∧ KN 24 131 ∧ KN 25 131 ∧ KN 26 131 ∧ KY 27 131 ∧ KN 28 131 ∧ KN 29 131 ∧ KN 30 131 := by decide +kernel
@[go_sem] theorem dp_131 : isIn 999999 (tabX.keep 131) = false := id rfl
@[go_sem] theorem is_132_0 : KY 4 132 ∧ KY 5 132 ∧ KY 6 132 ∧ KN 7 132 ∧ KN 8 132 ∧ KN 9 132 ∧ KN 10 132 ∧ KN 11 132 ∧ KY 12 132 ∧ KN 13 132 ∧ KN 14 132 ∧ KN 15 132 ∧ KY 16 132 ∧ KN 17 132 ∧ KN 18 132 ∧ KN 19 132 ∧ KN 20 132 ∧ KY 21 132 ∧ KN 22 132 ∧ KN 23 132 ∧ KN 24 132 ∧ KN 25 132 ∧ KN 26 132 ∧ KN 27 132 ∧ KN 28 132 ∧ KN 29 132 ∧ KN 30 132 ∧ KN 31 132 ∧ KN 32 132 ∧ KN 33 132 := by decide +kernel
@[go_sem] theorem is_132_30 : KN 34 132 ∧ KN 35 132 ∧ KN 36 132 ∧ KN 37 132 ∧ KN 38 132 ∧ KN 39 132 ∧ KN 40 132 ∧ KN 41 132 ∧ KN 42 132 ∧ KN 43 132 ∧ KN 44 132 ∧ KN 45 132 ∧ KN 46 132 ∧ KN 47 132 ∧ KY 48 132 ∧ KN 49 132 ∧ KN 50 132 ∧ KN 51 132 ∧ KN 52 132 ∧ KN 53 132 ∧ KN 54 132 ∧ KN 55 132 ∧ KN 56 132 ∧ KN 57 132 ∧ KN 58 132 ∧ KN 59 132 ∧ KN 60 132 ∧ KN 61 132 ∧ KN 62 132 ∧ KN 63 132 := by decide +kernel
@[go_sem] theorem is_132_60 : isIn 64 (tabX.keep 132) = false := id rfl
@[go_sem] theorem dp_132 : isIn 999999 (tabX.keep 132) = false := id rfl
@[go_sem] theorem is_133_0 : KY 6 133 ∧ KY 7 133 ∧ KY 8 133 ∧ KY 9 133 ∧ KY 10 133 ∧ KN 11 133 ∧ KN 12 133 ∧ KN 13 133 ∧ KY 14 133 ∧ KY 15 133 ∧ KY 16 133 ∧ KY 17 133 ∧ KY 18 133 ∧ KN 19 133 ∧ KN 20 133 ∧ KN 21 133 ∧ KN 22 133 ∧ KN 23 133 ∧ KN 24 133 ∧ KN 25 133 ∧ KN 26 133 ∧ KY 27 133 ∧ KN 28 133 ∧ KN 29 133 ∧ KN 30 133 := by decide +kernel
@[go_sem] theorem dp_133 : isIn 999999 (tabX.keep 133) = false := id rfl
@[go_sem] theorem is_134_0 : KY 4 134 ∧ KY 5 134 ∧ KN 6 134 ∧ KN 7 134 ∧ KN 8 134 ∧ KN 9 134 ∧ KN 10 134 ∧ KN 11 134 ∧ KN 12 134 ∧ KN 13 134 ∧ KN 14 134 ∧ KN 15 134 ∧ KN 16 134 ∧ KN 17 134 ∧ KN 18 134 ∧ KN 19 134 ∧ KN 20 134 ∧ KN 21 134 ∧ KN 22 134 ∧ KY 23 134 := by decide +kernel
@[go_sem] theorem dp_134 : isIn 999999 (tabX.keep 134) = false := id rfl
@[go_sem] theorem is_135_0 : KY 4 135 ∧ KN 5 135 ∧ KN 6 135 ∧ KN 7 135 ∧ KN 8 135 ∧ KN 9 135 ∧ KN 10 135 ∧ KN 11 135 ∧ KN 12 135 := by decide +kernel
@[go_sem] theorem dp_135 : isIn 999999 (tabX.keep 135) = false := id rfl
@[go_sem] theorem is_136_0 : KY 2 136 ∧ KN 3 136 ∧ KN 4 136 ∧ KN 5 136 := by decide +kernel
@[go_sem] theorem dp_136 : isIn 999999 (tabX.keep 136) = false := id rfl
@[go_sem] theorem is_138_0 : KY 2 138 ∧ KY 3 138 ∧ KY 4 138 ∧ KY 5 138 ∧ KN 6 138 ∧ KN 7 138 ∧ KN 8 138 ∧ KN 9 138 ∧ KN 10 138 := by decide +kernel
@[go_sem] theorem dp_138 : isIn 999999 (tabX.keep 138) = false := id rfl
@[go_sem] theorem is_139_0 : KY 7 139 ∧ KY 8 139 ∧ KY 9 139 ∧ KY 10 139 ∧ KY 11 139 ∧ KN 12 139 ∧ KN 13 139 ∧ KN 14 139 ∧ KN 15 139 ∧ KN 16 139 ∧ KN 17 139 ∧ KY 18 139 ∧ KN 19 139 ∧ KN 20 139 ∧ KN 21 139 ∧ KN 22 139 ∧ KN 23 139 ∧ KN 24 139 ∧ KN 25 139 ∧ KN 26 139 ∧ KN 27 139 ∧ KN 28 139 ∧ KN 29 139 ∧ KN 30 139 ∧ KY 31 139 ∧ KN 32 139 ∧ KN 33 139 ∧ KN 34 139 ∧ KN 35 139 ∧ KN 36 139 := by decide +kernel
@[go_sem] theorem is_139_30 : KN 37 139 ∧ KN 38 139 ∧ KN 39 139 ∧ KN 40 139 ∧ KN 41 139 ∧ KN 42 139 ∧ KN 43 139 ∧ KN 44 139 ∧ KN 45 139 ∧ KN 46 139 ∧ KN 47 139 ∧ KN 48 139 ∧ KN 49 139 ∧ KN 50 139 ∧ KN 51 139 ∧ KN 52 139 ∧ KN 53 139 ∧ KN 54 139 ∧ KN 55 139 ∧ KN 56 139 ∧ KN 57 139 ∧ KN 58 139 ∧ KN 59 139 ∧ KN 60 139 ∧ KN 61 139 ∧ KN 62 139 ∧ KN 63 139 ∧ KY 64 139 ∧ KN 65 139 ∧ KN 66 139 := by decide +kernel
@[go_sem] theorem is_139_60 : KN 67 139 ∧ KN 68 139 ∧ KN 69 139 ∧ KN 70 139 ∧ KN 71 139 ∧ KN 72 139 ∧ KN 73 139 ∧ KY 74 139 ∧ KY 75 139 ∧ KY 76 139 ∧ KY 77 139 ∧ KN 78 139 ∧ KN 79 139 ∧ KN 80 139 ∧ KN 81 139 ∧ KN 82 139 ∧ KN 83 139 ∧ KN 84 139 ∧ KN 85 139 ∧ KN 86 139 ∧ KN 87 139 ∧ KN 88 139 ∧ KN 89 139 ∧ KN 90 139 ∧ KN 91 139 ∧ KN 92 139 ∧ KN 93 139 ∧ KN 94 139 ∧ KN 95 139 ∧ KN 96 139 := by decide +kernel
@[go_sem] theorem is_139_90 : KN 97 139 ∧ KN 98 139 ∧ KY 99 139 ∧ KN 100 139 ∧ KN 101 139 ∧ KN 102 139 ∧ KN 103 139 ∧ KN 104 139 ∧ KN 105 139 ∧ KY 106 139 ∧ KN 107 139 ∧ KN 108 139 ∧ KN 109 139 ∧ KN 110 139 ∧ KN 111 139 ∧ KY 112 139 := by decide +kernel
@[go_sem] theorem dp_139 : isIn 999999 (tabX.keep 139) = false := id rfl
@[go_sem] theorem is_140_0 : KY 4 140 ∧ KY 5 140 ∧ KY 6 140 ∧ KY 7 140 ∧ KY 8 140 ∧ KY 9 140 ∧ KY 10 140 ∧ KY 11 140 ∧ KY 12 140 ∧ KN 13 140 ∧ KN 14 140 ∧ KN 15 140 ∧ KN 16 140 ∧ KN 17 140 ∧ KN 18 140 ∧ KN 19 140 ∧ KN 20 140 ∧ KY 21 140 ∧ KN 22 140 ∧ KN 23 140 ∧ KN 24 140 := by decide +kernel
@[go_sem] theorem dp_140 : isIn 999999 (tabX.keep 140) = false := id rfl
@[go_sem] theorem is_141_0 : KY 3 141 ∧ KY 4 141 ∧ KY 5 141 ∧ KN 6 141 ∧ KN 7 141 ∧ KN 8 141 ∧ KN 9 141 ∧ KN 10 141 ∧ KN 11 141 ∧ KY 12 141 ∧ KN 13 141 ∧ KN 14 141 ∧ KN 15 141 ∧ KN 16 141 ∧ KN 17 141 := by decide +kernel
@[go_sem] theorem dp_141 : isIn 999999 (tabX.keep 141) = false := id rfl
@[go_sem] theorem is_142_0 : KY 4 142 ∧ KY 5 142 ∧ KY 6 142 ∧ KY 7 142 ∧ KY 8 142 ∧ KY 9 142 ∧ KY 10 142 ∧ KY 11 142 ∧ KY 12 142 ∧ KN 13 142 ∧ KN 14 142 ∧ KN 15 142 ∧ KN 16 142 ∧ KN 17 142 ∧ KN 18 142 ∧ KN 19 142 ∧ KN 20 142 ∧ KY 21 142 ∧ KN 22 142 ∧ KN 23 142 ∧ KN 24 142 := by decide +kernel
@[go_sem] theorem dp_142 : isIn 999999 (tabX.keep 142) = false := id rfl
@[go_sem] theorem is_143_0 : KY 4 143 ∧ KY 5 143 ∧ KY 6 143 ∧ KN 7 143 ∧ KN 8 143 ∧ KN 9 143 ∧ KN 10 143 ∧ KY 11 143 ∧ KN 12 143 ∧ KN 13 143 ∧ KN 14 143 ∧ KN 15 143 ∧ KN 16 143 ∧ KN 17 143 ∧ KY 18 143 ∧ KN 19 143 ∧ KN 20 143 ∧ KN 21 143 ∧ KN 22 143 ∧ KN 23 143 ∧ KN 24 143 ∧ KN 25 143 ∧ KN 26 143 ∧ KN 27 143 ∧ KN 28 143 := by decide +kernel
@[go_sem] theorem dp_143 : isIn 999999 (tabX.keep 143) = false := id rfl
@[go_sem] theorem is_144_0 : KY 4 144 ∧ KN 5 144 ∧ KN 6 144 ∧ KN 7 144 ∧ KN 8 144 := by decide +kernel
@[go_sem] theorem dp_144 : isIn 999999 (tabX.keep 144) = false := id rfl
@[go_sem] theorem is_145_0 : KY 2 145 ∧ KY 3 145 ∧ KN 4 145 ∧ KN 5 145 ∧ KN 6 145 ∧ KN 7 145 ∧ KN 8 145 := by decide +kernel
@[go_sem] theorem dp_145 : isIn 999999 (tabX.keep 145) = false := id rfl
@[go_sem] theorem is_146_0 : KY 4 146 ∧ KY 5 146 ∧ KY 6 146 ∧ KY 7 146 ∧ KY 8 146 ∧ KY 9 146 ∧ KY 10 146 ∧ KY 11 146 ∧ KY 12 146 ∧ KN 13 146 ∧ KN 14 146 ∧ KN 15 146 ∧ KN 16 146 ∧ KN 17 146 ∧ KN 18 146 ∧ KN 19 146 ∧ KN 20 146 ∧ KY 21 146 ∧ KN 22 146 ∧ KN 23 146 ∧ KN 24 146 := by decide +kernel
@[go_sem] theorem dp_146 : isIn 999999 (tabX.keep 146) = false := id rfl
@[go_sem] theorem is_147_0 : KY 4 147 ∧ KY 5 147 ∧ KY 6 147 ∧ KN 7 147 ∧ KN 8 147 ∧ KN 9 147 ∧ KN 10 147 ∧ KN 11 147 ∧ KN 12 147 ∧ KN 13 147 ∧ KN 14 147 ∧ KN 15 147 ∧ KN 16 147 ∧ KN 17 147 ∧ KN 18 147 ∧ KN 19 147 ∧ KN 20 147 ∧ KN 21 147 ∧ KN 22 147 ∧ KN 23 147 ∧ KY 24 147 ∧ KN 25 147 ∧ KN 26 147 ∧ KN 27 147 ∧ KN 28 147 ∧ KN 29 147 ∧ KN 30 147 ∧ KN 31 147 ∧ KN 32 147 ∧ KN 33 147 := by decide +kernel
@[go_sem] theorem is_147_30 : isIn 34 (tabX.keep 147) = false := id rfl
@[go_sem] theorem dp_147 : isIn 999999 (tabX.keep 147) = false := id rfl
@[go_sem] theorem is_148_0 : KY 2 148 ∧ KN 3 148 ∧ KN 4 148 := by decide +kernel
@[go_sem] theorem dp_148 : isIn 999999 (tabX.keep 148) = false := id rfl
@[go_sem] theorem is_149_0 : KY 2 149 ∧ KN 3 149 ∧ KN 4 149 ∧ KN 5 149 ∧ KN 6 149 := by decide +kernel
@[go_sem] theorem dp_149 : isIn 999999 (tabX.keep 149) = false := id rfl
@[go_sem] theorem is_150_0 : KY 2 150 ∧ KN 3 150 ∧ KN 4 150 ∧ KN 5 150 ∧ KN 6 150 := by decide +kernel
@[go_sem] theorem dp_150 : isIn 999999 (tabX.keep 150) = false := id rfl
@[go_sem] theorem is_151_0 : KY 4 151 ∧ KY 5 151 ∧ KN 6 151 ∧ KY 7 151 ∧ KY 8 151 ∧ KY 9 151 ∧ KN 10 151 ∧ KN 11 151 ∧ KN 12 151 ∧ KN 13 151 ∧ KN 14 151 ∧ KN 15 151 ∧ KY 16 151 ∧ KN 17 151 ∧ KN 18 151 := by decide +kernel
@[go_sem] theorem dp_151 : isIn 999999 (tabX.keep 151) = false := id rfl
@[go_sem] theorem is_152_0 : KY 2 152 ∧ KY 3 152 ∧ KY 4 152 ∧ KN 5 152 ∧ KN 6 152 ∧ KN 7 152 := by decide +kernel
@[go_sem] theorem dp_152 : isIn 999999 (tabX.keep 152) = false := id rfl
@[go_sem] theorem is_153_0 : KY 6 153 ∧ KY 7 153 ∧ KN 8 153 ∧ KN 9 153 ∧ KN 10 153 ∧ KN 11 153 ∧ KN 12 153 ∧ KN 13 153 ∧ KN 14 153 ∧ KY 15 153 ∧ KN 16 153 ∧ KN 17 153 ∧ KN 18 153 ∧ KN 19 153 ∧ KN 20 153 ∧ KN 21 153 ∧ KN 22 153 ∧ KN 23 153 ∧ KY 24 153 ∧ KY 25 153 ∧ KY 26 153 ∧ KN 27 153 ∧ KN 28 153 ∧ KN 29 153 ∧ KN 30 153 ∧ KN 31 153 ∧ KN 32 153 ∧ KN 33 153 ∧ KN 34 153 ∧ KN 35 153 := by decide +kernel
@[go_sem] theorem is_153_30 : KN 36 153 ∧ KN 37 153 ∧ KN 38 153 ∧ KN 39 153 ∧ KN 40 153 ∧ KN 41 153 ∧ KN 42 153 ∧ KN 43 153 ∧ KN 44 153 ∧ KN 45 153 ∧ KN 46 153 ∧ KN 47 153 ∧ KN 48 153 ∧ KN 49 153 ∧ KY 50 153 ∧ KN 51 153 ∧ KN 52 153 ∧ KN 53 153 ∧ KN 54 153 ∧ KY 55 153 ∧ KN 56 153 ∧ KN 57 153 ∧ KN 58 153 := by decide +kernel
@[go_sem] theorem dp_153 : isIn 999999 (tabX.keep 153) = false := id rfl
@[go_sem] theorem is_154_0 : KY 4 154 ∧ KY 6 154 ∧ KY 7 154 ∧ KY 8 154 ∧ KY 9 154 ∧ KY 10 154 ∧ KY 11 154 ∧ KY 12 154 ∧ KN 13 154 ∧ KN 14 154 ∧ KN 15 154 ∧ KN 16 154 ∧ KN 17 154 ∧ KN 18 154 ∧ KN 19 154 ∧ KY 20 154 ∧ KY 21 154 ∧ KY 22 154 ∧ KY 23 154 ∧ KN 24 154 ∧ KN 25 154 ∧ KN 26 154 ∧ KN 27 154 ∧ KN 28 154 ∧ KN 29 154 ∧ KN 30 154 ∧ KN 31 154 ∧ KN 32 154 ∧ KY 33 154 ∧ KN 34 154 := by decide +kernel
@[go_sem] theorem is_154_30 : KN 35 154 ∧ KN 36 154 ∧ KN 37 154 ∧ KN 38 154 ∧ KN 39 154 ∧ KN 40 154 ∧ KN 41 154 ∧ KN 42 154 ∧ KN 43 154 ∧ KN 44 154 ∧ KN 45 154 ∧ KN 46 154 ∧ KN 47 154 ∧ KN 48 154 ∧ KN 49 154 ∧ KN 50 154 ∧ KN 51 154 ∧ KN 52 154 ∧ KN 53 154 ∧ KN 54 154 ∧ KN 55 154 ∧ KN 56 154 ∧ KN 57 154 ∧ KN 58 154 ∧ KN 59 154 ∧ KN 60 154 ∧ KN 61 154 ∧ KN 62 154 ∧ KN 63 154 ∧ KY 64 154 := by decide +kernel
@[go_sem] theorem is_154_60 : isIn 65 (tabX.keep 154) = false := id rfl
@[go_sem] theorem dp_154 : isIn 999999 (tabX.keep 154) = false := id rfl
@[go_sem] theorem is_157_0 : KY 3 157 ∧ KY 4 157 ∧ KY 6 157 ∧ KN 7 157 ∧ KN 8 157 ∧ KN 9 157 := by decide +kernel
@[go_sem] theorem dp_157 : isIn 999999 (tabX.keep 157) = false := id rfl
@[go_sem] theorem is_158_0 : KY 4 158 ∧ KY 5 158 ∧ KN 6 158 ∧ KY 7 158 ∧ KY 8 158 ∧ KY 9 158 ∧ KN 10 158 ∧ KN 11 158 ∧ KN 12 158 ∧ KN 13 158 ∧ KN 14 158 ∧ KN 15 158 ∧ KY 16 158 ∧ KN 17 158 ∧ KN 18 158 := by decide +kernel
@[go_sem] theorem dp_158 : isIn 999999 (tabX.keep 158) = false := id rfl
@[go_sem] theorem is_159_0 : KY 4 159 ∧ KY 5 159 ∧ KN 6 159 ∧ KY 7 159 ∧ KY 8 159 ∧ KY 9 159 ∧ KN 10 159 ∧ KN 11 159 ∧ KN 12 159 ∧ KN 13 159 ∧ KN 14 159 ∧ KN 15 159 ∧ KY 16 159 ∧ KN 17 159 ∧ KN 18 159 := by decide +kernel
@[go_sem] theorem dp_159 : isIn 999999 (tabX.keep 159) = false := id rfl
@[go_sem] theorem is_160_0 : KY 4 160 ∧ KY 5 160 ∧ KN 6 160 ∧ KY 7 160 ∧ KY 8 160 ∧ KY 9 160 ∧ KN 10 160 ∧ KN 11 160 ∧ KN 12 160 ∧ KN 13 160 ∧ KN 14 160 ∧ KN 15 160 ∧ KY 16 160 ∧ KN 17 160 ∧ KN 18 160 := by decide +kernel
@[go_sem] theorem dp_160 : isIn 999999 (tabX.keep 160) = false := id rfl
@[go_sem] theorem is_161_0 : KY 0 161 ∧ KY 1 161 ∧ KY 2 161 ∧ KN 3 161 ∧ KN 4 161 ∧ KN 5 161 ∧ KN 6 161 ∧ KN 7 161 ∧ KN 8 161 ∧ KN 9 161 := by decide +kernel
@[go_sem] theorem dp_161 : isIn 999999 (tabX.keep 161) = false := id rfl
@[go_sem] theorem is_162_0 : KY 4 162 ∧ KY 5 162 ∧ KY 6 162 ∧ KN 7 162 ∧ KN 8 162 ∧ KN 9 162 ∧ KN 10 162 ∧ KY 11 162 ∧ KY 12 162 ∧ KY 13 162 ∧ KY 14 162 ∧ KN 15 162 ∧ KN 16 162 ∧ KN 17 162 ∧ KN 18 162 ∧ KN 19 162 ∧ KN 20 162 ∧ KN 21 162 ∧ KN 22 162 ∧ KN 23 162 ∧ KN 24 162 ∧ KN 25 162 ∧ KN 26 162 ∧ KN 27 162 ∧ KN 28 162 ∧ KN 29 162 ∧ KN 30 162 ∧ KY 31 162 ∧ KN 32 162 ∧ KN 33 162 := by decide +kernel
@[go_sem] theorem is_162_30 : KN 34 162 ∧ KN 35 162 ∧ KN 36 162 ∧ KN 37 162 ∧ KN 38 162 ∧ KN 39 162 ∧ KN 40 162 := by decide +kernel
@[go_sem] theorem dp_162 : isIn 999999 (tabX.keep 162) = false := id rfl
@[go_sem] theorem is_164_0 : KY 4 164 ∧ KN 5 164 ∧ KN 6 164 ∧ KN 7 164 ∧ KN 8 164 ∧ KN 9 164 ∧ KN 10 164 ∧ KN 11 164 ∧ KN 12 164 := by decide +kernel
@[go_sem] theorem dp_164 : isIn 999999 (tabX.keep 164) = false := id rfl
@[go_sem] theorem is_165_0 : KY 4 165 ∧ KN 5 165 ∧ KN 6 165 ∧ KN 7 165 := by decide +kernel
@[go_sem] theorem dp_165 : isIn 999999 (tabX.keep 165) = false := id rfl
@[go_sem] theorem is_166_0 : KY 4 166 ∧ KN 5 166 ∧ KN 6 166 ∧ KN 7 166 := by decide +kernel
@[go_sem] theorem dp_166 : isIn 999999 (tabX.keep 166) = false := id rfl
end Go.Proofs.YtiighcpimecehaaGreat
