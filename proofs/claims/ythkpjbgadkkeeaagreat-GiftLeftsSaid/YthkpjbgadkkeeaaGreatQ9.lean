/- What the tables of the abstract interpreter hold. Conditions: none. -/
import Derived.Test.YthkpjbgadkkeeaaGreatQ8
set_option linter.unusedSimpArgs false
set_option linter.unusedVariables false
namespace Go.Proofs.YthkpjbgadkkeeaaGreat
open Go.Proofs Go.Proofs.YthkpjbgadkkeeaaGreat
abbrev KY (t f : Nat) : Prop := isIn t (tabX.keep f) = true
abbrev KN (t f : Nat) : Prop := isIn t (tabX.keep f) = false
@[go_sem] theorem is_3_0 : KY 3 3 ∧ KY 6 3 ∧ KY 7 3 ∧ KY 8 3 ∧ KY 9 3 ∧ KY 10 3 ∧ KY 11 3 ∧ KY 12 3 ∧ KN 13 3 ∧ KN 14 3 ∧ KN 15 3 ∧ KN 16 3 ∧ KN 17 3 ∧ KN 18 3 ∧ KN 19 3 ∧ KN 20 3 ∧ KN 21 3 ∧ KN 22 3 ∧ KN 23 3 ∧ KN 24 3 ∧ KN 25 3 ∧ KN 26 3 ∧ KN 27 3 ∧ KN 28 3 ∧ KN 29 3 ∧ KN 30 3 ∧ KN 31 3 ∧ KY 32 3 ∧ KN 33 3 ∧ KN 34 3 := by decide +kernel
@[go_sem] theorem is_3_30 : KN 35 3 ∧ KN 36 3 ∧ KN 37 3 ∧ KN 38 3 ∧ KN 39 3 ∧ KN 40 3 ∧ KN 41 3 ∧ KN 42 3 ∧ KN 43 3 ∧ KN 44 3 ∧ KN 45 3 ∧ KN 46 3 ∧ KN 47 3 ∧ KN 48 3 ∧ KN 49 3 ∧ KN 50 3 ∧ KN 51 3 ∧ KN 52 3 ∧ KN 53 3 ∧ KN 54 3 ∧ KN 55 3 := by decide +kernel
@[go_sem] theorem dp_3 : isIn 999999 (tabX.keep 3) = false := id rfl
@[go_sem] theorem is_11_0 : KY 2 11 ∧ KY 4 11 ∧ KY 5 11 ∧ KY 6 11 ∧ KY 7 11 ∧ KY 8 11 ∧ KY 9 11 ∧ KY 10 11 ∧ KY 11 11 ∧ KY 12 11 ∧ KY 13 11 ∧ KN 14 11 ∧ KN 15 11 ∧ KN 16 11 ∧ KN 17 11 ∧ KN 18 11 ∧ KN 19 11 ∧ KN 20 11 ∧ KN 21 11 ∧ KN 22 11 ∧ KN 23 11 ∧ KY 24 11 ∧ KN 25 11 ∧ KN 26 11 ∧ KN 27 11 ∧ KY 28 11 ∧ KY 29 11 ∧ KY 30 11 ∧ KY 31 11 ∧ KN 32 11 := by decide +kernel
@[go_sem] theorem is_11_30 : KN 33 11 ∧ KN 34 11 ∧ KN 35 11 ∧ KN 36 11 ∧ KN 37 11 ∧ KY 38 11 ∧ KN 39 11 ∧ KN 40 11 ∧ KN 41 11 ∧ KN 42 11 ∧ KY 43 11 ∧ KY 44 11 ∧ KN 45 11 ∧ KN 46 11 ∧ KN 47 11 ∧ KY 48 11 ∧ KN 49 11 ∧ KN 50 11 ∧ KN 51 11 ∧ KN 52 11 ∧ KN 53 11 ∧ KN 54 11 ∧ KN 55 11 ∧ KN 56 11 ∧ KY 57 11 ∧ KN 58 11 ∧ KN 59 11 ∧ KN 60 11 ∧ KN 61 11 ∧ KY 62 11 := by decide +kernel
@[go_sem] theorem is_11_60 : KY 63 11 ∧ KY 64 11 ∧ KN 65 11 ∧ KN 66 11 ∧ KN 67 11 ∧ KY 68 11 ∧ KN 69 11 ∧ KN 70 11 ∧ KN 71 11 ∧ KN 72 11 := by decide +kernel
@[go_sem] theorem dp_11 : isIn 999999 (tabX.keep 11) = false := id rfl
@[go_sem] theorem is_12_0 : KY 2 12 ∧ KY 4 12 ∧ KY 5 12 ∧ KY 6 12 ∧ KY 7 12 ∧ KY 8 12 ∧ KY 9 12 ∧ KY 10 12 ∧ KY 11 12 ∧ KY 12 12 ∧ KN 13 12 ∧ KN 14 12 ∧ KN 15 12 ∧ KN 16 12 ∧ KN 17 12 ∧ KN 18 12 ∧ KN 19 12 ∧ KY 20 12 ∧ KN 21 12 ∧ KN 22 12 ∧ KN 23 12 ∧ KN 24 12 ∧ KN 25 12 ∧ KY 26 12 ∧ KN 27 12 ∧ KY 28 12 ∧ KN 29 12 ∧ KN 30 12 ∧ KN 31 12 ∧ KN 32 12 := by decide +kernel
@[go_sem] theorem is_12_30 : KN 33 12 ∧ KN 34 12 ∧ KN 35 12 ∧ KN 36 12 ∧ KY 37 12 ∧ KN 38 12 ∧ KN 39 12 ∧ KN 40 12 ∧ KN 41 12 ∧ KN 42 12 ∧ KN 43 12 ∧ KN 44 12 ∧ KN 45 12 ∧ KN 46 12 ∧ KN 47 12 ∧ KN 48 12 ∧ KN 49 12 ∧ KN 50 12 ∧ KN 51 12 ∧ KY 52 12 ∧ KN 53 12 ∧ KN 54 12 ∧ KN 55 12 ∧ KY 56 12 ∧ KN 57 12 ∧ KN 58 12 ∧ KN 59 12 ∧ KN 60 12 ∧ KN 61 12 ∧ KN 62 12 := by decide +kernel
@[go_sem] theorem is_12_60 : KN 63 12 ∧ KN 64 12 ∧ KN 65 12 ∧ KN 66 12 ∧ KN 67 12 ∧ KY 68 12 ∧ KN 69 12 ∧ KN 70 12 ∧ KN 71 12 ∧ KN 72 12 ∧ KN 73 12 ∧ KN 74 12 ∧ KN 75 12 ∧ KN 76 12 ∧ KN 77 12 ∧ KN 78 12 := by decide +kernel
@[go_sem] theorem dp_12 : isIn 999999 (tabX.keep 12) = false := id rfl
@[go_sem] theorem is_13_0 : KY 2 13 ∧ KY 3 13 ∧ KY 4 13 ∧ KY 5 13 ∧ KY 6 13 ∧ KY 7 13 ∧ KY 8 13 ∧ KY 9 13 ∧ KY 10 13 ∧ KN 11 13 ∧ KN 12 13 ∧ KN 13 13 ∧ KN 14 13 ∧ KN 15 13 ∧ KN 16 13 ∧ KN 17 13 ∧ KN 18 13 ∧ KN 19 13 ∧ KN 20 13 ∧ KN 21 13 ∧ KY 22 13 ∧ KN 23 13 ∧ KN 24 13 ∧ KY 25 13 ∧ KY 26 13 ∧ KN 27 13 ∧ KN 28 13 ∧ KN 29 13 ∧ KN 30 13 ∧ KY 31 13 := by decide +kernel
@[go_sem] theorem is_13_30 : KN 32 13 ∧ KN 33 13 ∧ KN 34 13 ∧ KN 35 13 ∧ KN 36 13 ∧ KN 37 13 ∧ KN 38 13 ∧ KN 39 13 ∧ KN 40 13 ∧ KN 41 13 ∧ KN 42 13 ∧ KY 43 13 ∧ KN 44 13 ∧ KN 45 13 ∧ KY 46 13 ∧ KN 47 13 ∧ KN 48 13 := by decide +kernel
@[go_sem] theorem dp_13 : isIn 999999 (tabX.keep 13) = false := id rfl
@[go_sem] theorem is_14_0 : KY 2 14 ∧ KY 4 14 ∧ KY 5 14 ∧ KY 6 14 ∧ KY 7 14 ∧ KY 8 14 ∧ KY 9 14 ∧ KY 10 14 ∧ KY 11 14 ∧ KY 12 14 ∧ KY 13 14 ∧ KN 14 14 ∧ KN 15 14 ∧ KN 16 14 ∧ KN 17 14 ∧ KN 18 14 ∧ KN 19 14 ∧ KN 20 14 ∧ KY 21 14 ∧ KN 22 14 ∧ KN 23 14 ∧ KN 24 14 ∧ KN 25 14 ∧ KN 26 14 ∧ KN 27 14 ∧ KY 28 14 ∧ KN 29 14 ∧ KN 30 14 ∧ KN 31 14 ∧ KN 32 14 := by decide +kernel
@[go_sem] theorem is_14_30 : KN 33 14 ∧ KN 34 14 ∧ KN 35 14 ∧ KN 36 14 ∧ KN 37 14 ∧ KN 38 14 ∧ KN 39 14 ∧ KN 40 14 ∧ KN 41 14 ∧ KY 42 14 ∧ KN 43 14 ∧ KN 44 14 ∧ KN 45 14 ∧ KY 46 14 ∧ KN 47 14 ∧ KN 48 14 ∧ KN 49 14 ∧ KN 50 14 ∧ KN 51 14 ∧ KN 52 14 ∧ KN 53 14 ∧ KN 54 14 ∧ KN 55 14 ∧ KN 56 14 ∧ KN 57 14 ∧ KY 58 14 ∧ KN 59 14 ∧ KN 60 14 ∧ KN 61 14 ∧ KN 62 14 := by decide +kernel
@[go_sem] theorem is_14_60 : KN 63 14 ∧ KN 64 14 ∧ KN 65 14 ∧ KN 66 14 ∧ KN 67 14 ∧ KN 68 14 ∧ KN 69 14 ∧ KN 70 14 ∧ KN 71 14 ∧ KN 72 14 := by decide +kernel
@[go_sem] theorem dp_14 : isIn 999999 (tabX.keep 14) = false := id rfl
@[go_sem] theorem is_15_0 : KY 0 15 ∧ KY 1 15 ∧ KY 2 15 ∧ KY 3 15 ∧ KY 4 15 ∧ KY 5 15 ∧ KY 6 15 ∧ KY 7 15 ∧ KY 8 15 ∧ KY 9 15 ∧ KY 10 15 ∧ KY 11 15 ∧ KY 12 15 ∧ KY 13 15 ∧ KY 14 15 ∧ KY 15 15 ∧ KY 16 15 ∧ KY 17 15 ∧ KY 18 15 ∧ KY 19 15 ∧ KY 20 15 ∧ KY 21 15 ∧ KY 22 15 ∧ KY 23 15 ∧ KN 24 15 ∧ KY 25 15 ∧ KN 26 15 ∧ KY 27 15 ∧ KN 28 15 ∧ KN 29 15 := by decide +kernel
@[go_sem] theorem is_15_30 : KN 30 15 ∧ KN 31 15 ∧ KN 32 15 ∧ KN 33 15 ∧ KN 34 15 ∧ KN 35 15 ∧ KN 36 15 ∧ KN 37 15 ∧ KN 38 15 ∧ KN 39 15 ∧ KN 40 15 ∧ KN 41 15 ∧ KN 42 15 ∧ KN 43 15 ∧ KN 44 15 ∧ KN 45 15 ∧ KN 46 15 ∧ KN 47 15 ∧ KN 48 15 ∧ KN 49 15 ∧ KN 50 15 ∧ KN 51 15 ∧ KN 52 15 ∧ KN 53 15 ∧ KN 54 15 ∧ KN 55 15 ∧ KN 56 15 ∧ KN 57 15 ∧ KN 58 15 ∧ KN 59 15 := by decide +kernel
@[go_sem] theorem is_15_60 : KN 60 15 ∧ KN 61 15 ∧ KN 62 15 ∧ KN 63 15 ∧ KN 64 15 ∧ KN 65 15 ∧ KN 66 15 ∧ KN 67 15 ∧ KN 68 15 ∧ KN 69 15 ∧ KN 70 15 ∧ KN 71 15 ∧ KN 72 15 ∧ KN 73 15 ∧ KN 74 15 ∧ KN 75 15 ∧ KN 76 15 ∧ KN 77 15 ∧ KN 78 15 ∧ KN 79 15 ∧ KN 80 15 ∧ KN 81 15 ∧ KN 82 15 ∧ KN 83 15 ∧ KN 84 15 ∧ KN 85 15 ∧ KN 86 15 ∧ KN 87 15 ∧ KN 88 15 ∧ KN 89 15 := by decide +kernel
@[go_sem] theorem is_15_90 : KN 90 15 ∧ KN 91 15 ∧ KN 92 15 ∧ KN 93 15 ∧ KN 94 15 ∧ KN 95 15 ∧ KN 96 15 ∧ KN 97 15 ∧ KN 98 15 ∧ KN 99 15 ∧ KN 100 15 ∧ KN 101 15 ∧ KN 102 15 ∧ KN 103 15 ∧ KN 104 15 ∧ KN 105 15 ∧ KN 106 15 ∧ KN 107 15 ∧ KN 108 15 ∧ KN 109 15 ∧ KN 110 15 ∧ KN 111 15 ∧ KN 112 15 ∧ KN 113 15 ∧ KN 114 15 ∧ KN 115 15 ∧ KN 116 15 ∧ KN 117 15 ∧ KN 118 15 ∧ KN 119 15 := by decide +kernel
@[go_sem] theorem is_15_120 : KN 120 15 ∧ KN 121 15 ∧ KN 122 15 ∧ KN 123 15 ∧ KN 124 15 ∧ KN 125 15 ∧ KN 126 15 ∧ KN 127 15 ∧ KN 128 15 ∧ KN 129 15 ∧ KN 130 15 ∧ KN 131 15 ∧ KN 132 15 ∧ KN 133 15 ∧ KN 134 15 ∧ KN 135 15 ∧ KN 136 15 ∧ KN 137 15 ∧ KN 138 15 ∧ KN 139 15 ∧ KN 140 15 ∧ KN 141 15 ∧ KN 142 15 ∧ KN 143 15 ∧ KN 144 15 ∧ KN 145 15 ∧ KN 146 15 ∧ KN 147 15 ∧ KN 148 15 ∧ KN 149 15 := by decide +kernel
@[go_sem] theorem is_15_150 : KN 150 15 ∧ KN 151 15 ∧ KN 152 15 ∧ KN 153 15 ∧ KN 154 15 ∧ KN 155 15 ∧ KN 156 15 ∧ KN 157 15 ∧ KN 158 15 ∧ KN 159 15 ∧ KN 160 15 ∧ KN 161 15 ∧ KN 162 15 ∧ KN 163 15 ∧ KN 164 15 ∧ KN 165 15 ∧ KN 166 15 ∧ KN 167 15 ∧ KN 168 15 ∧ KN 169 15 ∧ KN 170 15 ∧ KN 171 15 ∧ KN 172 15 ∧ KN 173 15 ∧ KN 174 15 ∧ KN 175 15 ∧ KN 176 15 ∧ KN 177 15 ∧ KN 178 15 ∧ KN 179 15 := by decide +kernel
@[go_sem] theorem is_15_180 : KN 180 15 ∧ KN 181 15 ∧ KN 182 15 ∧ KN 183 15 ∧ KN 184 15 ∧ KN 185 15 ∧ KN 186 15 ∧ KN 187 15 := by decide +kernel
@[go_sem] theorem dp_15 : isIn 999999 (tabX.keep 15) = false := id rfl
@[go_sem] theorem is_16_0 : KY 1 16 ∧ KY 2 16 ∧ KY 3 16 ∧ KY 4 16 ∧ KY 5 16 ∧ KY 6 16 ∧ KN 7 16 ∧ KN 8 16 ∧ KN 9 16 ∧ KN 10 16 ∧ KN 11 16 ∧ KN 12 16 ∧ KY 13 16 ∧ KN 14 16 ∧ KN 15 16 ∧ KN 16 16 ∧ KN 17 16 ∧ KY 18 16 ∧ KN 19 16 := by decide +kernel
@[go_sem] theorem dp_16 : isIn 999999 (tabX.keep 16) = false := id rfl
@[go_sem] theorem is_17_0 : KY 1 17 ∧ KY 2 17 ∧ KY 3 17 ∧ KY 4 17 ∧ KY 5 17 ∧ KY 6 17 ∧ KY 7 17 ∧ KY 8 17 ∧ KY 9 17 ∧ KY 10 17 ∧ KY 11 17 ∧ KN 12 17 ∧ KN 13 17 ∧ KN 14 17 ∧ KY 15 17 ∧ KN 16 17 ∧ KN 17 17 ∧ KN 18 17 ∧ KN 19 17 ∧ KN 20 17 ∧ KN 21 17 ∧ KY 22 17 ∧ KN 23 17 ∧ KN 24 17 ∧ KN 25 17 ∧ KN 26 17 ∧ KN 27 17 ∧ KN 28 17 ∧ KN 29 17 ∧ KN 30 17 := by decide +kernel
@[go_sem] theorem is_17_30 : KN 31 17 ∧ KN 32 17 ∧ KN 33 17 ∧ KN 34 17 ∧ KY 35 17 ∧ KN 36 17 ∧ KN 37 17 ∧ KN 38 17 ∧ KY 39 17 ∧ KN 40 17 ∧ KN 41 17 ∧ KN 42 17 ∧ KN 43 17 ∧ KN 44 17 ∧ KN 45 17 ∧ KN 46 17 ∧ KN 47 17 ∧ KN 48 17 ∧ KN 49 17 ∧ KN 50 17 ∧ KN 51 17 ∧ KN 52 17 ∧ KN 53 17 ∧ KN 54 17 ∧ KN 55 17 ∧ KN 56 17 ∧ KN 57 17 ∧ KN 58 17 ∧ KN 59 17 ∧ KN 60 17 := by decide +kernel
@[go_sem] theorem is_17_60 : KN 61 17 ∧ KN 62 17 ∧ KN 63 17 ∧ KN 64 17 ∧ KN 65 17 ∧ KN 66 17 ∧ KN 67 17 ∧ KN 68 17 ∧ KN 69 17 ∧ KN 70 17 ∧ KN 71 17 ∧ KN 72 17 ∧ KN 73 17 ∧ KN 74 17 ∧ KN 75 17 ∧ KN 76 17 ∧ KN 77 17 ∧ KY 78 17 ∧ KN 79 17 ∧ KN 80 17 ∧ KN 81 17 ∧ KN 82 17 ∧ KN 83 17 ∧ KN 84 17 ∧ KN 85 17 ∧ KY 86 17 ∧ KN 87 17 := by decide +kernel
@[go_sem] theorem dp_17 : isIn 999999 (tabX.keep 17) = false := id rfl
@[go_sem] theorem is_18_0 : KY 1 18 ∧ KY 2 18 ∧ KY 3 18 ∧ KY 4 18 ∧ KY 5 18 ∧ KY 6 18 ∧ KY 7 18 ∧ KY 8 18 ∧ KN 9 18 ∧ KN 10 18 ∧ KN 11 18 ∧ KN 12 18 ∧ KN 13 18 ∧ KN 14 18 ∧ KY 15 18 ∧ KN 16 18 ∧ KN 17 18 ∧ KY 18 18 ∧ KY 19 18 ∧ KY 20 18 ∧ KY 21 18 ∧ KN 22 18 ∧ KN 23 18 ∧ KN 24 18 ∧ KN 25 18 ∧ KN 26 18 ∧ KN 27 18 ∧ KN 28 18 ∧ KN 29 18 ∧ KN 30 18 := by decide +kernel
@[go_sem] theorem is_18_30 : KN 31 18 ∧ KY 32 18 ∧ KN 33 18 ∧ KN 34 18 ∧ KN 35 18 ∧ KN 36 18 ∧ KN 37 18 ∧ KN 38 18 ∧ KN 39 18 ∧ KN 40 18 ∧ KN 41 18 ∧ KN 42 18 ∧ KN 43 18 ∧ KN 44 18 := by decide +kernel
@[go_sem] theorem dp_18 : isIn 999999 (tabX.keep 18) = false := id rfl
@[go_sem] theorem is_19_0 : KY 1 19 ∧ KY 2 19 ∧ KY 3 19 ∧ KY 4 19 ∧ KN 5 19 ∧ KN 6 19 ∧ KN 7 19 ∧ KY 8 19 ∧ KN 9 19 ∧ KN 10 19 ∧ KN 11 19 ∧ KN 12 19 ∧ KN 13 19 ∧ KN 14 19 ∧ KN 15 19 := by decide +kernel
@[go_sem] theorem dp_19 : isIn 999999 (tabX.keep 19) = false := id rfl
@[go_sem] theorem is_20_0 : KY 1 20 ∧ KY 2 20 ∧ KY 3 20 ∧ KY 4 20 ∧ KY 5 20 ∧ KN 6 20 ∧ KN 7 20 ∧ KN 8 20 ∧ KN 9 20 ∧ KN 10 20 ∧ KN 11 20 ∧ KY 12 20 ∧ KN 13 20 ∧ KN 14 20 ∧ KN 15 20 ∧ KN 16 20 ∧ KN 17 20 ∧ KN 18 20 := by decide +kernel
@[go_sem] theorem dp_20 : isIn 999999 (tabX.keep 20) = false := id rfl
@[go_sem] theorem is_22_0 : KY 4 22 ∧ KN 5 22 ∧ KN 6 22 ∧ KN 7 22 ∧ KN 8 22 ∧ KN 9 22 ∧ KN 10 22 ∧ KN 11 22 ∧ KN 12 22 ∧ KN 13 22 ∧ KN 14 22 ∧ KN 15 22 ∧ KN 16 22 ∧ KN 17 22 ∧ KN 18 22 ∧ KN 19 22 ∧ KN 20 22 ∧ KN 21 22 := by decide +kernel
@[go_sem] theorem dp_22 : isIn 999999 (tabX.keep 22) = false := id rfl
@[go_sem] theorem is_23_0 : KY 1 23 ∧ KY 2 23 ∧ KY 3 23 ∧ KN 4 23 ∧ KN 5 23 ∧ KY 6 23 ∧ KY 7 23 ∧ KN 8 23 ∧ KN 9 23 ∧ KN 10 23 ∧ KN 11 23 ∧ KN 12 23 ∧ KN 13 23 ∧ KN 14 23 ∧ KY 15 23 ∧ KN 16 23 ∧ KN 17 23 ∧ KN 18 23 ∧ KN 19 23 ∧ KN 20 23 ∧ KN 21 23 ∧ KN 22 23 ∧ KN 23 23 := by decide +kernel
@[go_sem] theorem dp_23 : isIn 999999 (tabX.keep 23) = false := id rfl
@[go_sem] theorem is_25_0 : KY 1 25 ∧ KY 2 25 ∧ KN 3 25 ∧ KN 4 25 ∧ KN 5 25 ∧ KN 6 25 ∧ KN 7 25 ∧ KN 8 25 := by decide +kernel
@[go_sem] theorem dp_25 : isIn 999999 (tabX.keep 25) = false := id rfl
@[go_sem] theorem is_26_0 : KY 6 26 ∧ KN 7 26 ∧ KN 8 26 ∧ KN 9 26 ∧ KN 10 26 ∧ KN 11 26 ∧ KN 12 26 ∧ KN 13 26 ∧ KN 14 26 := by decide +kernel
@[go_sem] theorem dp_26 : isIn 999999 (tabX.keep 26) = false := id rfl
@[go_sem] theorem is_28_0 : KY 4 28 ∧ KN 5 28 ∧ KN 6 28 ∧ KN 7 28 := by decide +kernel
@[go_sem] theorem dp_28 : isIn 999999 (tabX.keep 28) = false := id rfl
@[go_sem] theorem is_30_0 : KY 0 30 ∧ KY 4 30 ∧ KY 5 30 ∧ KN 6 30 ∧ KN 7 30 ∧ KY 8 30 ∧ KN 9 30 ∧ KN 10 30 ∧ KN 11 30 ∧ KN 12 30 ∧ KN 13 30 ∧ KN 14 30 ∧ KN 15 30 := by decide +kernel
@[go_sem] theorem dp_30 : isIn 999999 (tabX.keep 30) = false := id rfl
@[go_sem] theorem is_31_0 : KY 4 31 ∧ KY 5 31 ∧ KY 6 31 ∧ KN 7 31 ∧ KN 8 31 ∧ KN 9 31 ∧ KY 10 31 ∧ KN 11 31 ∧ KN 12 31 ∧ KN 13 31 ∧ KN 14 31 ∧ KN 15 31 ∧ KN 16 31 ∧ KN 17 31 ∧ KN 18 31 ∧ KN 19 31 ∧ KN 20 31 ∧ KN 21 31 ∧ KN 22 31 ∧ KN 23 31 ∧ KN 24 31 ∧ KN 25 31 ∧ KY 26 31 ∧ KN 27 31 ∧ KN 28 31 ∧ KN 29 31 ∧ KN 30 31 := by decide +kernel
@[go_sem] theorem dp_31 : isIn 999999 (tabX.keep 31) = false := id rfl
@[go_sem] theorem is_32_0 : KY 2 32 ∧ KY 4 32 ∧ KY 5 32 ∧ KY 6 32 ∧ KY 7 32 ∧ KN 8 32 ∧ KN 9 32 ∧ KN 10 32 ∧ KN 11 32 ∧ KY 12 32 ∧ KN 13 32 ∧ KN 14 32 ∧ KN 15 32 ∧ KN 16 32 ∧ KN 17 32 ∧ KN 18 32 ∧ KN 19 32 ∧ KN 20 32 ∧ KN 21 32 ∧ KN 22 32 ∧ KN 23 32 ∧ KN 24 32 ∧ KN 25 32 ∧ KN 26 32 ∧ KN 27 32 ∧ KN 28 32 ∧ KN 29 32 ∧ KN 30 32 ∧ KN 31 32 ∧ KY 32 32 := by decide +kernel
@[go_sem] theorem is_32_30 : KN 33 32 ∧ KN 34 32 ∧ KN 35 32 ∧ KN 36 32 ∧ KN 37 32 ∧ KN 38 32 ∧ KN 39 32 ∧ KN 40 32 ∧ KN 41 32 ∧ KN 42 32 ∧ KN 43 32 ∧ KN 44 32 := by decide +kernel
@[go_sem] theorem dp_32 : isIn 999999 (tabX.keep 32) = false := id rfl
@[go_sem] theorem is_33_0 : KY 4 33 ∧ KN 5 33 ∧ KN 6 33 ∧ KN 7 33 ∧ KN 8 33 ∧ KY 9 33 ∧ KN 10 33 ∧ KN 11 33 ∧ KN 12 33 ∧ KN 13 33 ∧ KN 14 33 ∧ KN 15 33 ∧ KN 16 33 ∧ KN 17 33 := by decide +kernel
@[go_sem] theorem dp_33 : isIn 999999 (tabX.keep 33) = false := id rfl
@[go_sem] theorem is_34_0 : KY 2 34 ∧ KY 4 34 ∧ KY 5 34 ∧ KY 6 34 ∧ KY 7 34 ∧ KY 8 34 ∧ KY 9 34 ∧ KN 10 34 ∧ KN 11 34 ∧ KN 12 34 ∧ KN 13 34 ∧ KN 14 34 ∧ KN 15 34 ∧ KN 16 34 ∧ KN 17 34 ∧ KN 18 34 ∧ KN 19 34 ∧ KN 20 34 ∧ KY 21 34 ∧ KN 22 34 ∧ KN 23 34 ∧ KN 24 34 ∧ KN 25 34 ∧ KN 26 34 ∧ KN 27 34 ∧ KN 28 34 ∧ KN 29 34 ∧ KN 30 34 ∧ KN 31 34 ∧ KN 32 34 := by decide +kernel
@[go_sem] theorem dp_34 : isIn 999999 (tabX.keep 34) = false := id rfl
@[go_sem] theorem is_35_0 : KY 4 35 ∧ KY 5 35 ∧ KY 6 35 ∧ KN 7 35 ∧ KN 8 35 ∧ KN 9 35 ∧ KY 10 35 ∧ KN 11 35 ∧ KN 12 35 ∧ KN 13 35 ∧ KN 14 35 ∧ KN 15 35 ∧ KN 16 35 ∧ KN 17 35 ∧ KN 18 35 ∧ KN 19 35 ∧ KN 20 35 ∧ KN 21 35 ∧ KN 22 35 := by decide +kernel
@[go_sem] theorem dp_35 : isIn 999999 (tabX.keep 35) = false := id rfl
@[go_sem] theorem is_36_0 : KY 2 36 ∧ KY 4 36 ∧ KY 5 36 ∧ KY 6 36 ∧ KN 7 36 ∧ KN 8 36 ∧ KN 9 36 ∧ KN 10 36 ∧ KN 11 36 ∧ KN 12 36 ∧ KN 13 36 ∧ KN 14 36 ∧ KN 15 36 ∧ KN 16 36 ∧ KY 17 36 ∧ KN 18 36 ∧ KN 19 36 ∧ KN 20 36 ∧ KN 21 36 ∧ KN 22 36 ∧ KN 23 36 ∧ KN 24 36 ∧ KN 25 36 ∧ KN 26 36 ∧ KN 27 36 ∧ KN 28 36 ∧ KN 29 36 ∧ KN 30 36 ∧ KN 31 36 := by decide +kernel
@[go_sem] theorem dp_36 : isIn 999999 (tabX.keep 36) = false := id rfl
@[go_sem] theorem is_38_0 : KY 1 38 ∧ KY 2 38 ∧ KY 3 38 ∧ KY 4 38 ∧ KY 5 38 ∧ KY 6 38 ∧ KY 7 38 ∧ KY 8 38 ∧ KY 9 38 ∧ KY 10 38 ∧ KY 11 38 ∧ KN 12 38 ∧ KN 13 38 ∧ KN 14 38 ∧ KN 15 38 ∧ KN 16 38 ∧ KN 17 38 ∧ KN 18 38 ∧ KN 19 38 ∧ KN 20 38 ∧ KN 21 38 ∧ KN 22 38 ∧ KN 23 38 ∧ KN 24 38 ∧ KN 25 38 ∧ KN 26 38 ∧ KN 27 38 ∧ KN 28 38 ∧ KN 29 38 ∧ KN 30 38 := by decide +kernel
@[go_sem] theorem is_38_30 : KN 31 38 ∧ KN 32 38 ∧ KN 33 38 ∧ KN 34 38 ∧ KN 35 38 ∧ KN 36 38 ∧ KN 37 38 ∧ KN 38 38 ∧ KY 39 38 ∧ KN 40 38 ∧ KN 41 38 ∧ KN 42 38 ∧ KN 43 38 ∧ KY 44 38 ∧ KN 45 38 ∧ KN 46 38 ∧ KN 47 38 ∧ KN 48 38 ∧ KY 49 38 ∧ KN 50 38 ∧ KN 51 38 ∧ KN 52 38 ∧ KN 53 38 ∧ KN 54 38 ∧ KN 55 38 ∧ KN 56 38 ∧ KN 57 38 ∧ KY 58 38 ∧ KN 59 38 ∧ KN 60 38 := by decide +kernel
@[go_sem] theorem is_38_60 : KN 61 38 ∧ KN 62 38 ∧ KY 63 38 ∧ KN 64 38 ∧ KN 65 38 ∧ KN 66 38 ∧ KN 67 38 ∧ KY 68 38 ∧ KN 69 38 ∧ KN 70 38 ∧ KN 71 38 ∧ KN 72 38 ∧ KN 73 38 ∧ KN 74 38 ∧ KN 75 38 ∧ KN 76 38 ∧ KN 77 38 ∧ KN 78 38 ∧ KN 79 38 ∧ KN 80 38 ∧ KN 81 38 ∧ KN 82 38 ∧ KN 83 38 ∧ KN 84 38 ∧ KN 85 38 ∧ KN 86 38 ∧ KN 87 38 ∧ KN 88 38 ∧ KN 89 38 ∧ KN 90 38 := by decide +kernel
@[go_sem] theorem is_38_90 : KN 91 38 ∧ KN 92 38 ∧ KN 93 38 ∧ KN 94 38 ∧ KN 95 38 ∧ KN 96 38 ∧ KN 97 38 ∧ KN 98 38 ∧ KY 99 38 ∧ KN 100 38 ∧ KY 101 38 ∧ KN 102 38 ∧ KN 103 38 ∧ KN 104 38 ∧ KN 105 38 ∧ KN 106 38 ∧ KY 107 38 ∧ KN 108 38 ∧ KN 109 38 ∧ KN 110 38 ∧ KN 111 38 ∧ KY 112 38 ∧ KN 113 38 ∧ KN 114 38 ∧ KN 115 38 ∧ KN 116 38 ∧ KN 117 38 ∧ KN 118 38 ∧ KY 119 38 ∧ KN 120 38 := by decide +kernel
@[go_sem] theorem is_38_120 : KN 121 38 ∧ KN 122 38 ∧ KN 123 38 ∧ KN 124 38 ∧ KY 125 38 ∧ KN 126 38 ∧ KN 127 38 ∧ KN 128 38 ∧ KN 129 38 ∧ KY 130 38 ∧ KN 131 38 ∧ KN 132 38 ∧ KN 133 38 ∧ KN 134 38 ∧ KN 135 38 ∧ KN 136 38 ∧ KN 137 38 ∧ KN 138 38 ∧ KN 139 38 ∧ KN 140 38 ∧ KN 141 38 ∧ KN 142 38 ∧ KN 143 38 ∧ KY 144 38 ∧ KN 145 38 ∧ KN 146 38 ∧ KN 147 38 ∧ KN 148 38 ∧ KN 149 38 ∧ KN 150 38 := by decide +kernel
@[go_sem] theorem is_38_150 : KN 151 38 ∧ KN 152 38 ∧ KY 153 38 ∧ KN 154 38 := by decide +kernel
@[go_sem] theorem dp_38 : isIn 999999 (tabX.keep 38) = false := id rfl
@[go_sem] theorem is_44_0 : KY 4 44 ∧ KY 5 44 ∧ KY 8 44 ∧ KY 9 44 ∧ KN 10 44 ∧ KN 11 44 ∧ KN 12 44 ∧ KN 13 44 ∧ KN 14 44 ∧ KN 15 44 ∧ KN 16 44 ∧ KN 17 44 ∧ KN 18 44 ∧ KN 19 44 ∧ KN 20 44 ∧ KN 21 44 ∧ KN 22 44 ∧ KN 23 44 ∧ KY 24 44 ∧ KN 25 44 ∧ KN 26 44 ∧ KN 27 44 ∧ KN 28 44 ∧ KN 29 44 := by decide +kernel
@[go_sem] theorem dp_44 : isIn 999999 (tabX.keep 44) = false := id rfl
@[go_sem] theorem is_45_0 : KY 2 45 ∧ KY 4 45 ∧ KY 5 45 ∧ KN 6 45 ∧ KN 7 45 ∧ KY 8 45 ∧ KY 9 45 ∧ KY 10 45 ∧ KN 11 45 ∧ KN 12 45 ∧ KN 13 45 ∧ KN 14 45 ∧ KN 15 45 ∧ KN 16 45 ∧ KN 17 45 ∧ KY 18 45 ∧ KN 19 45 ∧ KN 20 45 ∧ KN 21 45 ∧ KN 22 45 ∧ KY 23 45 ∧ KN 24 45 ∧ KN 25 45 ∧ KN 26 45 ∧ KN 27 45 ∧ KN 28 45 ∧ KY 29 45 ∧ KN 30 45 := by decide +kernel
@[go_sem] theorem dp_45 : isIn 999999 (tabX.keep 45) = false := id rfl
@[go_sem] theorem is_46_0 : KY 3 46 ∧ KY 4 46 ∧ KY 5 46 ∧ KY 6 46 ∧ KN 7 46 := by decide +kernel
@[go_sem] theorem dp_46 : isIn 999999 (tabX.keep 46) = false := id rfl
@[go_sem] theorem is_47_0 : KY 1 47 ∧ KY 2 47 ∧ KN 3 47 := by decide +kernel
@[go_sem] theorem dp_47 : isIn 999999 (tabX.keep 47) = false := id rfl
@[go_sem] theorem is_48_0 : KY 4 48 ∧ KY 5 48 ∧ KN 6 48 ∧ KY 7 48 ∧ KY 8 48 ∧ KY 9 48 ∧ KN 10 48 ∧ KN 11 48 ∧ KN 12 48 ∧ KN 13 48 ∧ KN 14 48 ∧ KN 15 48 ∧ KY 16 48 ∧ KN 17 48 ∧ KN 18 48 := by decide +kernel
@[go_sem] theorem dp_48 : isIn 999999 (tabX.keep 48) = false := id rfl
@[go_sem] theorem is_49_0 : KY 2 49 ∧ KN 3 49 ∧ KN 4 49 := by decide +kernel
@[go_sem] theorem dp_49 : isIn 999999 (tabX.keep 49) = false := id rfl
@[go_sem] theorem is_50_0 : KY 3 50 ∧ KY 6 50 ∧ KN 7 50 ∧ KN 8 50 ∧ KY 9 50 ∧ KN 10 50 ∧ KN 11 50 ∧ KN 12 50 ∧ KN 13 50 ∧ KN 14 50 ∧ KN 15 50 ∧ KY 16 50 ∧ KN 17 50 ∧ KN 18 50 ∧ KN 19 50 ∧ KY 20 50 ∧ KN 21 50 ∧ KN 22 50 ∧ KN 23 50 ∧ KN 24 50 ∧ KN 25 50 ∧ KY 26 50 ∧ KN 27 50 ∧ KN 28 50 ∧ KN 29 50 := by decide +kernel
@[go_sem] theorem dp_50 : isIn 999999 (tabX.keep 50) = false := id rfl
@[go_sem] theorem is_51_0 : KY 1 51 ∧ KY 2 51 ∧ KY 3 51 ∧ KY 4 51 ∧ KY 5 51 ∧ KY 6 51 ∧ KN 7 51 ∧ KN 8 51 ∧ KN 9 51 ∧ KN 10 51 ∧ KN 11 51 ∧ KY 12 51 ∧ KN 13 51 ∧ KN 14 51 ∧ KN 15 51 ∧ KN 16 51 ∧ KN 17 51 ∧ KY 18 51 ∧ KN 19 51 ∧ KN 20 51 ∧ KN 21 51 ∧ KN 22 51 ∧ KN 23 51 ∧ KN 24 51 ∧ KN 25 51 ∧ KN 26 51 ∧ KY 27 51 ∧ KN 28 51 ∧ KN 29 51 ∧ KN 30 51 := by decide +kernel
@[go_sem] theorem is_51_30 : KN 31 51 ∧ KN 32 51 ∧ KN 33 51 ∧ KN 34 51 ∧ KN 35 51 ∧ KN 36 51 ∧ KN 37 51 ∧ KN 38 51 ∧ KN 39 51 ∧ KN 40 51 ∧ KN 41 51 ∧ KN 42 51 ∧ KN 43 51 ∧ KN 44 51 ∧ KY 45 51 ∧ KN 46 51 ∧ KN 47 51 ∧ KN 48 51 ∧ KN 49 51 ∧ KN 50 51 ∧ KN 51 51 ∧ KN 52 51 ∧ KN 53 51 ∧ KN 54 51 ∧ KN 55 51 ∧ KN 56 51 ∧ KN 57 51 ∧ KN 58 51 := by decide +kernel
@[go_sem] theorem dp_51 : isIn 999999 (tabX.keep 51) = false := id rfl
@[go_sem] theorem is_52_0 : KY 2 52 ∧ KY 4 52 ∧ KY 5 52 ∧ KY 6 52 ∧ KY 7 52 ∧ KN 8 52 ∧ KN 9 52 ∧ KN 10 52 ∧ KN 11 52 ∧ KN 12 52 ∧ KN 13 52 ∧ KN 14 52 ∧ KN 15 52 ∧ KN 16 52 ∧ KN 17 52 ∧ KN 18 52 ∧ KN 19 52 ∧ KY 20 52 ∧ KN 21 52 ∧ KN 22 52 ∧ KN 23 52 ∧ KN 24 52 ∧ KN 25 52 ∧ KN 26 52 ∧ KN 27 52 ∧ KN 28 52 ∧ KN 29 52 ∧ KN 30 52 ∧ KN 31 52 ∧ KN 32 52 := by decide +kernel
@[go_sem] theorem is_52_30 : KN 33 52 ∧ KN 34 52 ∧ KN 35 52 ∧ KN 36 52 ∧ KN 37 52 ∧ KN 38 52 ∧ KN 39 52 ∧ KN 40 52 := by decide +kernel
@[go_sem] theorem dp_52 : isIn 999999 (tabX.keep 52) = false := id rfl
@[go_sem] theorem is_53_0 : KY 2 53 ∧ KY 4 53 ∧ KY 5 53 ∧ KY 6 53 ∧ KN 7 53 ∧ KN 8 53 ∧ KN 9 53 ∧ KN 10 53 ∧ KY 11 53 ∧ KN 12 53 ∧ KN 13 53 ∧ KN 14 53 ∧ KN 15 53 ∧ KN 16 53 ∧ KN 17 53 ∧ KN 18 53 ∧ KN 19 53 ∧ KN 20 53 ∧ KY 21 53 ∧ KN 22 53 ∧ KN 23 53 ∧ KN 24 53 := by decide +kernel
@[go_sem] theorem dp_53 : isIn 999999 (tabX.keep 53) = false := id rfl
@[go_sem] theorem is_54_0 : KY 4 54 ∧ KY 5 54 ∧ KY 6 54 ∧ KN 7 54 ∧ KN 8 54 ∧ KY 9 54 ∧ KN 10 54 := by decide +kernel
@[go_sem] theorem dp_54 : isIn 999999 (tabX.keep 54) = false := id rfl
@[go_sem] theorem is_55_0 : KY 2 55 ∧ KN 3 55 ∧ KN 4 55 ∧ KN 5 55 ∧ KN 6 55 ∧ KN 7 55 ∧ KN 8 55 ∧ KN 9 55 ∧ KN 10 55 ∧ KN 11 55 ∧ KN 12 55 ∧ KN 13 55 ∧ KN 14 55 ∧ KN 15 55 ∧ KN 16 55 ∧ KN 17 55 ∧ KN 18 55 ∧ KN 19 55 ∧ KN 20 55 ∧ KN 21 55 ∧ KN 22 55 := by decide +kernel
@[go_sem] theorem dp_55 : isIn 999999 (tabX.keep 55) = false := id rfl
@[go_sem] theorem is_56_0 : KY 4 56 ∧ KN 5 56 ∧ KN 6 56 ∧ KN 7 56 := by decide +kernel
@[go_sem] theorem dp_56 : isIn 999999 (tabX.keep 56) = false := id rfl
@[go_sem] theorem is_57_0 : isIn 0 (tabX.keep 57) = true := id rfl
@[go_sem] theorem dp_57 : isIn 999999 (tabX.keep 57) = false := id rfl
@[go_sem] theorem is_58_0 : KY 1 58 ∧ KY 2 58 ∧ KY 3 58 ∧ KY 4 58 ∧ KN 5 58 ∧ KY 6 58 ∧ KY 7 58 ∧ KN 8 58 ∧ KN 9 58 ∧ KN 10 58 ∧ KN 11 58 ∧ KN 12 58 ∧ KN 13 58 ∧ KN 14 58 ∧ KN 15 58 ∧ KN 16 58 ∧ KN 17 58 ∧ KN 18 58 ∧ KN 19 58 ∧ KN 20 58 ∧ KN 21 58 ∧ KN 22 58 ∧ KN 23 58 ∧ KN 24 58 ∧ KN 25 58 ∧ KN 26 58 ∧ KN 27 58 ∧ KY 28 58 ∧ KN 29 58 ∧ KN 30 58 := by decide +kernel
@[go_sem] theorem is_58_30 : KN 31 58 ∧ KN 32 58 ∧ KN 33 58 ∧ KN 34 58 ∧ KN 35 58 ∧ KN 36 58 ∧ KN 37 58 ∧ KN 38 58 ∧ KN 39 58 ∧ KN 40 58 := by decide +kernel
@[go_sem] theorem dp_58 : isIn 999999 (tabX.keep 58) = false := id rfl
@[go_sem] theorem is_59_0 : KY 2 59 ∧ KY 3 59 ∧ KY 4 59 ∧ KN 5 59 ∧ KN 6 59 ∧ KY 7 59 ∧ KN 8 59 ∧ KN 9 59 ∧ KN 10 59 ∧ KN 11 59 ∧ KN 12 59 ∧ KN 13 59 ∧ KN 14 59 ∧ KY 15 59 ∧ KN 16 59 ∧ KN 17 59 ∧ KN 18 59 ∧ KN 19 59 ∧ KN 20 59 ∧ KN 21 59 ∧ KN 22 59 ∧ KN 23 59 ∧ KN 24 59 := by decide +kernel
@[go_sem] theorem dp_59 : isIn 999999 (tabX.keep 59) = false := id rfl
@[go_sem] theorem is_60_0 : KY 4 60 ∧ KY 5 60 ∧ KY 6 60 ∧ KY 7 60 ∧ KY 8 60 ∧ KY 9 60 ∧ KY 10 60 ∧ KN 11 60 ∧ KN 12 60 ∧ KN 13 60 ∧ KN 14 60 ∧ KN 15 60 ∧ KN 16 60 ∧ KN 17 60 ∧ KN 18 60 ∧ KN 19 60 ∧ KN 20 60 ∧ KN 21 60 ∧ KN 22 60 ∧ KN 23 60 ∧ KN 24 60 ∧ KN 25 60 ∧ KY 26 60 ∧ KN 27 60 ∧ KN 28 60 ∧ KY 29 60 ∧ KY 30 60 ∧ KN 31 60 ∧ KN 32 60 ∧ KN 33 60 := by decide +kernel
@[go_sem] theorem is_60_30 : KN 34 60 ∧ KN 35 60 ∧ KN 36 60 ∧ KN 37 60 ∧ KN 38 60 ∧ KN 39 60 ∧ KN 40 60 ∧ KN 41 60 ∧ KN 42 60 ∧ KN 43 60 ∧ KN 44 60 ∧ KN 45 60 ∧ KN 46 60 ∧ KN 47 60 ∧ KN 48 60 ∧ KN 49 60 ∧ KN 50 60 ∧ KN 51 60 ∧ KN 52 60 ∧ KN 53 60 ∧ KN 54 60 ∧ KN 55 60 ∧ KN 56 60 ∧ KN 57 60 ∧ KN 58 60 ∧ KY 59 60 ∧ KN 60 60 ∧ KN 61 60 ∧ KN 62 60 ∧ KN 63 60 := by decide +kernel
@[go_sem] theorem is_60_60 : KN 64 60 ∧ KN 65 60 ∧ KN 66 60 ∧ KN 67 60 ∧ KN 68 60 ∧ KN 69 60 ∧ KN 70 60 ∧ KN 71 60 ∧ KN 72 60 ∧ KN 73 60 ∧ KN 74 60 ∧ KN 75 60 ∧ KN 76 60 ∧ KN 77 60 ∧ KN 78 60 ∧ KN 79 60 ∧ KN 80 60 ∧ KN 81 60 ∧ KN 82 60 ∧ KN 83 60 ∧ KN 84 60 ∧ KN 85 60 ∧ KN 86 60 ∧ KN 87 60 ∧ KN 88 60 ∧ KY 89 60 ∧ KY 90 60 ∧ KY 91 60 ∧ KY 92 60 ∧ KN 93 60 := by decide +kernel
@[go_sem] theorem is_60_90 : KN 94 60 ∧ KN 95 60 ∧ KN 96 60 ∧ KN 97 60 ∧ KN 98 60 ∧ KN 99 60 ∧ KN 100 60 ∧ KN 101 60 ∧ KN 102 60 ∧ KN 103 60 ∧ KN 104 60 ∧ KN 105 60 ∧ KN 106 60 ∧ KN 107 60 ∧ KN 108 60 ∧ KN 109 60 ∧ KN 110 60 ∧ KN 111 60 ∧ KN 112 60 ∧ KN 113 60 ∧ KN 114 60 ∧ KN 115 60 ∧ KN 116 60 ∧ KY 117 60 ∧ KN 118 60 ∧ KN 119 60 ∧ KN 120 60 ∧ KN 121 60 ∧ KN 122 60 ∧ KN 123 60 := by decide +kernel
@[go_sem] theorem is_60_120 : KN 124 60 ∧ KN 125 60 ∧ KN 126 60 ∧ KN 127 60 := by decide +kernel
@[go_sem] theorem dp_60 : isIn 999999 (tabX.keep 60) = false := id rfl
@[go_sem] theorem is_61_0 : KY 4 61 ∧ KY 5 61 ∧ KY 6 61 ∧ KY 7 61 ∧ KN 8 61 ∧ KY 9 61 ∧ KY 10 61 ∧ KY 11 61 ∧ KN 12 61 ∧ KN 13 61 ∧ KN 14 61 ∧ KN 15 61 ∧ KN 16 61 ∧ KN 17 61 ∧ KN 18 61 ∧ KN 19 61 ∧ KN 20 61 ∧ KN 21 61 ∧ KN 22 61 ∧ KN 23 61 ∧ KN 24 61 ∧ KN 25 61 ∧ KN 26 61 ∧ KN 27 61 ∧ KN 28 61 ∧ KN 29 61 ∧ KN 30 61 ∧ KN 31 61 ∧ KN 32 61 ∧ KN 33 61 := by decide +kernel
@[go_sem] theorem is_61_30 : KN 34 61 ∧ KN 35 61 ∧ KY 36 61 ∧ KN 37 61 ∧ KN 38 61 ∧ KY 39 61 ∧ KN 40 61 ∧ KN 41 61 ∧ KN 42 61 := by decide +kernel
@[go_sem] theorem dp_61 : isIn 999999 (tabX.keep 61) = false := id rfl
@[go_sem] theorem is_62_0 : KY 3 62 ∧ KN 4 62 ∧ KN 5 62 ∧ KN 6 62 ∧ KN 7 62 ∧ KN 8 62 ∧ KN 9 62 ∧ KN 10 62 := by decide +kernel
@[go_sem] theorem dp_62 : isIn 999999 (tabX.keep 62) = false := id rfl
@[go_sem] theorem is_63_0 : KY 4 63 ∧ KY 5 63 ∧ KY 6 63 ∧ KY 7 63 ∧ KY 8 63 ∧ KY 9 63 ∧ KY 10 63 ∧ KN 11 63 ∧ KN 12 63 ∧ KN 13 63 ∧ KY 14 63 ∧ KN 15 63 ∧ KN 16 63 ∧ KN 17 63 ∧ KN 18 63 ∧ KN 19 63 ∧ KY 20 63 ∧ KN 21 63 ∧ KN 22 63 ∧ KN 23 63 ∧ KY 24 63 ∧ KN 25 63 ∧ KN 26 63 ∧ KN 27 63 ∧ KN 28 63 ∧ KN 29 63 ∧ KN 30 63 ∧ KN 31 63 ∧ KN 32 63 ∧ KN 33 63 := by decide +kernel
@[go_sem] theorem is_63_30 : KN 34 63 ∧ KN 35 63 ∧ KN 36 63 ∧ KY 37 63 ∧ KN 38 63 ∧ KN 39 63 ∧ KN 40 63 ∧ KN 41 63 ∧ KN 42 63 ∧ KN 43 63 ∧ KN 44 63 ∧ KN 45 63 ∧ KN 46 63 ∧ KN 47 63 ∧ KN 48 63 ∧ KN 49 63 ∧ KN 50 63 ∧ KN 51 63 ∧ KN 52 63 ∧ KN 53 63 := by decide +kernel
@[go_sem] theorem dp_63 : isIn 999999 (tabX.keep 63) = false := id rfl
@[go_sem] theorem is_64_0 : KY 4 64 ∧ KY 5 64 ∧ KN 6 64 ∧ KN 7 64 ∧ KN 8 64 ∧ KN 9 64 ∧ KN 10 64 ∧ KN 11 64 ∧ KN 12 64 ∧ KN 13 64 ∧ KN 14 64 ∧ KN 15 64 ∧ KN 16 64 ∧ KN 17 64 ∧ KN 18 64 ∧ KN 19 64 ∧ KN 20 64 ∧ KN 21 64 ∧ KN 22 64 ∧ KN 23 64 ∧ KN 24 64 ∧ KN 25 64 ∧ KY 26 64 ∧ KN 27 64 ∧ KN 28 64 ∧ KN 29 64 ∧ KN 30 64 ∧ KN 31 64 ∧ KY 32 64 ∧ KN 33 64 := by decide +kernel
@[go_sem] theorem is_64_30 : KN 34 64 ∧ KN 35 64 ∧ KN 36 64 ∧ KN 37 64 ∧ KN 38 64 ∧ KN 39 64 ∧ KN 40 64 ∧ KN 41 64 ∧ KN 42 64 ∧ KN 43 64 ∧ KN 44 64 ∧ KN 45 64 ∧ KN 46 64 ∧ KN 47 64 := by decide +kernel
@[go_sem] theorem dp_64 : isIn 999999 (tabX.keep 64) = false := id rfl
@[go_sem] theorem is_65_0 : KY 1 65 ∧ KY 2 65 ∧ KY 3 65 ∧ KY 4 65 ∧ KY 5 65 ∧ KY 6 65 ∧ KY 7 65 ∧ KN 8 65 ∧ KN 9 65 ∧ KN 10 65 ∧ KN 11 65 ∧ KN 12 65 ∧ KN 13 65 ∧ KN 14 65 ∧ KN 15 65 ∧ KN 16 65 ∧ KN 17 65 ∧ KN 18 65 ∧ KY 19 65 ∧ KY 20 65 ∧ KY 21 65 ∧ KY 22 65 ∧ KN 23 65 ∧ KN 24 65 ∧ KN 25 65 ∧ KN 26 65 ∧ KN 27 65 ∧ KN 28 65 ∧ KN 29 65 ∧ KN 30 65 := by decide +kernel
@[go_sem] theorem is_65_30 : KN 31 65 ∧ KN 32 65 ∧ KY 33 65 ∧ KN 34 65 ∧ KN 35 65 ∧ KN 36 65 ∧ KN 37 65 ∧ KN 38 65 := by decide +kernel
@[go_sem] theorem dp_65 : isIn 999999 (tabX.keep 65) = false := id rfl
@[go_sem] theorem is_66_0 : KY 1 66 ∧ KY 2 66 ∧ KN 3 66 ∧ KN 4 66 ∧ KN 5 66 := by decide +kernel
@[go_sem] theorem dp_66 : isIn 999999 (tabX.keep 66) = false := id rfl
@[go_sem] theorem is_67_0 : KY 3 67 ∧ KN 4 67 ∧ KN 5 67 ∧ KN 6 67 ∧ KN 7 67 ∧ KN 8 67 ∧ KN 9 67 := by decide +kernel
@[go_sem] theorem dp_67 : isIn 999999 (tabX.keep 67) = false := id rfl
@[go_sem] theorem is_68_0 : KY 2 68 ∧ KY 3 68 ∧ KN 4 68 ∧ KN 5 68 ∧ KN 6 68 ∧ KN 7 68 ∧ KN 8 68 ∧ KY 9 68 ∧ KY 10 68 ∧ KY 11 68 ∧ KN 12 68 ∧ KN 13 68 ∧ KN 14 68 ∧ KN 15 68 ∧ KN 16 68 ∧ KY 17 68 ∧ KN 18 68 := by decide +kernel
@[go_sem] theorem dp_68 : isIn 999999 (tabX.keep 68) = false := id rfl
@[go_sem] theorem is_69_0 : KY 2 69 ∧ KY 4 69 ∧ KY 5 69 ∧ KY 6 69 ∧ KN 7 69 ∧ KN 8 69 ∧ KN 9 69 ∧ KN 10 69 ∧ KY 11 69 ∧ KN 12 69 ∧ KN 13 69 ∧ KN 14 69 ∧ KN 15 69 ∧ KN 16 69 ∧ KN 17 69 ∧ KN 18 69 ∧ KN 19 69 ∧ KN 20 69 ∧ KN 21 69 ∧ KN 22 69 ∧ KN 23 69 := by decide +kernel
@[go_sem] theorem dp_69 : isIn 999999 (tabX.keep 69) = false := id rfl
@[go_sem] theorem is_70_0 : KY 1 70 ∧ KY 2 70 ∧ KN 3 70 ∧ KN 4 70 ∧ KY 5 70 ∧ KN 6 70 ∧ KN 7 70 ∧ KN 8 70 ∧ KN 9 70 ∧ KN 10 70 ∧ KN 11 70 ∧ KN 12 70 ∧ KN 13 70 := by decide +kernel
@[go_sem] theorem dp_70 : isIn 999999 (tabX.keep 70) = false := id rfl
@[go_sem] theorem is_72_0 : KY 3 72 ∧ KY 6 72 ∧ KY 7 72 ∧ KY 8 72 ∧ KY 9 72 ∧ KY 10 72 ∧ KY 11 72 ∧ KY 12 72 ∧ KY 13 72 ∧ KY 14 72 ∧ KN 15 72 ∧ KN 16 72 ∧ KN 17 72 ∧ KN 18 72 ∧ KN 19 72 ∧ KN 20 72 ∧ KN 21 72 ∧ KN 22 72 ∧ KN 23 72 ∧ KN 24 72 ∧ KN 25 72 ∧ KN 26 72 ∧ KY 27 72 ∧ KN 28 72 ∧ KN 29 72 ∧ KN 30 72 ∧ KN 31 72 ∧ KN 32 72 ∧ KN 33 72 ∧ KN 34 72 := by decide +kernel
@[go_sem] theorem is_72_30 : KN 35 72 ∧ KN 36 72 ∧ KY 37 72 ∧ KN 38 72 ∧ KN 39 72 ∧ KN 40 72 ∧ KN 41 72 ∧ KN 42 72 ∧ KN 43 72 ∧ KN 44 72 ∧ KN 45 72 ∧ KN 46 72 ∧ KN 47 72 ∧ KN 48 72 ∧ KY 49 72 ∧ KN 50 72 ∧ KN 51 72 ∧ KN 52 72 ∧ KN 53 72 ∧ KN 54 72 ∧ KN 55 72 ∧ KN 56 72 ∧ KN 57 72 ∧ KN 58 72 ∧ KN 59 72 ∧ KN 60 72 ∧ KN 61 72 ∧ KN 62 72 ∧ KN 63 72 ∧ KN 64 72 := by decide +kernel
@[go_sem] theorem is_72_60 : KN 65 72 ∧ KN 66 72 ∧ KN 67 72 ∧ KN 68 72 ∧ KN 69 72 ∧ KN 70 72 ∧ KN 71 72 ∧ KN 72 72 ∧ KN 73 72 ∧ KN 74 72 ∧ KY 75 72 ∧ KN 76 72 ∧ KN 77 72 ∧ KN 78 72 ∧ KN 79 72 := by decide +kernel
@[go_sem] theorem dp_72 : isIn 999999 (tabX.keep 72) = false := id rfl
@[go_sem] theorem is_73_0 : KY 4 73 ∧ KY 5 73 ∧ KN 6 73 ∧ KN 7 73 ∧ KN 8 73 ∧ KY 9 73 ∧ KN 10 73 ∧ KN 11 73 ∧ KY 12 73 ∧ KN 13 73 := by decide +kernel
@[go_sem] theorem dp_73 : isIn 999999 (tabX.keep 73) = false := id rfl
@[go_sem] theorem is_75_0 : KY 2 75 ∧ KY 4 75 ∧ KY 5 75 ∧ KY 6 75 ∧ KY 7 75 ∧ KN 8 75 ∧ KN 9 75 ∧ KN 10 75 ∧ KN 11 75 ∧ KN 12 75 ∧ KN 13 75 ∧ KN 14 75 ∧ KN 15 75 ∧ KN 16 75 ∧ KN 17 75 ∧ KN 18 75 ∧ KN 19 75 ∧ KN 20 75 ∧ KN 21 75 ∧ KN 22 75 ∧ KN 23 75 ∧ KN 24 75 ∧ KN 25 75 ∧ KN 26 75 ∧ KN 27 75 ∧ KN 28 75 ∧ KN 29 75 ∧ KY 30 75 ∧ KN 31 75 ∧ KN 32 75 := by decide +kernel
@[go_sem] theorem is_75_30 : KN 33 75 ∧ KN 34 75 ∧ KN 35 75 ∧ KN 36 75 ∧ KN 37 75 ∧ KN 38 75 ∧ KN 39 75 ∧ KN 40 75 ∧ KN 41 75 ∧ KN 42 75 ∧ KN 43 75 ∧ KN 44 75 ∧ KN 45 75 ∧ KN 46 75 ∧ KN 47 75 ∧ KN 48 75 ∧ KN 49 75 ∧ KN 50 75 ∧ KY 51 75 ∧ KN 52 75 ∧ KN 53 75 ∧ KN 54 75 ∧ KN 55 75 ∧ KN 56 75 ∧ KN 57 75 ∧ KN 58 75 ∧ KN 59 75 ∧ KN 60 75 ∧ KN 61 75 ∧ KN 62 75 := by decide +kernel
@[go_sem] theorem is_75_60 : KN 63 75 ∧ KN 64 75 ∧ KN 65 75 ∧ KN 66 75 ∧ KN 67 75 ∧ KN 68 75 ∧ KN 69 75 ∧ KN 70 75 ∧ KN 71 75 ∧ KN 72 75 ∧ KY 73 75 := by decide +kernel
@[go_sem] theorem dp_75 : isIn 999999 (tabX.keep 75) = false := id rfl
@[go_sem] theorem is_98_0 : KY 3 98 ∧ KN 4 98 ∧ KN 5 98 ∧ KN 6 98 ∧ KN 7 98 ∧ KY 8 98 ∧ KN 9 98 := by decide +kernel
@[go_sem] theorem dp_98 : isIn 999999 (tabX.keep 98) = false := id rfl
@[go_sem] theorem is_99_0 : KY 3 99 ∧ KY 4 99 ∧ KY 6 99 ∧ KN 7 99 ∧ KN 8 99 ∧ KN 9 99 := by decide +kernel
@[go_sem] theorem dp_99 : isIn 999999 (tabX.keep 99) = false := id rfl
@[go_sem] theorem is_100_0 : KY 2 100 ∧ KY 3 100 ∧ KY 4 100 ∧ KY 5 100 ∧ KY 6 100 ∧ KN 7 100 ∧ KN 8 100 ∧ KN 9 100 ∧ KN 10 100 ∧ KN 11 100 ∧ KY 12 100 ∧ KY 13 100 ∧ KN 14 100 ∧ KN 15 100 ∧ KN 16 100 ∧ KN 17 100 ∧ KN 18 100 ∧ KN 19 100 ∧ KN 20 100 ∧ KN 21 100 ∧ KN 22 100 ∧ KY 23 100 := by decide +kernel
@[go_sem] theorem dp_100 : isIn 999999 (tabX.keep 100) = false := id rfl
@[go_sem] theorem is_101_0 : KY 6 101 ∧ KY 7 101 ∧ KY 8 101 ∧ KY 9 101 ∧ KY 10 101 ∧ KY 11 101 ∧ KY 13 101 ∧ KY 14 101 ∧ KN 15 101 ∧ KN 16 101 ∧ KN 17 101 ∧ KN 18 101 ∧ KN 19 101 ∧ KN 20 101 ∧ KN 21 101 ∧ KN 22 101 ∧ KN 23 101 ∧ KY 24 101 ∧ KN 25 101 ∧ KN 26 101 ∧ KN 27 101 ∧ KY 28 101 ∧ KN 29 101 ∧ KN 30 101 ∧ KN 31 101 ∧ KN 32 101 ∧ KN 33 101 ∧ KN 34 101 ∧ KN 35 101 ∧ KN 36 101 := by decide +kernel
@[go_sem] theorem is_101_30 : KY 37 101 ∧ KN 38 101 ∧ KN 39 101 ∧ KN 40 101 ∧ KN 41 101 ∧ KN 42 101 ∧ KN 43 101 ∧ KN 44 101 ∧ KN 45 101 ∧ KN 46 101 ∧ KN 47 101 ∧ KN 48 101 ∧ KN 49 101 ∧ KN 50 101 ∧ KN 51 101 ∧ KN 52 101 ∧ KN 53 101 ∧ KN 54 101 ∧ KN 55 101 ∧ KN 56 101 ∧ KN 57 101 ∧ KN 58 101 ∧ KN 59 101 ∧ KN 60 101 ∧ KN 61 101 ∧ KN 62 101 ∧ KN 63 101 ∧ KN 64 101 ∧ KN 65 101 ∧ KN 66 101 := by decide +kernel
@[go_sem] theorem is_101_60 : KN 67 101 ∧ KN 68 101 ∧ KN 69 101 ∧ KN 70 101 ∧ KN 71 101 ∧ KN 72 101 ∧ KN 73 101 ∧ KN 74 101 ∧ KN 75 101 ∧ KN 76 101 ∧ KN 77 101 ∧ KN 78 101 ∧ KN 79 101 ∧ KY 80 101 ∧ KN 81 101 ∧ KN 82 101 ∧ KN 83 101 ∧ KY 84 101 ∧ KN 85 101 ∧ KN 86 101 ∧ KN 87 101 ∧ KN 88 101 ∧ KY 89 101 ∧ KN 90 101 ∧ KN 91 101 ∧ KN 92 101 ∧ KY 93 101 ∧ KY 94 101 ∧ KY 95 101 ∧ KY 96 101 := by decide +kernel
@[go_sem] theorem is_101_90 : KN 97 101 ∧ KN 98 101 ∧ KN 99 101 ∧ KN 100 101 ∧ KN 101 101 ∧ KN 102 101 ∧ KN 103 101 ∧ KN 104 101 ∧ KN 105 101 ∧ KN 106 101 ∧ KN 107 101 ∧ KN 108 101 ∧ KN 109 101 ∧ KN 110 101 ∧ KY 111 101 ∧ KN 112 101 ∧ KN 113 101 ∧ KN 114 101 ∧ KN 115 101 ∧ KN 116 101 ∧ KN 117 101 ∧ KN 118 101 ∧ KN 119 101 ∧ KN 120 101 ∧ KY 121 101 ∧ KN 122 101 := by decide +kernel
@[go_sem] theorem dp_101 : isIn 999999 (tabX.keep 101) = false := id rfl
@[go_sem] theorem is_102_0 : KY 3 102 ∧ KY 4 102 ∧ KN 5 102 ∧ KN 6 102 ∧ KN 7 102 ∧ KN 8 102 ∧ KN 9 102 ∧ KN 10 102 ∧ KN 11 102 ∧ KN 12 102 ∧ KN 13 102 ∧ KN 14 102 ∧ KN 15 102 ∧ KN 16 102 ∧ KN 17 102 ∧ KN 18 102 ∧ KN 19 102 ∧ KN 20 102 ∧ KN 21 102 ∧ KN 22 102 := by decide +kernel
@[go_sem] theorem dp_102 : isIn 999999 (tabX.keep 102) = false := id rfl
@[go_sem] theorem is_103_0 : KY 1 103 ∧ KY 2 103 ∧ KN 3 103 := by decide +kernel
@[go_sem] theorem dp_103 : isIn 999999 (tabX.keep 103) = false := id rfl
@[go_sem] theorem is_104_0 : KY 4 104 ∧ KY 5 104 ∧ KY 8 104 ∧ KY 9 104 ∧ KY 10 104 ∧ KY 11 104 ∧ KY 12 104 ∧ KY 13 104 ∧ KY 14 104 ∧ KY 15 104 ∧ KN 16 104 ∧ KN 17 104 ∧ KN 18 104 ∧ KN 19 104 ∧ KY 20 104 ∧ KN 21 104 ∧ KN 22 104 ∧ KN 23 104 ∧ KY 24 104 ∧ KN 25 104 ∧ KN 26 104 ∧ KN 27 104 ∧ KN 28 104 ∧ KN 29 104 ∧ KN 30 104 ∧ KN 31 104 ∧ KN 32 104 ∧ KN 33 104 ∧ KN 34 104 ∧ KN 35 104 := by decide +kernel
@[go_sem] theorem is_104_30 : KN 36 104 ∧ KY 37 104 ∧ KN 38 104 ∧ KN 39 104 ∧ KN 40 104 ∧ KN 41 104 ∧ KN 42 104 ∧ KN 43 104 ∧ KN 44 104 ∧ KN 45 104 ∧ KN 46 104 ∧ KN 47 104 ∧ KN 48 104 ∧ KN 49 104 ∧ KY 50 104 ∧ KN 51 104 ∧ KN 52 104 ∧ KN 53 104 ∧ KN 54 104 ∧ KN 55 104 ∧ KN 56 104 ∧ KN 57 104 ∧ KN 58 104 ∧ KN 59 104 ∧ KN 60 104 ∧ KN 61 104 ∧ KN 62 104 ∧ KN 63 104 ∧ KY 64 104 ∧ KN 65 104 := by decide +kernel
@[go_sem] theorem is_104_60 : KN 66 104 ∧ KN 67 104 ∧ KN 68 104 ∧ KN 69 104 ∧ KN 70 104 ∧ KN 71 104 ∧ KN 72 104 ∧ KN 73 104 ∧ KN 74 104 ∧ KN 75 104 ∧ KN 76 104 ∧ KN 77 104 ∧ KN 78 104 ∧ KN 79 104 ∧ KN 80 104 ∧ KN 81 104 ∧ KN 82 104 ∧ KN 83 104 ∧ KN 84 104 ∧ KN 85 104 := by decide +kernel
@[go_sem] theorem dp_104 : isIn 999999 (tabX.keep 104) = false := id rfl
@[go_sem] theorem is_107_0 : KY 4 107 ∧ KY 5 107 ∧ KY 6 107 ∧ KY 7 107 ∧ KY 8 107 ∧ KN 9 107 ∧ KN 10 107 ∧ KN 11 107 ∧ KN 12 107 ∧ KN 13 107 ∧ KY 14 107 ∧ KN 15 107 ∧ KN 16 107 ∧ KN 17 107 ∧ KN 18 107 ∧ KN 19 107 ∧ KN 20 107 := by decide +kernel
@[go_sem] theorem dp_107 : isIn 999999 (tabX.keep 107) = false := id rfl
@[go_sem] theorem is_108_0 : KY 4 108 ∧ KY 5 108 ∧ KY 6 108 ∧ KY 7 108 ∧ KY 8 108 ∧ KY 9 108 ∧ KY 10 108 ∧ KY 11 108 ∧ KY 12 108 ∧ KN 13 108 ∧ KN 14 108 ∧ KN 15 108 ∧ KN 16 108 ∧ KN 17 108 ∧ KN 18 108 ∧ KY 19 108 ∧ KN 20 108 ∧ KN 21 108 ∧ KN 22 108 ∧ KN 23 108 ∧ KN 24 108 ∧ KN 25 108 ∧ KN 26 108 ∧ KN 27 108 ∧ KY 28 108 ∧ KN 29 108 ∧ KN 30 108 ∧ KN 31 108 ∧ KN 32 108 ∧ KN 33 108 := by decide +kernel
@[go_sem] theorem is_108_30 : KN 34 108 ∧ KY 35 108 := by decide +kernel
@[go_sem] theorem dp_108 : isIn 999999 (tabX.keep 108) = false := id rfl
@[go_sem] theorem is_109_0 : KY 1 109 ∧ KY 2 109 ∧ KN 3 109 ∧ KN 4 109 ∧ KN 5 109 ∧ KN 6 109 ∧ KN 7 109 ∧ KN 8 109 ∧ KN 9 109 ∧ KN 10 109 ∧ KN 11 109 ∧ KN 12 109 ∧ KN 13 109 ∧ KN 14 109 ∧ KN 15 109 ∧ KN 16 109 ∧ KN 17 109 ∧ KN 18 109 ∧ KN 19 109 ∧ KN 20 109 ∧ KN 21 109 ∧ KN 22 109 ∧ KN 23 109 ∧ KN 24 109 ∧ KN 25 109 ∧ KY 26 109 := by decide +kernel
@[go_sem] theorem dp_109 : isIn 999999 (tabX.keep 109) = false := id rfl
@[go_sem] theorem is_110_0 : KY 1 110 ∧ KY 2 110 ∧ KN 3 110 ∧ KN 4 110 ∧ KN 5 110 ∧ KN 6 110 ∧ KN 7 110 := by decide +kernel
@[go_sem] theorem dp_110 : isIn 999999 (tabX.keep 110) = false := id rfl
@[go_sem] theorem is_111_0 : KY 8 111 ∧ KY 9 111 ∧ KY 10 111 ∧ KY 11 111 ∧ KY 12 111 ∧ KN 13 111 ∧ KN 14 111 ∧ KN 15 111 ∧ KN 16 111 ∧ KN 17 111 ∧ KY 18 111 ∧ KY 19 111 ∧ KY 20 111 ∧ KY 21 111 ∧ KY 22 111 ∧ KN 23 111 ∧ KN 24 111 ∧ KN 25 111 ∧ KN 26 111 ∧ KN 27 111 ∧ KN 28 111 ∧ KN 29 111 ∧ KN 30 111 ∧ KY 31 111 ∧ KN 32 111 ∧ KN 33 111 ∧ KN 34 111 := by decide +kernel
@[go_sem] theorem dp_111 : isIn 999999 (tabX.keep 111) = false := id rfl
@[go_sem] theorem is_112_0 : KY 4 112 ∧ KN 5 112 ∧ KN 6 112 ∧ KY 7 112 := by decide +kernel
@[go_sem] theorem dp_112 : isIn 999999 (tabX.keep 112) = false := id rfl
@[go_sem] theorem is_113_0 : KY 1 113 ∧ KY 2 113 ∧ KN 3 113 ∧ KN 4 113 ∧ KN 5 113 ∧ KN 6 113 ∧ KN 7 113 ∧ KN 8 113 := by decide +kernel
@[go_sem] theorem dp_113 : isIn 999999 (tabX.keep 113) = false := id rfl
@[go_sem] theorem is_114_0 : KY 8 114 ∧ KY 9 114 ∧ KY 10 114 ∧ KY 11 114 ∧ KY 12 114 ∧ KN 13 114 ∧ KN 14 114 ∧ KN 15 114 ∧ KN 16 114 ∧ KN 17 114 ∧ KY 18 114 ∧ KY 19 114 ∧ KY 20 114 ∧ KY 21 114 ∧ KY 22 114 ∧ KN 23 114 ∧ KN 24 114 ∧ KN 25 114 ∧ KN 26 114 ∧ KN 27 114 ∧ KN 28 114 ∧ KN 29 114 ∧ KN 30 114 ∧ KY 31 114 ∧ KN 32 114 ∧ KN 33 114 ∧ KN 34 114 := by decide +kernel
@[go_sem] theorem dp_114 : isIn 999999 (tabX.keep 114) = false := id rfl
@[go_sem] theorem is_115_0 : KY 4 115 ∧ KY 5 115 ∧ KY 6 115 ∧ KN 7 115 ∧ KN 8 115 ∧ KN 9 115 ∧ KN 10 115 ∧ KY 11 115 ∧ KN 12 115 ∧ KN 13 115 ∧ KN 14 115 ∧ KN 15 115 ∧ KN 16 115 ∧ KN 17 115 ∧ KY 18 115 ∧ KN 19 115 ∧ KN 20 115 ∧ KN 21 115 ∧ KN 22 115 := by decide +kernel
@[go_sem] theorem dp_115 : isIn 999999 (tabX.keep 115) = false := id rfl
@[go_sem] theorem is_116_0 : KY 2 116 ∧ KY 3 116 ∧ KY 4 116 ∧ KY 5 116 ∧ KN 6 116 ∧ KY 7 116 ∧ KY 8 116 ∧ KY 9 116 ∧ KN 10 116 ∧ KN 11 116 ∧ KN 12 116 ∧ KN 13 116 ∧ KN 14 116 ∧ KN 15 116 ∧ KN 16 116 ∧ KN 17 116 ∧ KN 18 116 ∧ KN 19 116 ∧ KN 20 116 ∧ KN 21 116 ∧ KN 22 116 ∧ KN 23 116 ∧ KN 24 116 ∧ KN 25 116 ∧ KN 26 116 ∧ KN 27 116 ∧ KN 28 116 ∧ KN 29 116 ∧ KN 30 116 ∧ KN 31 116 := by decide +kernel
@[go_sem] theorem is_116_30 : KN 32 116 ∧ KN 33 116 ∧ KN 34 116 ∧ KY 35 116 ∧ KN 36 116 ∧ KN 37 116 ∧ KN 38 116 ∧ KN 39 116 ∧ KN 40 116 := by decide +kernel
@[go_sem] theorem dp_116 : isIn 999999 (tabX.keep 116) = false := id rfl
@[go_sem] theorem is_117_0 : KY 4 117 ∧ KN 5 117 ∧ KN 6 117 ∧ KN 7 117 ∧ KN 8 117 := by decide +kernel
@[go_sem] theorem dp_117 : isIn 999999 (tabX.keep 117) = false := id rfl
@[go_sem] theorem is_118_0 : KY 2 118 ∧ KY 3 118 ∧ KN 4 118 ∧ KN 5 118 ∧ KN 6 118 ∧ KN 7 118 ∧ KN 8 118 := by decide +kernel
@[go_sem] theorem dp_118 : isIn 999999 (tabX.keep 118) = false := id rfl
@[go_sem] theorem is_119_0 : KY 1 119 ∧ KY 2 119 ∧ KN 3 119 ∧ KN 4 119 ∧ KN 5 119 ∧ KN 6 119 ∧ KN 7 119 ∧ KN 8 119 := by decide +kernel
@[go_sem] theorem dp_119 : isIn 999999 (tabX.keep 119) = false := id rfl
@[go_sem] theorem is_120_0 : KY 8 120 ∧ KY 9 120 ∧ KY 10 120 ∧ KY 11 120 ∧ KY 12 120 ∧ KN 13 120 ∧ KN 14 120 ∧ KN 15 120 ∧ KN 16 120 ∧ KN 17 120 ∧ KY 18 120 ∧ KY 19 120 ∧ KY 20 120 ∧ KY 21 120 ∧ KY 22 120 ∧ KN 23 120 ∧ KN 24 120 ∧ KN 25 120 ∧ KN 26 120 ∧ KN 27 120 ∧ KN 28 120 ∧ KN 29 120 ∧ KN 30 120 ∧ KY 31 120 ∧ KN 32 120 ∧ KN 33 120 ∧ KN 34 120 := by decide +kernel
@[go_sem] theorem dp_120 : isIn 999999 (tabX.keep 120) = false := id rfl
@[go_sem] theorem is_121_0 : KY 4 121 ∧ KY 5 121 ∧ KY 6 121 ∧ KN 7 121 ∧ KN 8 121 ∧ KN 9 121 ∧ KN 10 121 ∧ KN 11 121 ∧ KN 12 121 ∧ KN 13 121 ∧ KN 14 121 ∧ KN 15 121 ∧ KN 16 121 ∧ KN 17 121 ∧ KN 18 121 ∧ KN 19 121 ∧ KN 20 121 ∧ KN 21 121 ∧ KN 22 121 ∧ KN 23 121 ∧ KN 24 121 ∧ KY 25 121 ∧ KN 26 121 ∧ KN 27 121 ∧ KN 28 121 ∧ KN 29 121 ∧ KN 30 121 ∧ KN 31 121 ∧ KN 32 121 ∧ KN 33 121 := by decide +kernel
@[go_sem] theorem is_121_30 : KN 34 121 ∧ KN 35 121 ∧ KN 36 121 ∧ KN 37 121 ∧ KN 38 121 ∧ KN 39 121 ∧ KN 40 121 ∧ KN 41 121 ∧ KN 42 121 ∧ KN 43 121 ∧ KN 44 121 ∧ KN 45 121 ∧ KN 46 121 ∧ KN 47 121 ∧ KN 48 121 ∧ KN 49 121 ∧ KN 50 121 ∧ KN 51 121 ∧ KN 52 121 ∧ KY 53 121 ∧ KN 54 121 ∧ KN 55 121 ∧ KN 56 121 ∧ KN 57 121 ∧ KN 58 121 ∧ KN 59 121 ∧ KN 60 121 ∧ KN 61 121 ∧ KN 62 121 ∧ KN 63 121 := by decide +kernel
@[go_sem] theorem is_121_60 : KN 64 121 ∧ KN 65 121 ∧ KN 66 121 ∧ KN 67 121 ∧ KN 68 121 ∧ KN 69 121 ∧ KN 70 121 ∧ KN 71 121 ∧ KN 72 121 ∧ KN 73 121 ∧ KN 74 121 ∧ KN 75 121 ∧ KN 76 121 ∧ KN 77 121 ∧ KN 78 121 ∧ KN 79 121 ∧ KN 80 121 ∧ KN 81 121 ∧ KN 82 121 ∧ KN 83 121 ∧ KN 84 121 ∧ KN 85 121 := by decide +kernel
@[go_sem] theorem dp_121 : isIn 999999 (tabX.keep 121) = false := id rfl
@[go_sem] theorem is_122_0 : KY 1 122 ∧ KY 2 122 ∧ KN 3 122 ∧ KN 4 122 ∧ KN 5 122 ∧ KN 6 122 ∧ KN 7 122 ∧ KN 8 122 := by decide +kernel
@[go_sem] theorem dp_122 : isIn 999999 (tabX.keep 122) = false := id rfl
@[go_sem] theorem is_123_0 : KY 8 123 ∧ KY 9 123 ∧ KY 10 123 ∧ KY 11 123 ∧ KY 12 123 ∧ KN 13 123 ∧ KN 14 123 ∧ KN 15 123 ∧ KN 16 123 ∧ KN 17 123 ∧ KY 18 123 ∧ KY 19 123 ∧ KY 20 123 ∧ KY 21 123 ∧ KY 22 123 ∧ KN 23 123 ∧ KN 24 123 ∧ KN 25 123 ∧ KN 26 123 ∧ KN 27 123 ∧ KN 28 123 ∧ KN 29 123 ∧ KN 30 123 ∧ KY 31 123 ∧ KN 32 123 ∧ KN 33 123 ∧ KN 34 123 := by decide +kernel
@[go_sem] theorem dp_123 : isIn 999999 (tabX.keep 123) = false := id rfl
@[go_sem] theorem is_124_0 : KY 4 124 ∧ KY 5 124 ∧ KY 6 124 ∧ KN 7 124 ∧ KN 8 124 ∧ KN 9 124 ∧ KN 10 124 ∧ KN 11 124 ∧ KN 12 124 ∧ KN 13 124 ∧ KN 14 124 ∧ KY 15 124 ∧ KN 16 124 ∧ KN 17 124 ∧ KN 18 124 ∧ KN 19 124 := by decide +kernel
@[go_sem] theorem dp_124 : isIn 999999 (tabX.keep 124) = false := id rfl
@[go_sem] theorem is_125_0 : KY 4 125 ∧ KY 5 125 ∧ KY 6 125 ∧ KY 7 125 ∧ KN 8 125 ∧ KN 9 125 ∧ KY 10 125 ∧ KN 11 125 ∧ KN 12 125 ∧ KN 13 125 ∧ KN 14 125 ∧ KY 15 125 ∧ KN 16 125 ∧ KN 17 125 ∧ KN 18 125 ∧ KN 19 125 ∧ KN 20 125 ∧ KN 21 125 ∧ KN 22 125 ∧ KY 23 125 ∧ KN 24 125 ∧ KN 25 125 ∧ KN 26 125 ∧ KN 27 125 ∧ KN 28 125 ∧ KN 29 125 ∧ KN 30 125 ∧ KN 31 125 ∧ KN 32 125 ∧ KN 33 125 := by decide +kernel
@[go_sem] theorem is_125_30 : KN 34 125 ∧ KN 35 125 ∧ KN 36 125 ∧ KN 37 125 ∧ KY 38 125 ∧ KN 39 125 ∧ KN 40 125 ∧ KN 41 125 ∧ KN 42 125 ∧ KN 43 125 ∧ KN 44 125 ∧ KN 45 125 ∧ KY 46 125 ∧ KN 47 125 ∧ KN 48 125 ∧ KN 49 125 ∧ KN 50 125 ∧ KN 51 125 ∧ KN 52 125 ∧ KN 53 125 ∧ KN 54 125 := by decide +kernel
@[go_sem] theorem dp_125 : isIn 999999 (tabX.keep 125) = false := id rfl
@[go_sem] theorem is_126_0 : KY 4 126 ∧ KY 5 126 ∧ KN 6 126 ∧ KN 7 126 ∧ KN 8 126 ∧ KN 9 126 ∧ KN 10 126 ∧ KN 11 126 ∧ KN 12 126 ∧ KN 13 126 ∧ KN 14 126 ∧ KN 15 126 ∧ KN 16 126 ∧ KY 17 126 ∧ KN 18 126 ∧ KN 19 126 ∧ KN 20 126 ∧ KN 21 126 ∧ KN 22 126 ∧ KY 23 126 ∧ KN 24 126 := by decide +kernel
@[go_sem] theorem dp_126 : isIn 999999 (tabX.keep 126) = false := id rfl
@[go_sem] theorem is_127_0 : KY 2 127 ∧ KY 3 127 ∧ KY 4 127 ∧ KY 5 127 ∧ KN 6 127 ∧ KN 7 127 ∧ KN 8 127 ∧ KN 9 127 ∧ KN 10 127 ∧ KN 11 127 ∧ KY 12 127 ∧ KN 13 127 ∧ KN 14 127 ∧ KN 15 127 ∧ KN 16 127 ∧ KN 17 127 ∧ KN 18 127 ∧ KN 19 127 ∧ KN 20 127 ∧ KN 21 127 ∧ KN 22 127 ∧ KN 23 127 ∧ KN 24 127 ∧ KN 25 127 ∧ KN 26 127 ∧ KN 27 127 ∧ KN 28 127 ∧ KN 29 127 ∧ KN 30 127 ∧ KN 31 127 := by decide +kernel
@[go_sem] theorem is_127_30 : KN 32 127 ∧ KN 33 127 ∧ KN 34 127 ∧ KN 35 127 ∧ KN 36 127 ∧ KN 37 127 ∧ KN 38 127 ∧ KN 39 127 ∧ KN 40 127 ∧ KN 41 127 := by decide +kernel
@[go_sem] theorem dp_127 : isIn 999999 (tabX.keep 127) = false := id rfl
@[go_sem] theorem is_130_0 : KY 3 130 ∧ KY 6 130 ∧ KN 7 130 ∧ KN 8 130 ∧ KN 9 130 ∧ KN 10 130 ∧ KN 11 130 ∧ KN 12 130 ∧ KN 13 130 ∧ KN 14 130 ∧ KN 15 130 ∧ KN 16 130 ∧ KN 17 130 ∧ KN 18 130 ∧ KN 19 130 ∧ KY 20 130 ∧ KN 21 130 ∧ KN 22 130 ∧ KN 23 130 ∧ KN 24 130 ∧ KY 25 130 := by decide +kernel
@[go_sem] theorem dp_130 : isIn 999999 (tabX.keep 130) = false := id rfl
@[go_sem] theorem is_146_0 : KY 4 146 ∧ KN 5 146 ∧ KN 6 146 ∧ KN 7 146 ∧ KN 8 146 := by decide +kernel
@[go_sem] theorem dp_146 : isIn 999999 (tabX.keep 146) = false := id rfl
@[go_sem] theorem is_156_0 : KY 4 156 ∧ KN 5 156 ∧ KN 6 156 ∧ KN 7 156 ∧ KN 8 156 ∧ KN 9 156 ∧ KN 10 156 ∧ KN 11 156 ∧ KN 12 156 := by decide +kernel
@[go_sem] theorem dp_156 : isIn 999999 (tabX.keep 156) = false := id rfl
@[go_sem] theorem is_157_0 : KY 4 157 ∧ KN 5 157 ∧ KN 6 157 ∧ KN 7 157 ∧ KN 8 157 := by decide +kernel
@[go_sem] theorem dp_157 : isIn 999999 (tabX.keep 157) = false := id rfl
@[go_sem] theorem is_158_0 : KY 2 158 ∧ KY 3 158 ∧ KN 4 158 ∧ KN 5 158 ∧ KN 6 158 ∧ KN 7 158 := by decide +kernel
@[go_sem] theorem dp_158 : isIn 999999 (tabX.keep 158) = false := id rfl
@[go_sem] theorem is_159_0 : KY 3 159 ∧ KY 4 159 ∧ KY 5 159 ∧ KN 6 159 ∧ KN 7 159 ∧ KN 8 159 ∧ KN 9 159 ∧ KN 10 159 ∧ KN 11 159 ∧ KY 12 159 ∧ KY 13 159 ∧ KY 14 159 ∧ KN 15 159 ∧ KN 16 159 ∧ KN 17 159 ∧ KN 18 159 ∧ KN 19 159 ∧ KY 20 159 ∧ KY 21 159 ∧ KY 22 159 ∧ KY 23 159 ∧ KN 24 159 ∧ KN 25 159 ∧ KN 26 159 ∧ KN 27 159 ∧ KN 28 159 ∧ KN 29 159 ∧ KN 30 159 ∧ KN 31 159 ∧ KN 32 159 := by decide +kernel
@[go_sem] theorem is_159_30 : KN 33 159 ∧ KN 34 159 ∧ KN 35 159 ∧ KN 36 159 ∧ KN 37 159 ∧ KY 38 159 ∧ KN 39 159 ∧ KN 40 159 ∧ KN 41 159 ∧ KN 42 159 ∧ KY 43 159 ∧ KN 44 159 := by decide +kernel
@[go_sem] theorem dp_159 : isIn 999999 (tabX.keep 159) = false := id rfl
@[go_sem] theorem is_160_0 : KY 2 160 ∧ KY 4 160 ∧ KN 5 160 ∧ KN 6 160 ∧ KN 7 160 ∧ KN 8 160 ∧ KN 9 160 ∧ KN 10 160 ∧ KN 11 160 ∧ KY 12 160 ∧ KN 13 160 ∧ KN 14 160 ∧ KN 15 160 ∧ KN 16 160 ∧ KN 17 160 ∧ KN 18 160 ∧ KN 19 160 ∧ KN 20 160 := by decide +kernel
@[go_sem] theorem dp_160 : isIn 999999 (tabX.keep 160) = false := id rfl
@[go_sem] theorem is_161_0 : KY 2 161 ∧ KY 3 161 := by decide +kernel
@[go_sem] theorem dp_161 : isIn 999999 (tabX.keep 161) = false := id rfl
@[go_sem] theorem is_164_0 : KY 4 164 ∧ KY 5 164 ∧ KY 6 164 ∧ KN 7 164 ∧ KN 8 164 ∧ KN 9 164 ∧ KN 10 164 ∧ KY 11 164 ∧ KY 12 164 ∧ KY 13 164 ∧ KN 14 164 ∧ KN 15 164 ∧ KY 16 164 ∧ KN 17 164 ∧ KN 18 164 ∧ KY 19 164 := by decide +kernel
@[go_sem] theorem dp_164 : isIn 999999 (tabX.keep 164) = false := id rfl
@[go_sem] theorem is_165_0 : KY 3 165 ∧ KY 4 165 ∧ KY 6 165 ∧ KN 7 165 ∧ KN 8 165 ∧ KN 9 165 := by decide +kernel
@[go_sem] theorem dp_165 : isIn 999999 (tabX.keep 165) = false := id rfl
@[go_sem] theorem is_166_0 : KY 4 166 ∧ KY 5 166 ∧ KN 6 166 ∧ KY 7 166 ∧ KY 8 166 ∧ KY 9 166 ∧ KN 10 166 ∧ KN 11 166 ∧ KN 12 166 ∧ KN 13 166 ∧ KN 14 166 ∧ KN 15 166 ∧ KY 16 166 ∧ KN 17 166 ∧ KN 18 166 := by decide +kernel
@[go_sem] theorem dp_166 : isIn 999999 (tabX.keep 166) = false := id rfl
@[go_sem] theorem is_182_0 : KY 4 182 ∧ KY 5 182 ∧ KN 6 182 ∧ KY 7 182 ∧ KY 8 182 ∧ KY 9 182 ∧ KN 10 182 ∧ KN 11 182 ∧ KN 12 182 ∧ KN 13 182 ∧ KN 14 182 ∧ KN 15 182 ∧ KY 16 182 ∧ KN 17 182 ∧ KN 18 182 := by decide +kernel
@[go_sem] theorem dp_182 : isIn 999999 (tabX.keep 182) = false := id rfl
@[go_sem] theorem is_194_0 : KY 2 194 ∧ KN 3 194 ∧ KN 4 194 ∧ KN 5 194 := by decide +kernel
@[go_sem] theorem dp_194 : isIn 999999 (tabX.keep 194) = false := id rfl
@[go_sem] theorem is_195_0 : KY 4 195 ∧ KN 5 195 ∧ KN 6 195 ∧ KN 7 195 ∧ KN 8 195 ∧ KN 9 195 ∧ KN 10 195 ∧ KN 11 195 ∧ KN 12 195 := by decide +kernel
@[go_sem] theorem dp_195 : isIn 999999 (tabX.keep 195) = false := id rfl
end Go.Proofs.YthkpjbgadkkeeaaGreat
