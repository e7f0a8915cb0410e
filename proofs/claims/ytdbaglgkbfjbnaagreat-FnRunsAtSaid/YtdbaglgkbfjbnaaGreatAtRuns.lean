/- Every run of the law FnRunsAt is true. -/
import Derived.Test.YtdbaglgkbfjbnaaGreatAtRunsA
import Derived.Test.YtdbaglgkbfjbnaaGreatAtRunsB
import Derived.Test.YtdbaglgkbfjbnaaGreatAtRunsC
import Derived.Test.YtdbaglgkbfjbnaaGreatAtRunsD
import Derived.Test.YtdbaglgkbfjbnaaGreatAtRunsE
import Derived.Test.YtdbaglgkbfjbnaaGreatEvS

set_option linter.unusedVariables false
set_option maxRecDepth 100000
namespace Go.Ev
open Go.Proofs Go.Proofs.YtdbaglgkbfjbnaaGreat.PFnRunsTexts
def AtRun (i : Int) (c : ACfg) : Prop := Q.callK Tryz.prog (atFacts i c) plansT 1000 60 6 [.sym 0] emptyH (fun r _ => Q.eqV r (.bool true)) = true
theorem atAll0 : ∀ c, AtRun (-10) c
  | ⟨false, false, false⟩ => atRun0
  | ⟨false, false, true⟩ => atRun1
  | ⟨false, true, false⟩ => atRun2
  | ⟨false, true, true⟩ => atRun3
  | ⟨true, false, false⟩ => atRun4
  | ⟨true, false, true⟩ => atRun5
  | ⟨true, true, false⟩ => atRun6
  | ⟨true, true, true⟩ => atRun7
theorem atAll1 : ∀ c, AtRun (-9) c
  | ⟨false, false, false⟩ => atRun8
  | ⟨false, false, true⟩ => atRun9
  | ⟨false, true, false⟩ => atRun10
  | ⟨false, true, true⟩ => atRun11
  | ⟨true, false, false⟩ => atRun12
  | ⟨true, false, true⟩ => atRun13
  | ⟨true, true, false⟩ => atRun14
  | ⟨true, true, true⟩ => atRun15
theorem atAll2 : ∀ c, AtRun (-8) c
  | ⟨false, false, false⟩ => atRun16
  | ⟨false, false, true⟩ => atRun17
  | ⟨false, true, false⟩ => atRun18
  | ⟨false, true, true⟩ => atRun19
  | ⟨true, false, false⟩ => atRun20
  | ⟨true, false, true⟩ => atRun21
  | ⟨true, true, false⟩ => atRun22
  | ⟨true, true, true⟩ => atRun23
theorem atAll3 : ∀ c, AtRun (-7) c
  | ⟨false, false, false⟩ => atRun24
  | ⟨false, false, true⟩ => atRun25
  | ⟨false, true, false⟩ => atRun26
  | ⟨false, true, true⟩ => atRun27
  | ⟨true, false, false⟩ => atRun28
  | ⟨true, false, true⟩ => atRun29
  | ⟨true, true, false⟩ => atRun30
  | ⟨true, true, true⟩ => atRun31
theorem atAll4 : ∀ c, AtRun (-6) c
  | ⟨false, false, false⟩ => atRun32
  | ⟨false, false, true⟩ => atRun33
  | ⟨false, true, false⟩ => atRun34
  | ⟨false, true, true⟩ => atRun35
  | ⟨true, false, false⟩ => atRun36
  | ⟨true, false, true⟩ => atRun37
  | ⟨true, true, false⟩ => atRun38
  | ⟨true, true, true⟩ => atRun39
theorem atAll5 : ∀ c, AtRun (-5) c
  | ⟨false, false, false⟩ => atRun40
  | ⟨false, false, true⟩ => atRun41
  | ⟨false, true, false⟩ => atRun42
  | ⟨false, true, true⟩ => atRun43
  | ⟨true, false, false⟩ => atRun44
  | ⟨true, false, true⟩ => atRun45
  | ⟨true, true, false⟩ => atRun46
  | ⟨true, true, true⟩ => atRun47
theorem atAll6 : ∀ c, AtRun (-4) c
  | ⟨false, false, false⟩ => atRun48
  | ⟨false, false, true⟩ => atRun49
  | ⟨false, true, false⟩ => atRun50
  | ⟨false, true, true⟩ => atRun51
  | ⟨true, false, false⟩ => atRun52
  | ⟨true, false, true⟩ => atRun53
  | ⟨true, true, false⟩ => atRun54
  | ⟨true, true, true⟩ => atRun55
theorem atAll7 : ∀ c, AtRun (-3) c
  | ⟨false, false, false⟩ => atRun56
  | ⟨false, false, true⟩ => atRun57
  | ⟨false, true, false⟩ => atRun58
  | ⟨false, true, true⟩ => atRun59
  | ⟨true, false, false⟩ => atRun60
  | ⟨true, false, true⟩ => atRun61
  | ⟨true, true, false⟩ => atRun62
  | ⟨true, true, true⟩ => atRun63
theorem atAll8 : ∀ c, AtRun (-2) c
  | ⟨false, false, false⟩ => atRun64
  | ⟨false, false, true⟩ => atRun65
  | ⟨false, true, false⟩ => atRun66
  | ⟨false, true, true⟩ => atRun67
  | ⟨true, false, false⟩ => atRun68
  | ⟨true, false, true⟩ => atRun69
  | ⟨true, true, false⟩ => atRun70
  | ⟨true, true, true⟩ => atRun71
theorem atAll9 : ∀ c, AtRun (-1) c
  | ⟨false, false, false⟩ => atRun72
  | ⟨false, false, true⟩ => atRun73
  | ⟨false, true, false⟩ => atRun74
  | ⟨false, true, true⟩ => atRun75
  | ⟨true, false, false⟩ => atRun76
  | ⟨true, false, true⟩ => atRun77
  | ⟨true, true, false⟩ => atRun78
  | ⟨true, true, true⟩ => atRun79
theorem atAll10 : ∀ c, AtRun 0 c
  | ⟨false, false, false⟩ => atRun80
  | ⟨false, false, true⟩ => atRun81
  | ⟨false, true, false⟩ => atRun82
  | ⟨false, true, true⟩ => atRun83
  | ⟨true, false, false⟩ => atRun84
  | ⟨true, false, true⟩ => atRun85
  | ⟨true, true, false⟩ => atRun86
  | ⟨true, true, true⟩ => atRun87
theorem atAll11 : ∀ c, AtRun 1 c
  | ⟨false, false, false⟩ => atRun88
  | ⟨false, false, true⟩ => atRun89
  | ⟨false, true, false⟩ => atRun90
  | ⟨false, true, true⟩ => atRun91
  | ⟨true, false, false⟩ => atRun92
  | ⟨true, false, true⟩ => atRun93
  | ⟨true, true, false⟩ => atRun94
  | ⟨true, true, true⟩ => atRun95
theorem atAll12 : ∀ c, AtRun 2 c
  | ⟨false, false, false⟩ => atRun96
  | ⟨false, false, true⟩ => atRun97
  | ⟨false, true, false⟩ => atRun98
  | ⟨false, true, true⟩ => atRun99
  | ⟨true, false, false⟩ => atRun100
  | ⟨true, false, true⟩ => atRun101
  | ⟨true, true, false⟩ => atRun102
  | ⟨true, true, true⟩ => atRun103
theorem atAll13 : ∀ c, AtRun 3 c
  | ⟨false, false, false⟩ => atRun104
  | ⟨false, false, true⟩ => atRun105
  | ⟨false, true, false⟩ => atRun106
  | ⟨false, true, true⟩ => atRun107
  | ⟨true, false, false⟩ => atRun108
  | ⟨true, false, true⟩ => atRun109
  | ⟨true, true, false⟩ => atRun110
  | ⟨true, true, true⟩ => atRun111
theorem atAll14 : ∀ c, AtRun 4 c
  | ⟨false, false, false⟩ => atRun112
  | ⟨false, false, true⟩ => atRun113
  | ⟨false, true, false⟩ => atRun114
  | ⟨false, true, true⟩ => atRun115
  | ⟨true, false, false⟩ => atRun116
  | ⟨true, false, true⟩ => atRun117
  | ⟨true, true, false⟩ => atRun118
  | ⟨true, true, true⟩ => atRun119
theorem atAll15 : ∀ c, AtRun 5 c
  | ⟨false, false, false⟩ => atRun120
  | ⟨false, false, true⟩ => atRun121
  | ⟨false, true, false⟩ => atRun122
  | ⟨false, true, true⟩ => atRun123
  | ⟨true, false, false⟩ => atRun124
  | ⟨true, false, true⟩ => atRun125
  | ⟨true, true, false⟩ => atRun126
  | ⟨true, true, true⟩ => atRun127
theorem atAll16 : ∀ c, AtRun 6 c
  | ⟨false, false, false⟩ => atRun128
  | ⟨false, false, true⟩ => atRun129
  | ⟨false, true, false⟩ => atRun130
  | ⟨false, true, true⟩ => atRun131
  | ⟨true, false, false⟩ => atRun132
  | ⟨true, false, true⟩ => atRun133
  | ⟨true, true, false⟩ => atRun134
  | ⟨true, true, true⟩ => atRun135
theorem atAll17 : ∀ c, AtRun 7 c
  | ⟨false, false, false⟩ => atRun136
  | ⟨false, false, true⟩ => atRun137
  | ⟨false, true, false⟩ => atRun138
  | ⟨false, true, true⟩ => atRun139
  | ⟨true, false, false⟩ => atRun140
  | ⟨true, false, true⟩ => atRun141
  | ⟨true, true, false⟩ => atRun142
  | ⟨true, true, true⟩ => atRun143
theorem atAll18 : ∀ c, AtRun 8 c
  | ⟨false, false, false⟩ => atRun144
  | ⟨false, false, true⟩ => atRun145
  | ⟨false, true, false⟩ => atRun146
  | ⟨false, true, true⟩ => atRun147
  | ⟨true, false, false⟩ => atRun148
  | ⟨true, false, true⟩ => atRun149
  | ⟨true, true, false⟩ => atRun150
  | ⟨true, true, true⟩ => atRun151
theorem atAll19 : ∀ c, AtRun 9 c
  | ⟨false, false, false⟩ => atRun152
  | ⟨false, false, true⟩ => atRun153
  | ⟨false, true, false⟩ => atRun154
  | ⟨false, true, true⟩ => atRun155
  | ⟨true, false, false⟩ => atRun156
  | ⟨true, false, true⟩ => atRun157
  | ⟨true, true, false⟩ => atRun158
  | ⟨true, true, true⟩ => atRun159
theorem atAll20 : ∀ c, AtRun 4611686018427387904 c
  | ⟨false, false, false⟩ => atRun160
  | ⟨false, false, true⟩ => atRun161
  | ⟨false, true, false⟩ => atRun162
  | ⟨false, true, true⟩ => atRun163
  | ⟨true, false, false⟩ => atRun164
  | ⟨true, false, true⟩ => atRun165
  | ⟨true, true, false⟩ => atRun166
  | ⟨true, true, true⟩ => atRun167
theorem atAll21 : ∀ c, AtRun (-4611686018427387904) c
  | ⟨false, false, false⟩ => atRun168
  | ⟨false, false, true⟩ => atRun169
  | ⟨false, true, false⟩ => atRun170
  | ⟨false, true, true⟩ => atRun171
  | ⟨true, false, false⟩ => atRun172
  | ⟨true, false, true⟩ => atRun173
  | ⟨true, true, false⟩ => atRun174
  | ⟨true, true, true⟩ => atRun175
theorem atAll22 : ∀ c, AtRun 1001 c
  | ⟨false, false, false⟩ => atRun176
  | ⟨false, false, true⟩ => atRun177
  | ⟨false, true, false⟩ => atRun178
  | ⟨false, true, true⟩ => atRun179
  | ⟨true, false, false⟩ => atRun180
  | ⟨true, false, true⟩ => atRun181
  | ⟨true, true, false⟩ => atRun182
  | ⟨true, true, true⟩ => atRun183
theorem atAll23 : ∀ c, AtRun 1000001 c
  | ⟨false, false, false⟩ => atRun184
  | ⟨false, false, true⟩ => atRun185
  | ⟨false, true, false⟩ => atRun186
  | ⟨false, true, true⟩ => atRun187
  | ⟨true, false, false⟩ => atRun188
  | ⟨true, false, true⟩ => atRun189
  | ⟨true, true, false⟩ => atRun190
  | ⟨true, true, true⟩ => atRun191
theorem atAll24 : ∀ c, AtRun (-9223372036854775808) c
  | ⟨false, false, false⟩ => atRun192
  | ⟨false, false, true⟩ => atRun193
  | ⟨false, true, false⟩ => atRun194
  | ⟨false, true, true⟩ => atRun195
  | ⟨true, false, false⟩ => atRun196
  | ⟨true, false, true⟩ => atRun197
  | ⟨true, true, false⟩ => atRun198
  | ⟨true, true, true⟩ => atRun199
theorem atAll25 : ∀ c, AtRun 9223372036854775807 c
  | ⟨false, false, false⟩ => atRun200
  | ⟨false, false, true⟩ => atRun201
  | ⟨false, true, false⟩ => atRun202
  | ⟨false, true, true⟩ => atRun203
  | ⟨true, false, false⟩ => atRun204
  | ⟨true, false, true⟩ => atRun205
  | ⟨true, true, false⟩ => atRun206
  | ⟨true, true, true⟩ => atRun207
theorem atRuns (c : ACfg) : ∀ i, i ∈ atVals → AtRun i c := by
  intro i hi
  unfold atVals oddVals at hi
  simp only [List.cons_append, List.nil_append, List.mem_cons, List.not_mem_nil, or_false] at hi
  rcases hi with rfl | rfl | rfl | rfl | rfl | rfl | rfl | rfl | rfl | rfl | rfl | rfl | rfl | rfl | rfl | rfl | rfl | rfl | rfl | rfl | rfl | rfl | rfl | rfl | rfl | rfl | rfl | rfl
  · exact atAll0 c
  · exact atAll1 c
  · exact atAll2 c
  · exact atAll3 c
  · exact atAll4 c
  · exact atAll5 c
  · exact atAll6 c
  · exact atAll7 c
  · exact atAll8 c
  · exact atAll9 c
  · exact atAll10 c
  · exact atAll11 c
  · exact atAll12 c
  · exact atAll13 c
  · exact atAll14 c
  · exact atAll15 c
  · exact atAll16 c
  · exact atAll17 c
  · exact atAll18 c
  · exact atAll19 c
  · exact atAll9 c
  · exact atAll20 c
  · exact atAll21 c
  · exact atAll22 c
  · exact atAll17 c
  · exact atAll23 c
  · exact atAll24 c
  · exact atAll25 c
end Go.Ev
