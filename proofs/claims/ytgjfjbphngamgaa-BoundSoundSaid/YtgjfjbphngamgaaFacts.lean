/-
  The types and functions of this seat, as the walk wants them (written by a program from the translation).
-/
import Derived.Test.YtgjfjbphngamgaaProg
import Derived.Test.YtgjfjbphngamgaaMem
set_option linter.all false
namespace Go.Proofs.Ytgjfjbphngamgaa
open Go Go.W

def aggT : Nat → Option Bool
  | 2 => some false
  | 3 => some false
  | 4 => some false
  | 5 => some false
  | 6 => some false
  | 21 => some false
  | 22 => some false
  | 23 => some true
  | 24 => some true
  | 25 => some false
  | 26 => some false
  | 27 => some true
  | 28 => some true
  | 29 => some false
  | 30 => some false
  | 31 => some false
  | 32 => some true
  | 33 => some true
  | 34 => some false
  | 36 => some false
  | 37 => some false
  | 38 => some false
  | 39 => some true
  | 40 => some true
  | 41 => some true
  | 42 => some true
  | 43 => some true
  | 44 => some true
  | 45 => some false
  | 46 => some false
  | 47 => some true
  | 48 => some true
  | 49 => some false
  | 50 => some false
  | 51 => some true
  | 52 => some true
  | 53 => some false
  | 55 => some false
  | 56 => some false
  | 57 => some false
  | 58 => some false
  | 59 => some true
  | 60 => some true
  | 62 => some false
  | 63 => some false
  | 65 => some false
  | 66 => some false
  | 67 => some false
  | 68 => some false
  | 69 => some false
  | 70 => some true
  | 71 => some true
  | 73 => some false
  | 74 => some false
  | 75 => some true
  | 76 => some true
  | 77 => some false
  | 78 => some false
  | 80 => some false
  | 81 => some false
  | 82 => some false
  | 83 => some false
  | 84 => some false
  | 85 => some false
  | 86 => some true
  | 87 => some true
  | 88 => some false
  | 89 => some false
  | 90 => some false
  | 91 => some false
  | 93 => some false
  | 94 => some false
  | 95 => some true
  | 96 => some true
  | 97 => some false
  | 99 => some false
  | 100 => some false
  | 101 => some false
  | 102 => some false
  | 104 => some false
  | 105 => some true
  | 106 => some true
  | 107 => some false
  | 108 => some false
  | 109 => some false
  | 110 => some true
  | 111 => some true
  | 112 => some false
  | 114 => some false
  | 115 => some true
  | 116 => some true
  | 117 => some false
  | 118 => some false
  | 119 => some false
  | 120 => some false
  | 121 => some false
  | 122 => some false
  | 123 => some false
  | 124 => some false
  | 125 => some false
  | 126 => some false
  | 127 => some true
  | 128 => some true
  | 130 => some false
  | 131 => some false
  | 132 => some false
  | 133 => some false
  | 134 => some false
  | 135 => some false
  | 137 => some false
  | 138 => some false
  | 139 => some true
  | 140 => some true
  | 142 => some false
  | 143 => some false
  | 144 => some false
  | 145 => some true
  | 146 => some true
  | 147 => some false
  | 148 => some false
  | 150 => some false
  | 151 => some false
  | 152 => some false
  | 153 => some false
  | 154 => some false
  | 155 => some false
  | 156 => some false
  | 157 => some false
  | 158 => some true
  | 159 => some true
  | 160 => some false
  | 161 => some false
  | 162 => some false
  | 164 => some false
  | 166 => some false
  | 167 => some false
  | 168 => some false
  | 169 => some true
  | 170 => some true
  | 171 => some true
  | 172 => some true
  | 173 => some false
  | 174 => some false
  | 175 => some true
  | 176 => some true
  | 177 => some true
  | 178 => some true
  | 179 => some false
  | 180 => some false
  | 181 => some true
  | 182 => some true
  | 183 => some true
  | 184 => some true
  | 185 => some true
  | 186 => some false
  | 187 => some false
  | 188 => some false
  | 189 => some false
  | 190 => some false
  | 191 => some false
  | 192 => some false
  | 193 => some true
  | 194 => some true
  | _ => none

set_option maxHeartbeats 2000000 in
theorem agg_run {t : Nat} {v : _} (h : aggT t = some v) : ∀ w, (isAgg t).run Try.prog w = .ok v w := by
  unfold aggT at h
  split at h <;> (try cases h)
  · exact Try.isAgg2
  · exact Try.isAgg3
  · exact Try.isAgg4
  · exact Try.isAgg5
  · exact Try.isAgg6
  · exact Try.isAgg21
  · exact Try.isAgg22
  · exact Try.isAgg23
  · exact Try.isAgg24
  · exact Try.isAgg25
  · exact Try.isAgg26
  · exact Try.isAgg27
  · exact Try.isAgg28
  · exact Try.isAgg29
  · exact Try.isAgg30
  · exact Try.isAgg31
  · exact Try.isAgg32
  · exact Try.isAgg33
  · exact Try.isAgg34
  · exact Try.isAgg36
  · exact Try.isAgg37
  · exact Try.isAgg38
  · exact Try.isAgg39
  · exact Try.isAgg40
  · exact Try.isAgg41
  · exact Try.isAgg42
  · exact Try.isAgg43
  · exact Try.isAgg44
  · exact Try.isAgg45
  · exact Try.isAgg46
  · exact Try.isAgg47
  · exact Try.isAgg48
  · exact Try.isAgg49
  · exact Try.isAgg50
  · exact Try.isAgg51
  · exact Try.isAgg52
  · exact Try.isAgg53
  · exact Try.isAgg55
  · exact Try.isAgg56
  · exact Try.isAgg57
  · exact Try.isAgg58
  · exact Try.isAgg59
  · exact Try.isAgg60
  · exact Try.isAgg62
  · exact Try.isAgg63
  · exact Try.isAgg65
  · exact Try.isAgg66
  · exact Try.isAgg67
  · exact Try.isAgg68
  · exact Try.isAgg69
  · exact Try.isAgg70
  · exact Try.isAgg71
  · exact Try.isAgg73
  · exact Try.isAgg74
  · exact Try.isAgg75
  · exact Try.isAgg76
  · exact Try.isAgg77
  · exact Try.isAgg78
  · exact Try.isAgg80
  · exact Try.isAgg81
  · exact Try.isAgg82
  · exact Try.isAgg83
  · exact Try.isAgg84
  · exact Try.isAgg85
  · exact Try.isAgg86
  · exact Try.isAgg87
  · exact Try.isAgg88
  · exact Try.isAgg89
  · exact Try.isAgg90
  · exact Try.isAgg91
  · exact Try.isAgg93
  · exact Try.isAgg94
  · exact Try.isAgg95
  · exact Try.isAgg96
  · exact Try.isAgg97
  · exact Try.isAgg99
  · exact Try.isAgg100
  · exact Try.isAgg101
  · exact Try.isAgg102
  · exact Try.isAgg104
  · exact Try.isAgg105
  · exact Try.isAgg106
  · exact Try.isAgg107
  · exact Try.isAgg108
  · exact Try.isAgg109
  · exact Try.isAgg110
  · exact Try.isAgg111
  · exact Try.isAgg112
  · exact Try.isAgg114
  · exact Try.isAgg115
  · exact Try.isAgg116
  · exact Try.isAgg117
  · exact Try.isAgg118
  · exact Try.isAgg119
  · exact Try.isAgg120
  · exact Try.isAgg121
  · exact Try.isAgg122
  · exact Try.isAgg123
  · exact Try.isAgg124
  · exact Try.isAgg125
  · exact Try.isAgg126
  · exact Try.isAgg127
  · exact Try.isAgg128
  · exact Try.isAgg130
  · exact Try.isAgg131
  · exact Try.isAgg132
  · exact Try.isAgg133
  · exact Try.isAgg134
  · exact Try.isAgg135
  · exact Try.isAgg137
  · exact Try.isAgg138
  · exact Try.isAgg139
  · exact Try.isAgg140
  · exact Try.isAgg142
  · exact Try.isAgg143
  · exact Try.isAgg144
  · exact Try.isAgg145
  · exact Try.isAgg146
  · exact Try.isAgg147
  · exact Try.isAgg148
  · exact Try.isAgg150
  · exact Try.isAgg151
  · exact Try.isAgg152
  · exact Try.isAgg153
  · exact Try.isAgg154
  · exact Try.isAgg155
  · exact Try.isAgg156
  · exact Try.isAgg157
  · exact Try.isAgg158
  · exact Try.isAgg159
  · exact Try.isAgg160
  · exact Try.isAgg161
  · exact Try.isAgg162
  · exact Try.isAgg164
  · exact Try.isAgg166
  · exact Try.isAgg167
  · exact Try.isAgg168
  · exact Try.isAgg169
  · exact Try.isAgg170
  · exact Try.isAgg171
  · exact Try.isAgg172
  · exact Try.isAgg173
  · exact Try.isAgg174
  · exact Try.isAgg175
  · exact Try.isAgg176
  · exact Try.isAgg177
  · exact Try.isAgg178
  · exact Try.isAgg179
  · exact Try.isAgg180
  · exact Try.isAgg181
  · exact Try.isAgg182
  · exact Try.isAgg183
  · exact Try.isAgg184
  · exact Try.isAgg185
  · exact Try.isAgg186
  · exact Try.isAgg187
  · exact Try.isAgg188
  · exact Try.isAgg189
  · exact Try.isAgg190
  · exact Try.isAgg191
  · exact Try.isAgg192
  · exact Try.isAgg193
  · exact Try.isAgg194

def sizeT : Nat → Option Nat
  | 2 => some 1
  | 3 => some 1
  | 4 => some 1
  | 5 => some 1
  | 6 => some 1
  | 21 => some 1
  | 22 => some 1
  | 23 => some 2
  | 24 => some 2
  | 25 => some 1
  | 26 => some 1
  | 27 => some 5
  | 28 => some 5
  | 29 => some 1
  | 30 => some 1
  | 31 => some 1
  | 32 => some 4
  | 33 => some 4
  | 34 => some 1
  | 36 => some 1
  | 37 => some 1
  | 38 => some 1
  | 39 => some 2
  | 40 => some 2
  | 41 => some 4
  | 42 => some 4
  | 43 => some 3
  | 44 => some 3
  | 45 => some 1
  | 46 => some 1
  | 47 => some 2
  | 48 => some 2
  | 49 => some 1
  | 50 => some 1
  | 51 => some 2
  | 52 => some 2
  | 53 => some 1
  | 55 => some 1
  | 56 => some 1
  | 57 => some 1
  | 58 => some 1
  | 59 => some 6
  | 60 => some 6
  | 62 => some 1
  | 63 => some 1
  | 65 => some 1
  | 66 => some 1
  | 67 => some 1
  | 68 => some 1
  | 69 => some 1
  | 70 => some 4
  | 71 => some 4
  | 73 => some 1
  | 74 => some 1
  | 75 => some 2
  | 76 => some 2
  | 77 => some 1
  | 78 => some 1
  | 80 => some 1
  | 81 => some 1
  | 82 => some 1
  | 83 => some 1
  | 84 => some 1
  | 85 => some 1
  | 86 => some 2
  | 87 => some 2
  | 88 => some 1
  | 89 => some 1
  | 90 => some 1
  | 91 => some 1
  | 93 => some 1
  | 94 => some 1
  | 95 => some 4
  | 96 => some 4
  | 97 => some 1
  | 99 => some 1
  | 100 => some 1
  | 101 => some 1
  | 102 => some 1
  | 104 => some 1
  | 105 => some 13
  | 106 => some 13
  | 107 => some 1
  | 108 => some 1
  | 109 => some 1
  | 110 => some 3
  | 111 => some 3
  | 112 => some 1
  | 114 => some 1
  | 115 => some 6
  | 116 => some 6
  | 117 => some 1
  | 118 => some 1
  | 119 => some 1
  | 120 => some 1
  | 121 => some 1
  | 122 => some 1
  | 123 => some 1
  | 124 => some 1
  | 125 => some 1
  | 126 => some 1
  | 127 => some 4
  | 128 => some 4
  | 130 => some 1
  | 131 => some 1
  | 132 => some 1
  | 133 => some 1
  | 134 => some 1
  | 135 => some 1
  | 137 => some 1
  | 138 => some 1
  | 139 => some 2
  | 140 => some 2
  | 142 => some 1
  | 143 => some 1
  | 144 => some 1
  | 145 => some 2
  | 146 => some 2
  | 147 => some 1
  | 148 => some 1
  | 150 => some 1
  | 151 => some 1
  | 152 => some 1
  | 153 => some 1
  | 154 => some 1
  | 155 => some 1
  | 156 => some 1
  | 157 => some 1
  | 158 => some 3
  | 159 => some 3
  | 160 => some 1
  | 161 => some 1
  | 162 => some 1
  | 164 => some 1
  | 166 => some 1
  | 167 => some 1
  | 168 => some 1
  | 169 => some 3
  | 170 => some 3
  | 171 => some 3
  | 172 => some 3
  | 173 => some 1
  | 174 => some 1
  | 175 => some 3
  | 176 => some 3
  | 177 => some 4
  | 178 => some 4
  | 179 => some 1
  | 180 => some 1
  | 181 => some 4
  | 182 => some 4
  | 183 => some 0
  | 184 => some 0
  | 185 => some 0
  | 186 => some 1
  | 187 => some 1
  | 188 => some 1
  | 189 => some 1
  | 190 => some 1
  | 191 => some 1
  | 192 => some 1
  | 193 => some 11
  | 194 => some 11
  | _ => none

set_option maxHeartbeats 2000000 in
theorem size_run {t : Nat} {v : _} (h : sizeT t = some v) : ∀ w, (Go.sizeOf t).run Try.prog w = .ok v w := by
  unfold sizeT at h
  split at h <;> (try cases h)
  · exact Try.sizeOf2
  · exact Try.sizeOf3
  · exact Try.sizeOf4
  · exact Try.sizeOf5
  · exact Try.sizeOf6
  · exact Try.sizeOf21
  · exact Try.sizeOf22
  · exact Try.sizeOf23
  · exact Try.sizeOf24
  · exact Try.sizeOf25
  · exact Try.sizeOf26
  · exact Try.sizeOf27
  · exact Try.sizeOf28
  · exact Try.sizeOf29
  · exact Try.sizeOf30
  · exact Try.sizeOf31
  · exact Try.sizeOf32
  · exact Try.sizeOf33
  · exact Try.sizeOf34
  · exact Try.sizeOf36
  · exact Try.sizeOf37
  · exact Try.sizeOf38
  · exact Try.sizeOf39
  · exact Try.sizeOf40
  · exact Try.sizeOf41
  · exact Try.sizeOf42
  · exact Try.sizeOf43
  · exact Try.sizeOf44
  · exact Try.sizeOf45
  · exact Try.sizeOf46
  · exact Try.sizeOf47
  · exact Try.sizeOf48
  · exact Try.sizeOf49
  · exact Try.sizeOf50
  · exact Try.sizeOf51
  · exact Try.sizeOf52
  · exact Try.sizeOf53
  · exact Try.sizeOf55
  · exact Try.sizeOf56
  · exact Try.sizeOf57
  · exact Try.sizeOf58
  · exact Try.sizeOf59
  · exact Try.sizeOf60
  · exact Try.sizeOf62
  · exact Try.sizeOf63
  · exact Try.sizeOf65
  · exact Try.sizeOf66
  · exact Try.sizeOf67
  · exact Try.sizeOf68
  · exact Try.sizeOf69
  · exact Try.sizeOf70
  · exact Try.sizeOf71
  · exact Try.sizeOf73
  · exact Try.sizeOf74
  · exact Try.sizeOf75
  · exact Try.sizeOf76
  · exact Try.sizeOf77
  · exact Try.sizeOf78
  · exact Try.sizeOf80
  · exact Try.sizeOf81
  · exact Try.sizeOf82
  · exact Try.sizeOf83
  · exact Try.sizeOf84
  · exact Try.sizeOf85
  · exact Try.sizeOf86
  · exact Try.sizeOf87
  · exact Try.sizeOf88
  · exact Try.sizeOf89
  · exact Try.sizeOf90
  · exact Try.sizeOf91
  · exact Try.sizeOf93
  · exact Try.sizeOf94
  · exact Try.sizeOf95
  · exact Try.sizeOf96
  · exact Try.sizeOf97
  · exact Try.sizeOf99
  · exact Try.sizeOf100
  · exact Try.sizeOf101
  · exact Try.sizeOf102
  · exact Try.sizeOf104
  · exact Try.sizeOf105
  · exact Try.sizeOf106
  · exact Try.sizeOf107
  · exact Try.sizeOf108
  · exact Try.sizeOf109
  · exact Try.sizeOf110
  · exact Try.sizeOf111
  · exact Try.sizeOf112
  · exact Try.sizeOf114
  · exact Try.sizeOf115
  · exact Try.sizeOf116
  · exact Try.sizeOf117
  · exact Try.sizeOf118
  · exact Try.sizeOf119
  · exact Try.sizeOf120
  · exact Try.sizeOf121
  · exact Try.sizeOf122
  · exact Try.sizeOf123
  · exact Try.sizeOf124
  · exact Try.sizeOf125
  · exact Try.sizeOf126
  · exact Try.sizeOf127
  · exact Try.sizeOf128
  · exact Try.sizeOf130
  · exact Try.sizeOf131
  · exact Try.sizeOf132
  · exact Try.sizeOf133
  · exact Try.sizeOf134
  · exact Try.sizeOf135
  · exact Try.sizeOf137
  · exact Try.sizeOf138
  · exact Try.sizeOf139
  · exact Try.sizeOf140
  · exact Try.sizeOf142
  · exact Try.sizeOf143
  · exact Try.sizeOf144
  · exact Try.sizeOf145
  · exact Try.sizeOf146
  · exact Try.sizeOf147
  · exact Try.sizeOf148
  · exact Try.sizeOf150
  · exact Try.sizeOf151
  · exact Try.sizeOf152
  · exact Try.sizeOf153
  · exact Try.sizeOf154
  · exact Try.sizeOf155
  · exact Try.sizeOf156
  · exact Try.sizeOf157
  · exact Try.sizeOf158
  · exact Try.sizeOf159
  · exact Try.sizeOf160
  · exact Try.sizeOf161
  · exact Try.sizeOf162
  · exact Try.sizeOf164
  · exact Try.sizeOf166
  · exact Try.sizeOf167
  · exact Try.sizeOf168
  · exact Try.sizeOf169
  · exact Try.sizeOf170
  · exact Try.sizeOf171
  · exact Try.sizeOf172
  · exact Try.sizeOf173
  · exact Try.sizeOf174
  · exact Try.sizeOf175
  · exact Try.sizeOf176
  · exact Try.sizeOf177
  · exact Try.sizeOf178
  · exact Try.sizeOf179
  · exact Try.sizeOf180
  · exact Try.sizeOf181
  · exact Try.sizeOf182
  · exact Try.sizeOf183
  · exact Try.sizeOf184
  · exact Try.sizeOf185
  · exact Try.sizeOf186
  · exact Try.sizeOf187
  · exact Try.sizeOf188
  · exact Try.sizeOf189
  · exact Try.sizeOf190
  · exact Try.sizeOf191
  · exact Try.sizeOf192
  · exact Try.sizeOf193
  · exact Try.sizeOf194

def elT : Nat → Option Nat
  | 22 => some 44
  | 25 => some 42
  | 26 => some 48
  | 31 => some 3
  | 50 => some 87
  | 58 => some 31
  | 74 => some 96
  | 102 => some 128
  | 112 => some 116
  | 134 => some 140
  | 135 => some 4
  | 168 => some 172
  | 174 => some 178
  | _ => none

set_option maxHeartbeats 2000000 in
theorem el_run {t : Nat} {v : _} (h : elT t = some v) : ∀ w, (underlying t).run Try.prog w = .ok (.slice v) w := by
  unfold elT at h
  split at h <;> (try cases h)
  · exact Try.runUnderlying22
  · exact Try.runUnderlying25
  · exact Try.runUnderlying26
  · exact Try.runUnderlying31
  · exact Try.runUnderlying50
  · exact Try.runUnderlying58
  · exact Try.runUnderlying74
  · exact Try.runUnderlying102
  · exact Try.runUnderlying112
  · exact Try.runUnderlying134
  · exact Try.runUnderlying135
  · exact Try.runUnderlying168
  · exact Try.runUnderlying174

def ikT : Nat → Option IntKind
  | 2 => some .i64
  | 3 => some .i64
  | 5 => some .u8
  | 6 => some .u8
  | 21 => some .i32
  | 34 => some .i64
  | 186 => some .u32
  | 187 => some .u8
  | 188 => some .u8
  | 191 => some .i32
  | 192 => some .i32
  | _ => none

set_option maxHeartbeats 2000000 in
theorem ik_run {t : Nat} {v : _} (h : ikT t = some v) : ∀ w, (underlying t).run Try.prog w = .ok (.int v) w := by
  unfold ikT at h
  split at h <;> (try cases h)
  · exact Try.runUnderlying2
  · exact Try.runUnderlying3
  · exact Try.runUnderlying5
  · exact Try.runUnderlying6
  · exact Try.runUnderlying21
  · exact Try.runUnderlying34
  · exact Try.runUnderlying186
  · exact Try.runUnderlying187
  · exact Try.runUnderlying188
  · exact Try.runUnderlying191
  · exact Try.runUnderlying192

def arrT : Nat → Option (Nat × Nat)
  | 183 => some (0, 16)
  | _ => none

set_option maxHeartbeats 2000000 in
theorem arr_run {t : Nat} {v : _} (h : arrT t = some v) : ∀ w, (underlying t).run Try.prog w = .ok (.array v.1 v.2) w := by
  unfold arrT at h
  split at h <;> (try cases h)
  · exact Try.runUnderlying183

def zeroT : Nat → Option Value
  | 2 => some (.int .i64 0)
  | 3 => some (.int .i64 0)
  | 4 => some (.bool false)
  | 5 => some (.int .u8 0)
  | 6 => some (.int .u8 0)
  | 21 => some (.int .i32 0)
  | 22 => some (.slice none 0 0)
  | 23 => some (.agg #[.int .i64 0, .slice none 0 0])
  | 24 => some (.agg #[.int .i64 0, .slice none 0 0])
  | 25 => some (.slice none 0 0)
  | 26 => some (.slice none 0 0)
  | 27 => some (.agg #[.int .i64 0, .slice none 0 0, .slice none 0 0, .slice none 0 0, .int .i64 0])
  | 28 => some (.agg #[.int .i64 0, .slice none 0 0, .slice none 0 0, .slice none 0 0, .int .i64 0])
  | 29 => some (.nilFunc)
  | 30 => some (.nilFunc)
  | 31 => some (.slice none 0 0)
  | 32 => some (.agg #[.int .i64 0, .int .i64 0, .slice none 0 0, .slice none 0 0])
  | 33 => some (.agg #[.int .i64 0, .int .i64 0, .slice none 0 0, .slice none 0 0])
  | 34 => some (.int .i64 0)
  | 36 => some (.nilFunc)
  | 37 => some (.nilFunc)
  | 38 => some (.nilFunc)
  | 39 => some (.agg #[.int .i64 0, .int .i64 0])
  | 40 => some (.agg #[.int .i64 0, .int .i64 0])
  | 41 => some (.agg #[.int .i64 0, .int .i64 0, .int .i64 0, .int .i64 0])
  | 42 => some (.agg #[.int .i64 0, .int .i64 0, .int .i64 0, .int .i64 0])
  | 43 => some (.agg #[.int .i64 0, .int .i64 0, .int .i64 0])
  | 44 => some (.agg #[.int .i64 0, .int .i64 0, .int .i64 0])
  | 45 => some (.nilFunc)
  | 46 => some (.nilFunc)
  | 47 => some (.agg #[.int .i64 0, .int .i64 0])
  | 48 => some (.agg #[.int .i64 0, .int .i64 0])
  | 49 => some (.nilFunc)
  | 50 => some (.slice none 0 0)
  | 51 => some (.agg #[.slice none 0 0, .slice none 0 0])
  | 52 => some (.agg #[.slice none 0 0, .slice none 0 0])
  | 53 => some (.nilFunc)
  | 55 => some (.nilFunc)
  | 56 => some (.nilFunc)
  | 57 => some (.nilFunc)
  | 58 => some (.slice none 0 0)
  | 59 => some (.agg #[.slice none 0 0, .slice none 0 0, .slice none 0 0, .int .i64 0, .int .i64 0, .int .i64 0])
  | 60 => some (.agg #[.slice none 0 0, .slice none 0 0, .slice none 0 0, .int .i64 0, .int .i64 0, .int .i64 0])
  | 62 => some (.nilFunc)
  | 63 => some (.nilFunc)
  | 65 => some (.nilFunc)
  | 66 => some (.nilFunc)
  | 67 => some (.nilFunc)
  | 68 => some (.nilFunc)
  | 69 => some (.nilFunc)
  | 70 => some (.agg #[.int .i64 0, .int .i64 0, .slice none 0 0, .slice none 0 0])
  | 71 => some (.agg #[.int .i64 0, .int .i64 0, .slice none 0 0, .slice none 0 0])
  | 73 => some (.nilFunc)
  | 74 => some (.slice none 0 0)
  | 75 => some (.agg #[.int .i64 0, .slice none 0 0])
  | 76 => some (.agg #[.int .i64 0, .slice none 0 0])
  | 77 => some (.nilFunc)
  | 78 => some (.nilFunc)
  | 80 => some (.nilFunc)
  | 81 => some (.nilFunc)
  | 82 => some (.nilFunc)
  | 83 => some (.nilFunc)
  | 84 => some (.nilFunc)
  | 85 => some (.nilFunc)
  | 86 => some (.agg #[.int .i64 0, .slice none 0 0])
  | 87 => some (.agg #[.int .i64 0, .slice none 0 0])
  | 88 => some (.nilFunc)
  | 89 => some (.nilFunc)
  | 90 => some (.nilFunc)
  | 91 => some (.nilFunc)
  | 93 => some (.nilFunc)
  | 94 => some (.nilFunc)
  | 95 => some (.agg #[.int .i64 0, .int .i64 0, .int .i64 0, .int .i64 0])
  | 96 => some (.agg #[.int .i64 0, .int .i64 0, .int .i64 0, .int .i64 0])
  | 97 => some (.nilFunc)
  | 99 => some (.nilFunc)
  | 100 => some (.nilFunc)
  | 101 => some (.pointer none)
  | 102 => some (.slice none 0 0)
  | 104 => some (.nilFunc)
  | 105 => some (.agg #[.int .i64 0, .int .i64 0, .int .i64 0, .int .i64 0, .int .i64 0, .slice none 0 0, .slice none 0 0, .slice none 0 0, .int .i64 0, .int .i64 0, .int .i64 0, .int .i64 0, .int .i64 0])
  | 106 => some (.agg #[.int .i64 0, .int .i64 0, .int .i64 0, .int .i64 0, .int .i64 0, .slice none 0 0, .slice none 0 0, .slice none 0 0, .int .i64 0, .int .i64 0, .int .i64 0, .int .i64 0, .int .i64 0])
  | 107 => some (.nilFunc)
  | 108 => some (.nilFunc)
  | 109 => some (.nilFunc)
  | 110 => some (.agg #[.int .i64 0, .slice none 0 0, .slice none 0 0])
  | 111 => some (.agg #[.int .i64 0, .slice none 0 0, .slice none 0 0])
  | 112 => some (.slice none 0 0)
  | 114 => some (.nilFunc)
  | 115 => some (.agg #[.int .i64 0, .int .i64 0, .int .i64 0, .bool false, .bool false, .int .i64 0])
  | 116 => some (.agg #[.int .i64 0, .int .i64 0, .int .i64 0, .bool false, .bool false, .int .i64 0])
  | 117 => some (.nilFunc)
  | 118 => some (.nilFunc)
  | 119 => some (.nilFunc)
  | 120 => some (.nilFunc)
  | 121 => some (.nilFunc)
  | 122 => some (.nilFunc)
  | 123 => some (.nilFunc)
  | 124 => some (.nilFunc)
  | 125 => some (.nilFunc)
  | 126 => some (.nilFunc)
  | 127 => some (.agg #[.int .i64 0, .int .i64 0, .int .i64 0, .int .i64 0])
  | 128 => some (.agg #[.int .i64 0, .int .i64 0, .int .i64 0, .int .i64 0])
  | 130 => some (.nilFunc)
  | 131 => some (.nilFunc)
  | 132 => some (.nilFunc)
  | 133 => some (.nilFunc)
  | 134 => some (.slice none 0 0)
  | 135 => some (.slice none 0 0)
  | 137 => some (.nilFunc)
  | 138 => some (.nilFunc)
  | 139 => some (.agg #[.int .i64 0, .int .i64 0])
  | 140 => some (.agg #[.int .i64 0, .int .i64 0])
  | 142 => some (.nilFunc)
  | 143 => some (.pointer none)
  | 144 => some (.nilFunc)
  | 145 => some (.agg #[.int .i64 0, .int .i64 0])
  | 146 => some (.agg #[.int .i64 0, .int .i64 0])
  | 147 => some (.nilFunc)
  | 148 => some (.nilFunc)
  | 150 => some (.nilFunc)
  | 151 => some (.nilFunc)
  | 152 => some (.nilFunc)
  | 153 => some (.nilFunc)
  | 154 => some (.nilFunc)
  | 155 => some (.nilFunc)
  | 156 => some (.pointer none)
  | 157 => some (.nilFunc)
  | 158 => some (.agg #[.int .i64 0, .int .i64 0, .int .i64 0])
  | 159 => some (.agg #[.int .i64 0, .int .i64 0, .int .i64 0])
  | 160 => some (.nilFunc)
  | 161 => some (.nilFunc)
  | 162 => some (.nilFunc)
  | 164 => some (.nilFunc)
  | 166 => some (.nilFunc)
  | 167 => some (.nilFunc)
  | 168 => some (.slice none 0 0)
  | 169 => some (.agg #[.nilFunc, .slice none 0 0, .int .i64 0])
  | 170 => some (.agg #[.nilFunc, .slice none 0 0, .int .i64 0])
  | 171 => some (.agg #[.int .i64 0, .int .i64 0, .int .i64 0])
  | 172 => some (.agg #[.int .i64 0, .int .i64 0, .int .i64 0])
  | 173 => some (.nilFunc)
  | 174 => some (.slice none 0 0)
  | 175 => some (.agg #[.nilFunc, .slice none 0 0, .int .i64 0])
  | 176 => some (.agg #[.nilFunc, .slice none 0 0, .int .i64 0])
  | 177 => some (.agg #[.int .i64 0, .int .i64 0, .int .i64 0, .int .i64 0])
  | 178 => some (.agg #[.int .i64 0, .int .i64 0, .int .i64 0, .int .i64 0])
  | 179 => some (.nilFunc)
  | 180 => some (.nilFunc)
  | 183 => some (.agg #[])
  | 184 => some (.agg #[])
  | 185 => some (.agg #[])
  | 186 => some (.int .u32 0)
  | 187 => some (.int .u8 0)
  | 188 => some (.int .u8 0)
  | 189 => some (.nilFunc)
  | 190 => some (.pointer none)
  | 191 => some (.int .i32 0)
  | 192 => some (.int .i32 0)
  | 193 => some (.agg #[.int .u64 0, .int .u64 0, .int .u32 0, .int .u8 0, .int .u8 0, .int .u8 0, .int .u8 0, .nilFunc, .pointer none, .int .i32 0, .int .i32 0])
  | 194 => some (.agg #[.int .u64 0, .int .u64 0, .int .u32 0, .int .u8 0, .int .u8 0, .int .u8 0, .int .u8 0, .nilFunc, .pointer none, .int .i32 0, .int .i32 0])
  | _ => none

set_option maxHeartbeats 2000000 in
theorem zero_run {t : Nat} {v : _} (h : zeroT t = some v) : ∀ w, (zeroValue t).run Try.prog w = .ok v w := by
  unfold zeroT at h
  split at h <;> (try cases h)
  · exact Try.zeroValue2
  · exact Try.zeroValue3
  · exact Try.zeroValue4
  · exact Try.zeroValue5
  · exact Try.zeroValue6
  · exact Try.zeroValue21
  · exact Try.zeroValue22
  · exact Try.zeroValue23
  · exact Try.zeroValue24
  · exact Try.zeroValue25
  · exact Try.zeroValue26
  · exact Try.zeroValue27
  · exact Try.zeroValue28
  · exact Try.zeroValue29
  · exact Try.zeroValue30
  · exact Try.zeroValue31
  · exact Try.zeroValue32
  · exact Try.zeroValue33
  · exact Try.zeroValue34
  · exact Try.zeroValue36
  · exact Try.zeroValue37
  · exact Try.zeroValue38
  · exact Try.zeroValue39
  · exact Try.zeroValue40
  · exact Try.zeroValue41
  · exact Try.zeroValue42
  · exact Try.zeroValue43
  · exact Try.zeroValue44
  · exact Try.zeroValue45
  · exact Try.zeroValue46
  · exact Try.zeroValue47
  · exact Try.zeroValue48
  · exact Try.zeroValue49
  · exact Try.zeroValue50
  · exact Try.zeroValue51
  · exact Try.zeroValue52
  · exact Try.zeroValue53
  · exact Try.zeroValue55
  · exact Try.zeroValue56
  · exact Try.zeroValue57
  · exact Try.zeroValue58
  · exact Try.zeroValue59
  · exact Try.zeroValue60
  · exact Try.zeroValue62
  · exact Try.zeroValue63
  · exact Try.zeroValue65
  · exact Try.zeroValue66
  · exact Try.zeroValue67
  · exact Try.zeroValue68
  · exact Try.zeroValue69
  · exact Try.zeroValue70
  · exact Try.zeroValue71
  · exact Try.zeroValue73
  · exact Try.zeroValue74
  · exact Try.zeroValue75
  · exact Try.zeroValue76
  · exact Try.zeroValue77
  · exact Try.zeroValue78
  · exact Try.zeroValue80
  · exact Try.zeroValue81
  · exact Try.zeroValue82
  · exact Try.zeroValue83
  · exact Try.zeroValue84
  · exact Try.zeroValue85
  · exact Try.zeroValue86
  · exact Try.zeroValue87
  · exact Try.zeroValue88
  · exact Try.zeroValue89
  · exact Try.zeroValue90
  · exact Try.zeroValue91
  · exact Try.zeroValue93
  · exact Try.zeroValue94
  · exact Try.zeroValue95
  · exact Try.zeroValue96
  · exact Try.zeroValue97
  · exact Try.zeroValue99
  · exact Try.zeroValue100
  · exact Try.zeroValue101
  · exact Try.zeroValue102
  · exact Try.zeroValue104
  · exact Try.zeroValue105
  · exact Try.zeroValue106
  · exact Try.zeroValue107
  · exact Try.zeroValue108
  · exact Try.zeroValue109
  · exact Try.zeroValue110
  · exact Try.zeroValue111
  · exact Try.zeroValue112
  · exact Try.zeroValue114
  · exact Try.zeroValue115
  · exact Try.zeroValue116
  · exact Try.zeroValue117
  · exact Try.zeroValue118
  · exact Try.zeroValue119
  · exact Try.zeroValue120
  · exact Try.zeroValue121
  · exact Try.zeroValue122
  · exact Try.zeroValue123
  · exact Try.zeroValue124
  · exact Try.zeroValue125
  · exact Try.zeroValue126
  · exact Try.zeroValue127
  · exact Try.zeroValue128
  · exact Try.zeroValue130
  · exact Try.zeroValue131
  · exact Try.zeroValue132
  · exact Try.zeroValue133
  · exact Try.zeroValue134
  · exact Try.zeroValue135
  · exact Try.zeroValue137
  · exact Try.zeroValue138
  · exact Try.zeroValue139
  · exact Try.zeroValue140
  · exact Try.zeroValue142
  · exact Try.zeroValue143
  · exact Try.zeroValue144
  · exact Try.zeroValue145
  · exact Try.zeroValue146
  · exact Try.zeroValue147
  · exact Try.zeroValue148
  · exact Try.zeroValue150
  · exact Try.zeroValue151
  · exact Try.zeroValue152
  · exact Try.zeroValue153
  · exact Try.zeroValue154
  · exact Try.zeroValue155
  · exact Try.zeroValue156
  · exact Try.zeroValue157
  · exact Try.zeroValue158
  · exact Try.zeroValue159
  · exact Try.zeroValue160
  · exact Try.zeroValue161
  · exact Try.zeroValue162
  · exact Try.zeroValue164
  · exact Try.zeroValue166
  · exact Try.zeroValue167
  · exact Try.zeroValue168
  · exact Try.zeroValue169
  · exact Try.zeroValue170
  · exact Try.zeroValue171
  · exact Try.zeroValue172
  · exact Try.zeroValue173
  · exact Try.zeroValue174
  · exact Try.zeroValue175
  · exact Try.zeroValue176
  · exact Try.zeroValue177
  · exact Try.zeroValue178
  · exact Try.zeroValue179
  · exact Try.zeroValue180
  · exact Try.zeroValue183
  · exact Try.zeroValue184
  · exact Try.zeroValue185
  · exact Try.zeroValue186
  · exact Try.zeroValue187
  · exact Try.zeroValue188
  · exact Try.zeroValue189
  · exact Try.zeroValue190
  · exact Try.zeroValue191
  · exact Try.zeroValue192
  · exact Try.zeroValue193
  · exact Try.zeroValue194

def bytT : Nat → Option (Nat × Nat)
  | 2 => some (1, 8)
  | 3 => some (1, 8)
  | 4 => some (1, 1)
  | 5 => some (1, 1)
  | 6 => some (1, 1)
  | 21 => some (1, 4)
  | 22 => some (1, 24)
  | 23 => some (2, 32)
  | 24 => some (2, 32)
  | 25 => some (1, 24)
  | 26 => some (1, 24)
  | 27 => some (5, 88)
  | 28 => some (5, 88)
  | 29 => some (1, 8)
  | 30 => some (1, 8)
  | 31 => some (1, 24)
  | 32 => some (4, 64)
  | 33 => some (4, 64)
  | 34 => some (1, 8)
  | 36 => some (1, 8)
  | 37 => some (1, 8)
  | 38 => some (1, 8)
  | 39 => some (2, 16)
  | 40 => some (2, 16)
  | 41 => some (4, 32)
  | 42 => some (4, 32)
  | 43 => some (3, 24)
  | 44 => some (3, 24)
  | 45 => some (1, 8)
  | 46 => some (1, 8)
  | 47 => some (2, 16)
  | 48 => some (2, 16)
  | 49 => some (1, 8)
  | 50 => some (1, 24)
  | 51 => some (2, 48)
  | 52 => some (2, 48)
  | 53 => some (1, 8)
  | 55 => some (1, 8)
  | 56 => some (1, 8)
  | 57 => some (1, 8)
  | 58 => some (1, 24)
  | 59 => some (6, 96)
  | 60 => some (6, 96)
  | 62 => some (1, 8)
  | 63 => some (1, 8)
  | 65 => some (1, 8)
  | 66 => some (1, 8)
  | 67 => some (1, 8)
  | 68 => some (1, 8)
  | 69 => some (1, 8)
  | 70 => some (4, 64)
  | 71 => some (4, 64)
  | 73 => some (1, 8)
  | 74 => some (1, 24)
  | 75 => some (2, 32)
  | 76 => some (2, 32)
  | 77 => some (1, 8)
  | 78 => some (1, 8)
  | 80 => some (1, 8)
  | 81 => some (1, 8)
  | 82 => some (1, 8)
  | 83 => some (1, 8)
  | 84 => some (1, 8)
  | 85 => some (1, 8)
  | 86 => some (2, 32)
  | 87 => some (2, 32)
  | 88 => some (1, 8)
  | 89 => some (1, 8)
  | 90 => some (1, 8)
  | 91 => some (1, 8)
  | 93 => some (1, 8)
  | 94 => some (1, 8)
  | 95 => some (4, 32)
  | 96 => some (4, 32)
  | 97 => some (1, 8)
  | 99 => some (1, 8)
  | 100 => some (1, 8)
  | 101 => some (1, 8)
  | 102 => some (1, 24)
  | 104 => some (1, 8)
  | 105 => some (13, 152)
  | 106 => some (13, 152)
  | 107 => some (1, 8)
  | 108 => some (1, 8)
  | 109 => some (1, 8)
  | 110 => some (3, 56)
  | 111 => some (3, 56)
  | 112 => some (1, 24)
  | 114 => some (1, 8)
  | 115 => some (6, 40)
  | 116 => some (6, 40)
  | 117 => some (1, 8)
  | 118 => some (1, 8)
  | 119 => some (1, 8)
  | 120 => some (1, 8)
  | 121 => some (1, 8)
  | 122 => some (1, 8)
  | 123 => some (1, 8)
  | 124 => some (1, 8)
  | 125 => some (1, 8)
  | 126 => some (1, 8)
  | 127 => some (4, 32)
  | 128 => some (4, 32)
  | 130 => some (1, 8)
  | 131 => some (1, 8)
  | 132 => some (1, 8)
  | 133 => some (1, 8)
  | 134 => some (1, 24)
  | 135 => some (1, 24)
  | 137 => some (1, 8)
  | 138 => some (1, 8)
  | 139 => some (2, 16)
  | 140 => some (2, 16)
  | 142 => some (1, 8)
  | 143 => some (1, 8)
  | 144 => some (1, 8)
  | 145 => some (2, 16)
  | 146 => some (2, 16)
  | 147 => some (1, 8)
  | 148 => some (1, 8)
  | 150 => some (1, 8)
  | 151 => some (1, 8)
  | 152 => some (1, 8)
  | 153 => some (1, 8)
  | 154 => some (1, 8)
  | 155 => some (1, 8)
  | 156 => some (1, 8)
  | 157 => some (1, 8)
  | 158 => some (3, 24)
  | 159 => some (3, 24)
  | 160 => some (1, 8)
  | 161 => some (1, 8)
  | 162 => some (1, 8)
  | 164 => some (1, 8)
  | 166 => some (1, 8)
  | 167 => some (1, 8)
  | 168 => some (1, 24)
  | 169 => some (3, 40)
  | 170 => some (3, 40)
  | 171 => some (3, 24)
  | 172 => some (3, 24)
  | 173 => some (1, 8)
  | 174 => some (1, 24)
  | 175 => some (3, 40)
  | 176 => some (3, 40)
  | 177 => some (4, 32)
  | 178 => some (4, 32)
  | 179 => some (1, 8)
  | 180 => some (1, 8)
  | 181 => some (4, 40)
  | 182 => some (4, 40)
  | 183 => some (0, 0)
  | 184 => some (0, 0)
  | 185 => some (0, 0)
  | 186 => some (1, 4)
  | 187 => some (1, 1)
  | 188 => some (1, 1)
  | 189 => some (1, 8)
  | 190 => some (1, 8)
  | 191 => some (1, 4)
  | 192 => some (1, 4)
  | 193 => some (11, 48)
  | 194 => some (11, 48)
  | _ => none

set_option maxHeartbeats 2000000 in
theorem byt_run {t : Nat} {v : _} (h : bytT t = some v) : ∃ i, (∀ w, (typeInfo t).run Try.prog w = .ok i w) ∧ i.size = v.1 ∧ i.bytes = v.2 := by
  unfold bytT at h
  split at h <;> (try cases h)
  · exact ⟨_, Try.typeInfo2, rfl, rfl⟩
  · exact ⟨_, Try.typeInfo3, rfl, rfl⟩
  · exact ⟨_, Try.typeInfo4, rfl, rfl⟩
  · exact ⟨_, Try.typeInfo5, rfl, rfl⟩
  · exact ⟨_, Try.typeInfo6, rfl, rfl⟩
  · exact ⟨_, Try.typeInfo21, rfl, rfl⟩
  · exact ⟨_, Try.typeInfo22, rfl, rfl⟩
  · exact ⟨_, Try.typeInfo23, rfl, rfl⟩
  · exact ⟨_, Try.typeInfo24, rfl, rfl⟩
  · exact ⟨_, Try.typeInfo25, rfl, rfl⟩
  · exact ⟨_, Try.typeInfo26, rfl, rfl⟩
  · exact ⟨_, Try.typeInfo27, rfl, rfl⟩
  · exact ⟨_, Try.typeInfo28, rfl, rfl⟩
  · exact ⟨_, Try.typeInfo29, rfl, rfl⟩
  · exact ⟨_, Try.typeInfo30, rfl, rfl⟩
  · exact ⟨_, Try.typeInfo31, rfl, rfl⟩
  · exact ⟨_, Try.typeInfo32, rfl, rfl⟩
  · exact ⟨_, Try.typeInfo33, rfl, rfl⟩
  · exact ⟨_, Try.typeInfo34, rfl, rfl⟩
  · exact ⟨_, Try.typeInfo36, rfl, rfl⟩
  · exact ⟨_, Try.typeInfo37, rfl, rfl⟩
  · exact ⟨_, Try.typeInfo38, rfl, rfl⟩
  · exact ⟨_, Try.typeInfo39, rfl, rfl⟩
  · exact ⟨_, Try.typeInfo40, rfl, rfl⟩
  · exact ⟨_, Try.typeInfo41, rfl, rfl⟩
  · exact ⟨_, Try.typeInfo42, rfl, rfl⟩
  · exact ⟨_, Try.typeInfo43, rfl, rfl⟩
  · exact ⟨_, Try.typeInfo44, rfl, rfl⟩
  · exact ⟨_, Try.typeInfo45, rfl, rfl⟩
  · exact ⟨_, Try.typeInfo46, rfl, rfl⟩
  · exact ⟨_, Try.typeInfo47, rfl, rfl⟩
  · exact ⟨_, Try.typeInfo48, rfl, rfl⟩
  · exact ⟨_, Try.typeInfo49, rfl, rfl⟩
  · exact ⟨_, Try.typeInfo50, rfl, rfl⟩
  · exact ⟨_, Try.typeInfo51, rfl, rfl⟩
  · exact ⟨_, Try.typeInfo52, rfl, rfl⟩
  · exact ⟨_, Try.typeInfo53, rfl, rfl⟩
  · exact ⟨_, Try.typeInfo55, rfl, rfl⟩
  · exact ⟨_, Try.typeInfo56, rfl, rfl⟩
  · exact ⟨_, Try.typeInfo57, rfl, rfl⟩
  · exact ⟨_, Try.typeInfo58, rfl, rfl⟩
  · exact ⟨_, Try.typeInfo59, rfl, rfl⟩
  · exact ⟨_, Try.typeInfo60, rfl, rfl⟩
  · exact ⟨_, Try.typeInfo62, rfl, rfl⟩
  · exact ⟨_, Try.typeInfo63, rfl, rfl⟩
  · exact ⟨_, Try.typeInfo65, rfl, rfl⟩
  · exact ⟨_, Try.typeInfo66, rfl, rfl⟩
  · exact ⟨_, Try.typeInfo67, rfl, rfl⟩
  · exact ⟨_, Try.typeInfo68, rfl, rfl⟩
  · exact ⟨_, Try.typeInfo69, rfl, rfl⟩
  · exact ⟨_, Try.typeInfo70, rfl, rfl⟩
  · exact ⟨_, Try.typeInfo71, rfl, rfl⟩
  · exact ⟨_, Try.typeInfo73, rfl, rfl⟩
  · exact ⟨_, Try.typeInfo74, rfl, rfl⟩
  · exact ⟨_, Try.typeInfo75, rfl, rfl⟩
  · exact ⟨_, Try.typeInfo76, rfl, rfl⟩
  · exact ⟨_, Try.typeInfo77, rfl, rfl⟩
  · exact ⟨_, Try.typeInfo78, rfl, rfl⟩
  · exact ⟨_, Try.typeInfo80, rfl, rfl⟩
  · exact ⟨_, Try.typeInfo81, rfl, rfl⟩
  · exact ⟨_, Try.typeInfo82, rfl, rfl⟩
  · exact ⟨_, Try.typeInfo83, rfl, rfl⟩
  · exact ⟨_, Try.typeInfo84, rfl, rfl⟩
  · exact ⟨_, Try.typeInfo85, rfl, rfl⟩
  · exact ⟨_, Try.typeInfo86, rfl, rfl⟩
  · exact ⟨_, Try.typeInfo87, rfl, rfl⟩
  · exact ⟨_, Try.typeInfo88, rfl, rfl⟩
  · exact ⟨_, Try.typeInfo89, rfl, rfl⟩
  · exact ⟨_, Try.typeInfo90, rfl, rfl⟩
  · exact ⟨_, Try.typeInfo91, rfl, rfl⟩
  · exact ⟨_, Try.typeInfo93, rfl, rfl⟩
  · exact ⟨_, Try.typeInfo94, rfl, rfl⟩
  · exact ⟨_, Try.typeInfo95, rfl, rfl⟩
  · exact ⟨_, Try.typeInfo96, rfl, rfl⟩
  · exact ⟨_, Try.typeInfo97, rfl, rfl⟩
  · exact ⟨_, Try.typeInfo99, rfl, rfl⟩
  · exact ⟨_, Try.typeInfo100, rfl, rfl⟩
  · exact ⟨_, Try.typeInfo101, rfl, rfl⟩
  · exact ⟨_, Try.typeInfo102, rfl, rfl⟩
  · exact ⟨_, Try.typeInfo104, rfl, rfl⟩
  · exact ⟨_, Try.typeInfo105, rfl, rfl⟩
  · exact ⟨_, Try.typeInfo106, rfl, rfl⟩
  · exact ⟨_, Try.typeInfo107, rfl, rfl⟩
  · exact ⟨_, Try.typeInfo108, rfl, rfl⟩
  · exact ⟨_, Try.typeInfo109, rfl, rfl⟩
  · exact ⟨_, Try.typeInfo110, rfl, rfl⟩
  · exact ⟨_, Try.typeInfo111, rfl, rfl⟩
  · exact ⟨_, Try.typeInfo112, rfl, rfl⟩
  · exact ⟨_, Try.typeInfo114, rfl, rfl⟩
  · exact ⟨_, Try.typeInfo115, rfl, rfl⟩
  · exact ⟨_, Try.typeInfo116, rfl, rfl⟩
  · exact ⟨_, Try.typeInfo117, rfl, rfl⟩
  · exact ⟨_, Try.typeInfo118, rfl, rfl⟩
  · exact ⟨_, Try.typeInfo119, rfl, rfl⟩
  · exact ⟨_, Try.typeInfo120, rfl, rfl⟩
  · exact ⟨_, Try.typeInfo121, rfl, rfl⟩
  · exact ⟨_, Try.typeInfo122, rfl, rfl⟩
  · exact ⟨_, Try.typeInfo123, rfl, rfl⟩
  · exact ⟨_, Try.typeInfo124, rfl, rfl⟩
  · exact ⟨_, Try.typeInfo125, rfl, rfl⟩
  · exact ⟨_, Try.typeInfo126, rfl, rfl⟩
  · exact ⟨_, Try.typeInfo127, rfl, rfl⟩
  · exact ⟨_, Try.typeInfo128, rfl, rfl⟩
  · exact ⟨_, Try.typeInfo130, rfl, rfl⟩
  · exact ⟨_, Try.typeInfo131, rfl, rfl⟩
  · exact ⟨_, Try.typeInfo132, rfl, rfl⟩
  · exact ⟨_, Try.typeInfo133, rfl, rfl⟩
  · exact ⟨_, Try.typeInfo134, rfl, rfl⟩
  · exact ⟨_, Try.typeInfo135, rfl, rfl⟩
  · exact ⟨_, Try.typeInfo137, rfl, rfl⟩
  · exact ⟨_, Try.typeInfo138, rfl, rfl⟩
  · exact ⟨_, Try.typeInfo139, rfl, rfl⟩
  · exact ⟨_, Try.typeInfo140, rfl, rfl⟩
  · exact ⟨_, Try.typeInfo142, rfl, rfl⟩
  · exact ⟨_, Try.typeInfo143, rfl, rfl⟩
  · exact ⟨_, Try.typeInfo144, rfl, rfl⟩
  · exact ⟨_, Try.typeInfo145, rfl, rfl⟩
  · exact ⟨_, Try.typeInfo146, rfl, rfl⟩
  · exact ⟨_, Try.typeInfo147, rfl, rfl⟩
  · exact ⟨_, Try.typeInfo148, rfl, rfl⟩
  · exact ⟨_, Try.typeInfo150, rfl, rfl⟩
  · exact ⟨_, Try.typeInfo151, rfl, rfl⟩
  · exact ⟨_, Try.typeInfo152, rfl, rfl⟩
  · exact ⟨_, Try.typeInfo153, rfl, rfl⟩
  · exact ⟨_, Try.typeInfo154, rfl, rfl⟩
  · exact ⟨_, Try.typeInfo155, rfl, rfl⟩
  · exact ⟨_, Try.typeInfo156, rfl, rfl⟩
  · exact ⟨_, Try.typeInfo157, rfl, rfl⟩
  · exact ⟨_, Try.typeInfo158, rfl, rfl⟩
  · exact ⟨_, Try.typeInfo159, rfl, rfl⟩
  · exact ⟨_, Try.typeInfo160, rfl, rfl⟩
  · exact ⟨_, Try.typeInfo161, rfl, rfl⟩
  · exact ⟨_, Try.typeInfo162, rfl, rfl⟩
  · exact ⟨_, Try.typeInfo164, rfl, rfl⟩
  · exact ⟨_, Try.typeInfo166, rfl, rfl⟩
  · exact ⟨_, Try.typeInfo167, rfl, rfl⟩
  · exact ⟨_, Try.typeInfo168, rfl, rfl⟩
  · exact ⟨_, Try.typeInfo169, rfl, rfl⟩
  · exact ⟨_, Try.typeInfo170, rfl, rfl⟩
  · exact ⟨_, Try.typeInfo171, rfl, rfl⟩
  · exact ⟨_, Try.typeInfo172, rfl, rfl⟩
  · exact ⟨_, Try.typeInfo173, rfl, rfl⟩
  · exact ⟨_, Try.typeInfo174, rfl, rfl⟩
  · exact ⟨_, Try.typeInfo175, rfl, rfl⟩
  · exact ⟨_, Try.typeInfo176, rfl, rfl⟩
  · exact ⟨_, Try.typeInfo177, rfl, rfl⟩
  · exact ⟨_, Try.typeInfo178, rfl, rfl⟩
  · exact ⟨_, Try.typeInfo179, rfl, rfl⟩
  · exact ⟨_, Try.typeInfo180, rfl, rfl⟩
  · exact ⟨_, Try.typeInfo181, rfl, rfl⟩
  · exact ⟨_, Try.typeInfo182, rfl, rfl⟩
  · exact ⟨_, Try.typeInfo183, rfl, rfl⟩
  · exact ⟨_, Try.typeInfo184, rfl, rfl⟩
  · exact ⟨_, Try.typeInfo185, rfl, rfl⟩
  · exact ⟨_, Try.typeInfo186, rfl, rfl⟩
  · exact ⟨_, Try.typeInfo187, rfl, rfl⟩
  · exact ⟨_, Try.typeInfo188, rfl, rfl⟩
  · exact ⟨_, Try.typeInfo189, rfl, rfl⟩
  · exact ⟨_, Try.typeInfo190, rfl, rfl⟩
  · exact ⟨_, Try.typeInfo191, rfl, rfl⟩
  · exact ⟨_, Try.typeInfo192, rfl, rfl⟩
  · exact ⟨_, Try.typeInfo193, rfl, rfl⟩
  · exact ⟨_, Try.typeInfo194, rfl, rfl⟩

def fldT24 : Nat → Option Nat
  | 0 => some 0
  | 1 => some 1
  | _ => none

def fldT28 : Nat → Option Nat
  | 0 => some 0
  | 1 => some 2
  | 2 => some 3
  | 3 => some 4
  | _ => none

def fldT33 : Nat → Option Nat
  | 0 => some 0
  | 1 => some 1
  | 2 => some 2
  | 3 => some 3
  | _ => none

def fldT40 : Nat → Option Nat
  | 0 => some 0
  | 1 => some 1
  | _ => none

def fldT42 : Nat → Option Nat
  | 0 => some 0
  | 1 => some 1
  | 2 => some 2
  | _ => none

def fldT44 : Nat → Option Nat
  | 0 => some 0
  | 1 => some 1
  | 2 => some 2
  | _ => none

def fldT48 : Nat → Option Nat
  | 0 => some 0
  | 1 => some 1
  | _ => none

def fldT52 : Nat → Option Nat
  | 0 => some 0
  | 1 => some 1
  | _ => none

def fldT60 : Nat → Option Nat
  | 0 => some 0
  | 1 => some 1
  | 2 => some 2
  | 3 => some 3
  | 4 => some 4
  | 5 => some 5
  | _ => none

def fldT71 : Nat → Option Nat
  | 0 => some 0
  | 1 => some 1
  | 2 => some 2
  | 3 => some 3
  | _ => none

def fldT76 : Nat → Option Nat
  | 0 => some 0
  | 1 => some 1
  | _ => none

def fldT87 : Nat → Option Nat
  | 0 => some 0
  | 1 => some 1
  | _ => none

def fldT96 : Nat → Option Nat
  | 0 => some 0
  | 1 => some 1
  | 2 => some 2
  | 3 => some 3
  | _ => none

def fldT106 : Nat → Option Nat
  | 0 => some 0
  | 1 => some 4
  | 2 => some 9
  | 3 => some 10
  | 4 => some 11
  | 5 => some 12
  | _ => none

def fldT111 : Nat → Option Nat
  | 0 => some 0
  | 1 => some 2
  | _ => none

def fldT116 : Nat → Option Nat
  | 0 => some 0
  | 1 => some 1
  | 2 => some 2
  | 3 => some 3
  | 4 => some 4
  | 5 => some 5
  | _ => none

def fldT128 : Nat → Option Nat
  | 0 => some 0
  | 1 => some 1
  | 2 => some 2
  | 3 => some 3
  | _ => none

def fldT140 : Nat → Option Nat
  | 0 => some 0
  | 1 => some 1
  | _ => none

def fldT146 : Nat → Option Nat
  | 0 => some 0
  | 1 => some 1
  | _ => none

def fldT159 : Nat → Option Nat
  | 0 => some 0
  | 1 => some 1
  | _ => none

def fldT170 : Nat → Option Nat
  | 0 => some 0
  | 1 => some 1
  | 2 => some 2
  | _ => none

def fldT172 : Nat → Option Nat
  | 0 => some 0
  | 1 => some 2
  | _ => none

def fldT176 : Nat → Option Nat
  | 0 => some 0
  | 1 => some 1
  | 2 => some 2
  | _ => none

def fldT178 : Nat → Option Nat
  | 0 => some 0
  | 1 => some 3
  | _ => none

def fldT182 : Nat → Option Nat
  | 0 => some 0
  | 1 => some 1
  | 2 => some 2
  | 3 => some 3
  | _ => none

def fldT194 : Nat → Option Nat
  | 0 => some 0
  | 1 => some 1
  | 2 => some 2
  | 3 => some 3
  | 4 => some 4
  | 5 => some 5
  | 6 => some 6
  | 7 => some 7
  | 8 => some 8
  | 9 => some 9
  | 10 => some 10
  | _ => none

def fldT : Nat → Nat → Option Nat
  | 24, j => fldT24 j
  | 28, j => fldT28 j
  | 33, j => fldT33 j
  | 40, j => fldT40 j
  | 42, j => fldT42 j
  | 44, j => fldT44 j
  | 48, j => fldT48 j
  | 52, j => fldT52 j
  | 60, j => fldT60 j
  | 71, j => fldT71 j
  | 76, j => fldT76 j
  | 87, j => fldT87 j
  | 96, j => fldT96 j
  | 106, j => fldT106 j
  | 111, j => fldT111 j
  | 116, j => fldT116 j
  | 128, j => fldT128 j
  | 140, j => fldT140 j
  | 146, j => fldT146 j
  | 159, j => fldT159 j
  | 170, j => fldT170 j
  | 172, j => fldT172 j
  | 176, j => fldT176 j
  | 178, j => fldT178 j
  | 182, j => fldT182 j
  | 194, j => fldT194 j
  | _, _ => none

theorem fld_24_0 : ∀ b o w, (Instr.fieldAt 24 (.pointer (some ⟨b, o, none⟩)) 0).run Try.prog w = .ok (.pointer (some ⟨b, o + 0, none⟩)) w := fieldAt_run Try.runUnderlying24 rfl Try.sizeOf3 rfl rfl
theorem fld_24_1 : ∀ b o w, (Instr.fieldAt 24 (.pointer (some ⟨b, o, none⟩)) 1).run Try.prog w = .ok (.pointer (some ⟨b, o + 1, none⟩)) w := fieldAt_run Try.runUnderlying24 rfl Try.sizeOf22 rfl rfl
theorem fld_28_0 : ∀ b o w, (Instr.fieldAt 28 (.pointer (some ⟨b, o, none⟩)) 0).run Try.prog w = .ok (.pointer (some ⟨b, o + 0, none⟩)) w := fieldAt_run Try.runUnderlying28 rfl Try.sizeOf24 rfl rfl
theorem fld_28_1 : ∀ b o w, (Instr.fieldAt 28 (.pointer (some ⟨b, o, none⟩)) 1).run Try.prog w = .ok (.pointer (some ⟨b, o + 2, none⟩)) w := fieldAt_run Try.runUnderlying28 rfl Try.sizeOf25 rfl rfl
theorem fld_28_2 : ∀ b o w, (Instr.fieldAt 28 (.pointer (some ⟨b, o, none⟩)) 2).run Try.prog w = .ok (.pointer (some ⟨b, o + 3, none⟩)) w := fieldAt_run Try.runUnderlying28 rfl Try.sizeOf26 rfl rfl
theorem fld_28_3 : ∀ b o w, (Instr.fieldAt 28 (.pointer (some ⟨b, o, none⟩)) 3).run Try.prog w = .ok (.pointer (some ⟨b, o + 4, none⟩)) w := fieldAt_run Try.runUnderlying28 rfl Try.sizeOf3 rfl rfl
theorem fld_33_0 : ∀ b o w, (Instr.fieldAt 33 (.pointer (some ⟨b, o, none⟩)) 0).run Try.prog w = .ok (.pointer (some ⟨b, o + 0, none⟩)) w := fieldAt_run Try.runUnderlying33 rfl Try.sizeOf3 rfl rfl
theorem fld_33_1 : ∀ b o w, (Instr.fieldAt 33 (.pointer (some ⟨b, o, none⟩)) 1).run Try.prog w = .ok (.pointer (some ⟨b, o + 1, none⟩)) w := fieldAt_run Try.runUnderlying33 rfl Try.sizeOf3 rfl rfl
theorem fld_33_2 : ∀ b o w, (Instr.fieldAt 33 (.pointer (some ⟨b, o, none⟩)) 2).run Try.prog w = .ok (.pointer (some ⟨b, o + 2, none⟩)) w := fieldAt_run Try.runUnderlying33 rfl Try.sizeOf31 rfl rfl
theorem fld_33_3 : ∀ b o w, (Instr.fieldAt 33 (.pointer (some ⟨b, o, none⟩)) 3).run Try.prog w = .ok (.pointer (some ⟨b, o + 3, none⟩)) w := fieldAt_run Try.runUnderlying33 rfl Try.sizeOf31 rfl rfl
theorem fld_40_0 : ∀ b o w, (Instr.fieldAt 40 (.pointer (some ⟨b, o, none⟩)) 0).run Try.prog w = .ok (.pointer (some ⟨b, o + 0, none⟩)) w := fieldAt_run Try.runUnderlying40 rfl Try.sizeOf3 rfl rfl
theorem fld_40_1 : ∀ b o w, (Instr.fieldAt 40 (.pointer (some ⟨b, o, none⟩)) 1).run Try.prog w = .ok (.pointer (some ⟨b, o + 1, none⟩)) w := fieldAt_run Try.runUnderlying40 rfl Try.sizeOf3 rfl rfl
theorem fld_42_0 : ∀ b o w, (Instr.fieldAt 42 (.pointer (some ⟨b, o, none⟩)) 0).run Try.prog w = .ok (.pointer (some ⟨b, o + 0, none⟩)) w := fieldAt_run Try.runUnderlying42 rfl Try.sizeOf3 rfl rfl
theorem fld_42_1 : ∀ b o w, (Instr.fieldAt 42 (.pointer (some ⟨b, o, none⟩)) 1).run Try.prog w = .ok (.pointer (some ⟨b, o + 1, none⟩)) w := fieldAt_run Try.runUnderlying42 rfl Try.sizeOf3 rfl rfl
theorem fld_42_2 : ∀ b o w, (Instr.fieldAt 42 (.pointer (some ⟨b, o, none⟩)) 2).run Try.prog w = .ok (.pointer (some ⟨b, o + 2, none⟩)) w := fieldAt_run Try.runUnderlying42 rfl Try.sizeOf40 rfl rfl
theorem fld_44_0 : ∀ b o w, (Instr.fieldAt 44 (.pointer (some ⟨b, o, none⟩)) 0).run Try.prog w = .ok (.pointer (some ⟨b, o + 0, none⟩)) w := fieldAt_run Try.runUnderlying44 rfl Try.sizeOf3 rfl rfl
theorem fld_44_1 : ∀ b o w, (Instr.fieldAt 44 (.pointer (some ⟨b, o, none⟩)) 1).run Try.prog w = .ok (.pointer (some ⟨b, o + 1, none⟩)) w := fieldAt_run Try.runUnderlying44 rfl Try.sizeOf3 rfl rfl
theorem fld_44_2 : ∀ b o w, (Instr.fieldAt 44 (.pointer (some ⟨b, o, none⟩)) 2).run Try.prog w = .ok (.pointer (some ⟨b, o + 2, none⟩)) w := fieldAt_run Try.runUnderlying44 rfl Try.sizeOf3 rfl rfl
theorem fld_48_0 : ∀ b o w, (Instr.fieldAt 48 (.pointer (some ⟨b, o, none⟩)) 0).run Try.prog w = .ok (.pointer (some ⟨b, o + 0, none⟩)) w := fieldAt_run Try.runUnderlying48 rfl Try.sizeOf3 rfl rfl
theorem fld_48_1 : ∀ b o w, (Instr.fieldAt 48 (.pointer (some ⟨b, o, none⟩)) 1).run Try.prog w = .ok (.pointer (some ⟨b, o + 1, none⟩)) w := fieldAt_run Try.runUnderlying48 rfl Try.sizeOf3 rfl rfl
theorem fld_52_0 : ∀ b o w, (Instr.fieldAt 52 (.pointer (some ⟨b, o, none⟩)) 0).run Try.prog w = .ok (.pointer (some ⟨b, o + 0, none⟩)) w := fieldAt_run Try.runUnderlying52 rfl Try.sizeOf50 rfl rfl
theorem fld_52_1 : ∀ b o w, (Instr.fieldAt 52 (.pointer (some ⟨b, o, none⟩)) 1).run Try.prog w = .ok (.pointer (some ⟨b, o + 1, none⟩)) w := fieldAt_run Try.runUnderlying52 rfl Try.sizeOf31 rfl rfl
theorem fld_60_0 : ∀ b o w, (Instr.fieldAt 60 (.pointer (some ⟨b, o, none⟩)) 0).run Try.prog w = .ok (.pointer (some ⟨b, o + 0, none⟩)) w := fieldAt_run Try.runUnderlying60 rfl Try.sizeOf26 rfl rfl
theorem fld_60_1 : ∀ b o w, (Instr.fieldAt 60 (.pointer (some ⟨b, o, none⟩)) 1).run Try.prog w = .ok (.pointer (some ⟨b, o + 1, none⟩)) w := fieldAt_run Try.runUnderlying60 rfl Try.sizeOf26 rfl rfl
theorem fld_60_2 : ∀ b o w, (Instr.fieldAt 60 (.pointer (some ⟨b, o, none⟩)) 2).run Try.prog w = .ok (.pointer (some ⟨b, o + 2, none⟩)) w := fieldAt_run Try.runUnderlying60 rfl Try.sizeOf58 rfl rfl
theorem fld_60_3 : ∀ b o w, (Instr.fieldAt 60 (.pointer (some ⟨b, o, none⟩)) 3).run Try.prog w = .ok (.pointer (some ⟨b, o + 3, none⟩)) w := fieldAt_run Try.runUnderlying60 rfl Try.sizeOf3 rfl rfl
theorem fld_60_4 : ∀ b o w, (Instr.fieldAt 60 (.pointer (some ⟨b, o, none⟩)) 4).run Try.prog w = .ok (.pointer (some ⟨b, o + 4, none⟩)) w := fieldAt_run Try.runUnderlying60 rfl Try.sizeOf3 rfl rfl
theorem fld_60_5 : ∀ b o w, (Instr.fieldAt 60 (.pointer (some ⟨b, o, none⟩)) 5).run Try.prog w = .ok (.pointer (some ⟨b, o + 5, none⟩)) w := fieldAt_run Try.runUnderlying60 rfl Try.sizeOf3 rfl rfl
theorem fld_71_0 : ∀ b o w, (Instr.fieldAt 71 (.pointer (some ⟨b, o, none⟩)) 0).run Try.prog w = .ok (.pointer (some ⟨b, o + 0, none⟩)) w := fieldAt_run Try.runUnderlying71 rfl Try.sizeOf3 rfl rfl
theorem fld_71_1 : ∀ b o w, (Instr.fieldAt 71 (.pointer (some ⟨b, o, none⟩)) 1).run Try.prog w = .ok (.pointer (some ⟨b, o + 1, none⟩)) w := fieldAt_run Try.runUnderlying71 rfl Try.sizeOf3 rfl rfl
theorem fld_71_2 : ∀ b o w, (Instr.fieldAt 71 (.pointer (some ⟨b, o, none⟩)) 2).run Try.prog w = .ok (.pointer (some ⟨b, o + 2, none⟩)) w := fieldAt_run Try.runUnderlying71 rfl Try.sizeOf31 rfl rfl
theorem fld_71_3 : ∀ b o w, (Instr.fieldAt 71 (.pointer (some ⟨b, o, none⟩)) 3).run Try.prog w = .ok (.pointer (some ⟨b, o + 3, none⟩)) w := fieldAt_run Try.runUnderlying71 rfl Try.sizeOf31 rfl rfl
theorem fld_76_0 : ∀ b o w, (Instr.fieldAt 76 (.pointer (some ⟨b, o, none⟩)) 0).run Try.prog w = .ok (.pointer (some ⟨b, o + 0, none⟩)) w := fieldAt_run Try.runUnderlying76 rfl Try.sizeOf3 rfl rfl
theorem fld_76_1 : ∀ b o w, (Instr.fieldAt 76 (.pointer (some ⟨b, o, none⟩)) 1).run Try.prog w = .ok (.pointer (some ⟨b, o + 1, none⟩)) w := fieldAt_run Try.runUnderlying76 rfl Try.sizeOf74 rfl rfl
theorem fld_87_0 : ∀ b o w, (Instr.fieldAt 87 (.pointer (some ⟨b, o, none⟩)) 0).run Try.prog w = .ok (.pointer (some ⟨b, o + 0, none⟩)) w := fieldAt_run Try.runUnderlying87 rfl Try.sizeOf3 rfl rfl
theorem fld_87_1 : ∀ b o w, (Instr.fieldAt 87 (.pointer (some ⟨b, o, none⟩)) 1).run Try.prog w = .ok (.pointer (some ⟨b, o + 1, none⟩)) w := fieldAt_run Try.runUnderlying87 rfl Try.sizeOf31 rfl rfl
theorem fld_96_0 : ∀ b o w, (Instr.fieldAt 96 (.pointer (some ⟨b, o, none⟩)) 0).run Try.prog w = .ok (.pointer (some ⟨b, o + 0, none⟩)) w := fieldAt_run Try.runUnderlying96 rfl Try.sizeOf3 rfl rfl
theorem fld_96_1 : ∀ b o w, (Instr.fieldAt 96 (.pointer (some ⟨b, o, none⟩)) 1).run Try.prog w = .ok (.pointer (some ⟨b, o + 1, none⟩)) w := fieldAt_run Try.runUnderlying96 rfl Try.sizeOf3 rfl rfl
theorem fld_96_2 : ∀ b o w, (Instr.fieldAt 96 (.pointer (some ⟨b, o, none⟩)) 2).run Try.prog w = .ok (.pointer (some ⟨b, o + 2, none⟩)) w := fieldAt_run Try.runUnderlying96 rfl Try.sizeOf3 rfl rfl
theorem fld_96_3 : ∀ b o w, (Instr.fieldAt 96 (.pointer (some ⟨b, o, none⟩)) 3).run Try.prog w = .ok (.pointer (some ⟨b, o + 3, none⟩)) w := fieldAt_run Try.runUnderlying96 rfl Try.sizeOf3 rfl rfl
theorem fld_106_0 : ∀ b o w, (Instr.fieldAt 106 (.pointer (some ⟨b, o, none⟩)) 0).run Try.prog w = .ok (.pointer (some ⟨b, o + 0, none⟩)) w := fieldAt_run Try.runUnderlying106 rfl Try.sizeOf42 rfl rfl
theorem fld_106_1 : ∀ b o w, (Instr.fieldAt 106 (.pointer (some ⟨b, o, none⟩)) 1).run Try.prog w = .ok (.pointer (some ⟨b, o + 4, none⟩)) w := fieldAt_run Try.runUnderlying106 rfl Try.sizeOf28 rfl rfl
theorem fld_106_2 : ∀ b o w, (Instr.fieldAt 106 (.pointer (some ⟨b, o, none⟩)) 2).run Try.prog w = .ok (.pointer (some ⟨b, o + 9, none⟩)) w := fieldAt_run Try.runUnderlying106 rfl Try.sizeOf3 rfl rfl
theorem fld_106_3 : ∀ b o w, (Instr.fieldAt 106 (.pointer (some ⟨b, o, none⟩)) 3).run Try.prog w = .ok (.pointer (some ⟨b, o + 10, none⟩)) w := fieldAt_run Try.runUnderlying106 rfl Try.sizeOf3 rfl rfl
theorem fld_106_4 : ∀ b o w, (Instr.fieldAt 106 (.pointer (some ⟨b, o, none⟩)) 4).run Try.prog w = .ok (.pointer (some ⟨b, o + 11, none⟩)) w := fieldAt_run Try.runUnderlying106 rfl Try.sizeOf3 rfl rfl
theorem fld_106_5 : ∀ b o w, (Instr.fieldAt 106 (.pointer (some ⟨b, o, none⟩)) 5).run Try.prog w = .ok (.pointer (some ⟨b, o + 12, none⟩)) w := fieldAt_run Try.runUnderlying106 rfl Try.sizeOf3 rfl rfl
theorem fld_111_0 : ∀ b o w, (Instr.fieldAt 111 (.pointer (some ⟨b, o, none⟩)) 0).run Try.prog w = .ok (.pointer (some ⟨b, o + 0, none⟩)) w := fieldAt_run Try.runUnderlying111 rfl Try.sizeOf76 rfl rfl
theorem fld_111_1 : ∀ b o w, (Instr.fieldAt 111 (.pointer (some ⟨b, o, none⟩)) 1).run Try.prog w = .ok (.pointer (some ⟨b, o + 2, none⟩)) w := fieldAt_run Try.runUnderlying111 rfl Try.sizeOf31 rfl rfl
theorem fld_116_0 : ∀ b o w, (Instr.fieldAt 116 (.pointer (some ⟨b, o, none⟩)) 0).run Try.prog w = .ok (.pointer (some ⟨b, o + 0, none⟩)) w := fieldAt_run Try.runUnderlying116 rfl Try.sizeOf3 rfl rfl
theorem fld_116_1 : ∀ b o w, (Instr.fieldAt 116 (.pointer (some ⟨b, o, none⟩)) 1).run Try.prog w = .ok (.pointer (some ⟨b, o + 1, none⟩)) w := fieldAt_run Try.runUnderlying116 rfl Try.sizeOf3 rfl rfl
theorem fld_116_2 : ∀ b o w, (Instr.fieldAt 116 (.pointer (some ⟨b, o, none⟩)) 2).run Try.prog w = .ok (.pointer (some ⟨b, o + 2, none⟩)) w := fieldAt_run Try.runUnderlying116 rfl Try.sizeOf3 rfl rfl
theorem fld_116_3 : ∀ b o w, (Instr.fieldAt 116 (.pointer (some ⟨b, o, none⟩)) 3).run Try.prog w = .ok (.pointer (some ⟨b, o + 3, none⟩)) w := fieldAt_run Try.runUnderlying116 rfl Try.sizeOf4 rfl rfl
theorem fld_116_4 : ∀ b o w, (Instr.fieldAt 116 (.pointer (some ⟨b, o, none⟩)) 4).run Try.prog w = .ok (.pointer (some ⟨b, o + 4, none⟩)) w := fieldAt_run Try.runUnderlying116 rfl Try.sizeOf4 rfl rfl
theorem fld_116_5 : ∀ b o w, (Instr.fieldAt 116 (.pointer (some ⟨b, o, none⟩)) 5).run Try.prog w = .ok (.pointer (some ⟨b, o + 5, none⟩)) w := fieldAt_run Try.runUnderlying116 rfl Try.sizeOf3 rfl rfl
theorem fld_128_0 : ∀ b o w, (Instr.fieldAt 128 (.pointer (some ⟨b, o, none⟩)) 0).run Try.prog w = .ok (.pointer (some ⟨b, o + 0, none⟩)) w := fieldAt_run Try.runUnderlying128 rfl Try.sizeOf3 rfl rfl
theorem fld_128_1 : ∀ b o w, (Instr.fieldAt 128 (.pointer (some ⟨b, o, none⟩)) 1).run Try.prog w = .ok (.pointer (some ⟨b, o + 1, none⟩)) w := fieldAt_run Try.runUnderlying128 rfl Try.sizeOf3 rfl rfl
theorem fld_128_2 : ∀ b o w, (Instr.fieldAt 128 (.pointer (some ⟨b, o, none⟩)) 2).run Try.prog w = .ok (.pointer (some ⟨b, o + 2, none⟩)) w := fieldAt_run Try.runUnderlying128 rfl Try.sizeOf3 rfl rfl
theorem fld_128_3 : ∀ b o w, (Instr.fieldAt 128 (.pointer (some ⟨b, o, none⟩)) 3).run Try.prog w = .ok (.pointer (some ⟨b, o + 3, none⟩)) w := fieldAt_run Try.runUnderlying128 rfl Try.sizeOf3 rfl rfl
theorem fld_140_0 : ∀ b o w, (Instr.fieldAt 140 (.pointer (some ⟨b, o, none⟩)) 0).run Try.prog w = .ok (.pointer (some ⟨b, o + 0, none⟩)) w := fieldAt_run Try.runUnderlying140 rfl Try.sizeOf3 rfl rfl
theorem fld_140_1 : ∀ b o w, (Instr.fieldAt 140 (.pointer (some ⟨b, o, none⟩)) 1).run Try.prog w = .ok (.pointer (some ⟨b, o + 1, none⟩)) w := fieldAt_run Try.runUnderlying140 rfl Try.sizeOf3 rfl rfl
theorem fld_146_0 : ∀ b o w, (Instr.fieldAt 146 (.pointer (some ⟨b, o, none⟩)) 0).run Try.prog w = .ok (.pointer (some ⟨b, o + 0, none⟩)) w := fieldAt_run Try.runUnderlying146 rfl Try.sizeOf3 rfl rfl
theorem fld_146_1 : ∀ b o w, (Instr.fieldAt 146 (.pointer (some ⟨b, o, none⟩)) 1).run Try.prog w = .ok (.pointer (some ⟨b, o + 1, none⟩)) w := fieldAt_run Try.runUnderlying146 rfl Try.sizeOf3 rfl rfl
theorem fld_159_0 : ∀ b o w, (Instr.fieldAt 159 (.pointer (some ⟨b, o, none⟩)) 0).run Try.prog w = .ok (.pointer (some ⟨b, o + 0, none⟩)) w := fieldAt_run Try.runUnderlying159 rfl Try.sizeOf3 rfl rfl
theorem fld_159_1 : ∀ b o w, (Instr.fieldAt 159 (.pointer (some ⟨b, o, none⟩)) 1).run Try.prog w = .ok (.pointer (some ⟨b, o + 1, none⟩)) w := fieldAt_run Try.runUnderlying159 rfl Try.sizeOf140 rfl rfl
theorem fld_170_0 : ∀ b o w, (Instr.fieldAt 170 (.pointer (some ⟨b, o, none⟩)) 0).run Try.prog w = .ok (.pointer (some ⟨b, o + 0, none⟩)) w := fieldAt_run Try.runUnderlying170 rfl Try.sizeOf147 rfl rfl
theorem fld_170_1 : ∀ b o w, (Instr.fieldAt 170 (.pointer (some ⟨b, o, none⟩)) 1).run Try.prog w = .ok (.pointer (some ⟨b, o + 1, none⟩)) w := fieldAt_run Try.runUnderlying170 rfl Try.sizeOf168 rfl rfl
theorem fld_170_2 : ∀ b o w, (Instr.fieldAt 170 (.pointer (some ⟨b, o, none⟩)) 2).run Try.prog w = .ok (.pointer (some ⟨b, o + 2, none⟩)) w := fieldAt_run Try.runUnderlying170 rfl Try.sizeOf3 rfl rfl
theorem fld_172_0 : ∀ b o w, (Instr.fieldAt 172 (.pointer (some ⟨b, o, none⟩)) 0).run Try.prog w = .ok (.pointer (some ⟨b, o + 0, none⟩)) w := fieldAt_run Try.runUnderlying172 rfl Try.sizeOf146 rfl rfl
theorem fld_172_1 : ∀ b o w, (Instr.fieldAt 172 (.pointer (some ⟨b, o, none⟩)) 1).run Try.prog w = .ok (.pointer (some ⟨b, o + 2, none⟩)) w := fieldAt_run Try.runUnderlying172 rfl Try.sizeOf3 rfl rfl
theorem fld_176_0 : ∀ b o w, (Instr.fieldAt 176 (.pointer (some ⟨b, o, none⟩)) 0).run Try.prog w = .ok (.pointer (some ⟨b, o + 0, none⟩)) w := fieldAt_run Try.runUnderlying176 rfl Try.sizeOf161 rfl rfl
theorem fld_176_1 : ∀ b o w, (Instr.fieldAt 176 (.pointer (some ⟨b, o, none⟩)) 1).run Try.prog w = .ok (.pointer (some ⟨b, o + 1, none⟩)) w := fieldAt_run Try.runUnderlying176 rfl Try.sizeOf174 rfl rfl
theorem fld_176_2 : ∀ b o w, (Instr.fieldAt 176 (.pointer (some ⟨b, o, none⟩)) 2).run Try.prog w = .ok (.pointer (some ⟨b, o + 2, none⟩)) w := fieldAt_run Try.runUnderlying176 rfl Try.sizeOf3 rfl rfl
theorem fld_178_0 : ∀ b o w, (Instr.fieldAt 178 (.pointer (some ⟨b, o, none⟩)) 0).run Try.prog w = .ok (.pointer (some ⟨b, o + 0, none⟩)) w := fieldAt_run Try.runUnderlying178 rfl Try.sizeOf159 rfl rfl
theorem fld_178_1 : ∀ b o w, (Instr.fieldAt 178 (.pointer (some ⟨b, o, none⟩)) 1).run Try.prog w = .ok (.pointer (some ⟨b, o + 3, none⟩)) w := fieldAt_run Try.runUnderlying178 rfl Try.sizeOf3 rfl rfl
theorem fld_182_0 : ∀ b o w, (Instr.fieldAt 182 (.pointer (some ⟨b, o, none⟩)) 0).run Try.prog w = .ok (.pointer (some ⟨b, o + 0, none⟩)) w := fieldAt_run Try.runUnderlying182 rfl Try.sizeOf17 rfl rfl
theorem fld_182_1 : ∀ b o w, (Instr.fieldAt 182 (.pointer (some ⟨b, o, none⟩)) 1).run Try.prog w = .ok (.pointer (some ⟨b, o + 1, none⟩)) w := fieldAt_run Try.runUnderlying182 rfl Try.sizeOf17 rfl rfl
theorem fld_182_2 : ∀ b o w, (Instr.fieldAt 182 (.pointer (some ⟨b, o, none⟩)) 2).run Try.prog w = .ok (.pointer (some ⟨b, o + 2, none⟩)) w := fieldAt_run Try.runUnderlying182 rfl Try.sizeOf17 rfl rfl
theorem fld_182_3 : ∀ b o w, (Instr.fieldAt 182 (.pointer (some ⟨b, o, none⟩)) 3).run Try.prog w = .ok (.pointer (some ⟨b, o + 3, none⟩)) w := fieldAt_run Try.runUnderlying182 rfl Try.sizeOf9 rfl rfl
theorem fld_194_0 : ∀ b o w, (Instr.fieldAt 194 (.pointer (some ⟨b, o, none⟩)) 0).run Try.prog w = .ok (.pointer (some ⟨b, o + 0, none⟩)) w := fieldAt_run Try.runUnderlying194 rfl Try.sizeOf12 rfl rfl
theorem fld_194_1 : ∀ b o w, (Instr.fieldAt 194 (.pointer (some ⟨b, o, none⟩)) 1).run Try.prog w = .ok (.pointer (some ⟨b, o + 1, none⟩)) w := fieldAt_run Try.runUnderlying194 rfl Try.sizeOf12 rfl rfl
theorem fld_194_2 : ∀ b o w, (Instr.fieldAt 194 (.pointer (some ⟨b, o, none⟩)) 2).run Try.prog w = .ok (.pointer (some ⟨b, o + 2, none⟩)) w := fieldAt_run Try.runUnderlying194 rfl Try.sizeOf186 rfl rfl
theorem fld_194_3 : ∀ b o w, (Instr.fieldAt 194 (.pointer (some ⟨b, o, none⟩)) 3).run Try.prog w = .ok (.pointer (some ⟨b, o + 3, none⟩)) w := fieldAt_run Try.runUnderlying194 rfl Try.sizeOf187 rfl rfl
theorem fld_194_4 : ∀ b o w, (Instr.fieldAt 194 (.pointer (some ⟨b, o, none⟩)) 4).run Try.prog w = .ok (.pointer (some ⟨b, o + 4, none⟩)) w := fieldAt_run Try.runUnderlying194 rfl Try.sizeOf5 rfl rfl
theorem fld_194_5 : ∀ b o w, (Instr.fieldAt 194 (.pointer (some ⟨b, o, none⟩)) 5).run Try.prog w = .ok (.pointer (some ⟨b, o + 5, none⟩)) w := fieldAt_run Try.runUnderlying194 rfl Try.sizeOf5 rfl rfl
theorem fld_194_6 : ∀ b o w, (Instr.fieldAt 194 (.pointer (some ⟨b, o, none⟩)) 6).run Try.prog w = .ok (.pointer (some ⟨b, o + 6, none⟩)) w := fieldAt_run Try.runUnderlying194 rfl Try.sizeOf188 rfl rfl
theorem fld_194_7 : ∀ b o w, (Instr.fieldAt 194 (.pointer (some ⟨b, o, none⟩)) 7).run Try.prog w = .ok (.pointer (some ⟨b, o + 7, none⟩)) w := fieldAt_run Try.runUnderlying194 rfl Try.sizeOf189 rfl rfl
theorem fld_194_8 : ∀ b o w, (Instr.fieldAt 194 (.pointer (some ⟨b, o, none⟩)) 8).run Try.prog w = .ok (.pointer (some ⟨b, o + 8, none⟩)) w := fieldAt_run Try.runUnderlying194 rfl Try.sizeOf190 rfl rfl
theorem fld_194_9 : ∀ b o w, (Instr.fieldAt 194 (.pointer (some ⟨b, o, none⟩)) 9).run Try.prog w = .ok (.pointer (some ⟨b, o + 9, none⟩)) w := fieldAt_run Try.runUnderlying194 rfl Try.sizeOf191 rfl rfl
theorem fld_194_10 : ∀ b o w, (Instr.fieldAt 194 (.pointer (some ⟨b, o, none⟩)) 10).run Try.prog w = .ok (.pointer (some ⟨b, o + 10, none⟩)) w := fieldAt_run Try.runUnderlying194 rfl Try.sizeOf192 rfl rfl
theorem fldr_24 {k off : Nat} (h : fldT24 k = some off) : ∀ b o w, (Instr.fieldAt 24 (.pointer (some ⟨b, o, none⟩)) k).run Try.prog w = .ok (.pointer (some ⟨b, o + off, none⟩)) w := by
  unfold fldT24 at h
  split at h <;> (try cases h)
  · exact fld_24_0
  · exact fld_24_1

theorem fldr_28 {k off : Nat} (h : fldT28 k = some off) : ∀ b o w, (Instr.fieldAt 28 (.pointer (some ⟨b, o, none⟩)) k).run Try.prog w = .ok (.pointer (some ⟨b, o + off, none⟩)) w := by
  unfold fldT28 at h
  split at h <;> (try cases h)
  · exact fld_28_0
  · exact fld_28_1
  · exact fld_28_2
  · exact fld_28_3

theorem fldr_33 {k off : Nat} (h : fldT33 k = some off) : ∀ b o w, (Instr.fieldAt 33 (.pointer (some ⟨b, o, none⟩)) k).run Try.prog w = .ok (.pointer (some ⟨b, o + off, none⟩)) w := by
  unfold fldT33 at h
  split at h <;> (try cases h)
  · exact fld_33_0
  · exact fld_33_1
  · exact fld_33_2
  · exact fld_33_3

theorem fldr_40 {k off : Nat} (h : fldT40 k = some off) : ∀ b o w, (Instr.fieldAt 40 (.pointer (some ⟨b, o, none⟩)) k).run Try.prog w = .ok (.pointer (some ⟨b, o + off, none⟩)) w := by
  unfold fldT40 at h
  split at h <;> (try cases h)
  · exact fld_40_0
  · exact fld_40_1

theorem fldr_42 {k off : Nat} (h : fldT42 k = some off) : ∀ b o w, (Instr.fieldAt 42 (.pointer (some ⟨b, o, none⟩)) k).run Try.prog w = .ok (.pointer (some ⟨b, o + off, none⟩)) w := by
  unfold fldT42 at h
  split at h <;> (try cases h)
  · exact fld_42_0
  · exact fld_42_1
  · exact fld_42_2

theorem fldr_44 {k off : Nat} (h : fldT44 k = some off) : ∀ b o w, (Instr.fieldAt 44 (.pointer (some ⟨b, o, none⟩)) k).run Try.prog w = .ok (.pointer (some ⟨b, o + off, none⟩)) w := by
  unfold fldT44 at h
  split at h <;> (try cases h)
  · exact fld_44_0
  · exact fld_44_1
  · exact fld_44_2

theorem fldr_48 {k off : Nat} (h : fldT48 k = some off) : ∀ b o w, (Instr.fieldAt 48 (.pointer (some ⟨b, o, none⟩)) k).run Try.prog w = .ok (.pointer (some ⟨b, o + off, none⟩)) w := by
  unfold fldT48 at h
  split at h <;> (try cases h)
  · exact fld_48_0
  · exact fld_48_1

theorem fldr_52 {k off : Nat} (h : fldT52 k = some off) : ∀ b o w, (Instr.fieldAt 52 (.pointer (some ⟨b, o, none⟩)) k).run Try.prog w = .ok (.pointer (some ⟨b, o + off, none⟩)) w := by
  unfold fldT52 at h
  split at h <;> (try cases h)
  · exact fld_52_0
  · exact fld_52_1

theorem fldr_60 {k off : Nat} (h : fldT60 k = some off) : ∀ b o w, (Instr.fieldAt 60 (.pointer (some ⟨b, o, none⟩)) k).run Try.prog w = .ok (.pointer (some ⟨b, o + off, none⟩)) w := by
  unfold fldT60 at h
  split at h <;> (try cases h)
  · exact fld_60_0
  · exact fld_60_1
  · exact fld_60_2
  · exact fld_60_3
  · exact fld_60_4
  · exact fld_60_5

theorem fldr_71 {k off : Nat} (h : fldT71 k = some off) : ∀ b o w, (Instr.fieldAt 71 (.pointer (some ⟨b, o, none⟩)) k).run Try.prog w = .ok (.pointer (some ⟨b, o + off, none⟩)) w := by
  unfold fldT71 at h
  split at h <;> (try cases h)
  · exact fld_71_0
  · exact fld_71_1
  · exact fld_71_2
  · exact fld_71_3

theorem fldr_76 {k off : Nat} (h : fldT76 k = some off) : ∀ b o w, (Instr.fieldAt 76 (.pointer (some ⟨b, o, none⟩)) k).run Try.prog w = .ok (.pointer (some ⟨b, o + off, none⟩)) w := by
  unfold fldT76 at h
  split at h <;> (try cases h)
  · exact fld_76_0
  · exact fld_76_1

theorem fldr_87 {k off : Nat} (h : fldT87 k = some off) : ∀ b o w, (Instr.fieldAt 87 (.pointer (some ⟨b, o, none⟩)) k).run Try.prog w = .ok (.pointer (some ⟨b, o + off, none⟩)) w := by
  unfold fldT87 at h
  split at h <;> (try cases h)
  · exact fld_87_0
  · exact fld_87_1

theorem fldr_96 {k off : Nat} (h : fldT96 k = some off) : ∀ b o w, (Instr.fieldAt 96 (.pointer (some ⟨b, o, none⟩)) k).run Try.prog w = .ok (.pointer (some ⟨b, o + off, none⟩)) w := by
  unfold fldT96 at h
  split at h <;> (try cases h)
  · exact fld_96_0
  · exact fld_96_1
  · exact fld_96_2
  · exact fld_96_3

theorem fldr_106 {k off : Nat} (h : fldT106 k = some off) : ∀ b o w, (Instr.fieldAt 106 (.pointer (some ⟨b, o, none⟩)) k).run Try.prog w = .ok (.pointer (some ⟨b, o + off, none⟩)) w := by
  unfold fldT106 at h
  split at h <;> (try cases h)
  · exact fld_106_0
  · exact fld_106_1
  · exact fld_106_2
  · exact fld_106_3
  · exact fld_106_4
  · exact fld_106_5

theorem fldr_111 {k off : Nat} (h : fldT111 k = some off) : ∀ b o w, (Instr.fieldAt 111 (.pointer (some ⟨b, o, none⟩)) k).run Try.prog w = .ok (.pointer (some ⟨b, o + off, none⟩)) w := by
  unfold fldT111 at h
  split at h <;> (try cases h)
  · exact fld_111_0
  · exact fld_111_1

theorem fldr_116 {k off : Nat} (h : fldT116 k = some off) : ∀ b o w, (Instr.fieldAt 116 (.pointer (some ⟨b, o, none⟩)) k).run Try.prog w = .ok (.pointer (some ⟨b, o + off, none⟩)) w := by
  unfold fldT116 at h
  split at h <;> (try cases h)
  · exact fld_116_0
  · exact fld_116_1
  · exact fld_116_2
  · exact fld_116_3
  · exact fld_116_4
  · exact fld_116_5

theorem fldr_128 {k off : Nat} (h : fldT128 k = some off) : ∀ b o w, (Instr.fieldAt 128 (.pointer (some ⟨b, o, none⟩)) k).run Try.prog w = .ok (.pointer (some ⟨b, o + off, none⟩)) w := by
  unfold fldT128 at h
  split at h <;> (try cases h)
  · exact fld_128_0
  · exact fld_128_1
  · exact fld_128_2
  · exact fld_128_3

theorem fldr_140 {k off : Nat} (h : fldT140 k = some off) : ∀ b o w, (Instr.fieldAt 140 (.pointer (some ⟨b, o, none⟩)) k).run Try.prog w = .ok (.pointer (some ⟨b, o + off, none⟩)) w := by
  unfold fldT140 at h
  split at h <;> (try cases h)
  · exact fld_140_0
  · exact fld_140_1

theorem fldr_146 {k off : Nat} (h : fldT146 k = some off) : ∀ b o w, (Instr.fieldAt 146 (.pointer (some ⟨b, o, none⟩)) k).run Try.prog w = .ok (.pointer (some ⟨b, o + off, none⟩)) w := by
  unfold fldT146 at h
  split at h <;> (try cases h)
  · exact fld_146_0
  · exact fld_146_1

theorem fldr_159 {k off : Nat} (h : fldT159 k = some off) : ∀ b o w, (Instr.fieldAt 159 (.pointer (some ⟨b, o, none⟩)) k).run Try.prog w = .ok (.pointer (some ⟨b, o + off, none⟩)) w := by
  unfold fldT159 at h
  split at h <;> (try cases h)
  · exact fld_159_0
  · exact fld_159_1

theorem fldr_170 {k off : Nat} (h : fldT170 k = some off) : ∀ b o w, (Instr.fieldAt 170 (.pointer (some ⟨b, o, none⟩)) k).run Try.prog w = .ok (.pointer (some ⟨b, o + off, none⟩)) w := by
  unfold fldT170 at h
  split at h <;> (try cases h)
  · exact fld_170_0
  · exact fld_170_1
  · exact fld_170_2

theorem fldr_172 {k off : Nat} (h : fldT172 k = some off) : ∀ b o w, (Instr.fieldAt 172 (.pointer (some ⟨b, o, none⟩)) k).run Try.prog w = .ok (.pointer (some ⟨b, o + off, none⟩)) w := by
  unfold fldT172 at h
  split at h <;> (try cases h)
  · exact fld_172_0
  · exact fld_172_1

theorem fldr_176 {k off : Nat} (h : fldT176 k = some off) : ∀ b o w, (Instr.fieldAt 176 (.pointer (some ⟨b, o, none⟩)) k).run Try.prog w = .ok (.pointer (some ⟨b, o + off, none⟩)) w := by
  unfold fldT176 at h
  split at h <;> (try cases h)
  · exact fld_176_0
  · exact fld_176_1
  · exact fld_176_2

theorem fldr_178 {k off : Nat} (h : fldT178 k = some off) : ∀ b o w, (Instr.fieldAt 178 (.pointer (some ⟨b, o, none⟩)) k).run Try.prog w = .ok (.pointer (some ⟨b, o + off, none⟩)) w := by
  unfold fldT178 at h
  split at h <;> (try cases h)
  · exact fld_178_0
  · exact fld_178_1

theorem fldr_182 {k off : Nat} (h : fldT182 k = some off) : ∀ b o w, (Instr.fieldAt 182 (.pointer (some ⟨b, o, none⟩)) k).run Try.prog w = .ok (.pointer (some ⟨b, o + off, none⟩)) w := by
  unfold fldT182 at h
  split at h <;> (try cases h)
  · exact fld_182_0
  · exact fld_182_1
  · exact fld_182_2
  · exact fld_182_3

theorem fldr_194 {k off : Nat} (h : fldT194 k = some off) : ∀ b o w, (Instr.fieldAt 194 (.pointer (some ⟨b, o, none⟩)) k).run Try.prog w = .ok (.pointer (some ⟨b, o + off, none⟩)) w := by
  unfold fldT194 at h
  split at h <;> (try cases h)
  · exact fld_194_0
  · exact fld_194_1
  · exact fld_194_2
  · exact fld_194_3
  · exact fld_194_4
  · exact fld_194_5
  · exact fld_194_6
  · exact fld_194_7
  · exact fld_194_8
  · exact fld_194_9
  · exact fld_194_10

set_option maxHeartbeats 2000000 in
theorem fld_run {s k off : Nat} (h : fldT s k = some off) : ∀ b o w, (Instr.fieldAt s (.pointer (some ⟨b, o, none⟩)) k).run Try.prog w = .ok (.pointer (some ⟨b, o + off, none⟩)) w := by
  unfold fldT at h
  split at h
  · exact fldr_24 h
  · exact fldr_28 h
  · exact fldr_33 h
  · exact fldr_40 h
  · exact fldr_42 h
  · exact fldr_44 h
  · exact fldr_48 h
  · exact fldr_52 h
  · exact fldr_60 h
  · exact fldr_71 h
  · exact fldr_76 h
  · exact fldr_87 h
  · exact fldr_96 h
  · exact fldr_106 h
  · exact fldr_111 h
  · exact fldr_116 h
  · exact fldr_128 h
  · exact fldr_140 h
  · exact fldr_146 h
  · exact fldr_159 h
  · exact fldr_170 h
  · exact fldr_172 h
  · exact fldr_176 h
  · exact fldr_178 h
  · exact fldr_182 h
  · exact fldr_194 h
  · cases h

theorem sl_22 : SlFact Try.prog 22 44 3 24 [.int .i64 0, .int .i64 0, .int .i64 0] := SlFact.mk' (z := .agg #[.int .i64 0, .int .i64 0, .int .i64 0]) Try.underlying22 (by kernel_rfl) rfl rfl (by decide)
theorem sl_25 : SlFact Try.prog 25 42 4 32 [.int .i64 0, .int .i64 0, .int .i64 0, .int .i64 0] := SlFact.mk' (z := .agg #[.int .i64 0, .int .i64 0, .int .i64 0, .int .i64 0]) Try.underlying25 (by kernel_rfl) rfl rfl (by decide)
theorem sl_26 : SlFact Try.prog 26 48 2 16 [.int .i64 0, .int .i64 0] := SlFact.mk' (z := .agg #[.int .i64 0, .int .i64 0]) Try.underlying26 (by kernel_rfl) rfl rfl (by decide)
theorem sl_31 : SlFact Try.prog 31 3 1 8 [.int .i64 0] := SlFact.mk' (z := .int .i64 0) Try.underlying31 (by kernel_rfl) rfl rfl (by decide)
theorem sl_50 : SlFact Try.prog 50 87 2 32 [.int .i64 0, .slice none 0 0] := SlFact.mk' (z := .agg #[.int .i64 0, .slice none 0 0]) Try.underlying50 (by kernel_rfl) rfl rfl (by decide)
theorem sl_58 : SlFact Try.prog 58 31 1 24 [.slice none 0 0] := SlFact.mk' (z := .slice none 0 0) Try.underlying58 (by kernel_rfl) rfl rfl (by decide)
theorem sl_74 : SlFact Try.prog 74 96 4 32 [.int .i64 0, .int .i64 0, .int .i64 0, .int .i64 0] := SlFact.mk' (z := .agg #[.int .i64 0, .int .i64 0, .int .i64 0, .int .i64 0]) Try.underlying74 (by kernel_rfl) rfl rfl (by decide)
theorem sl_102 : SlFact Try.prog 102 128 4 32 [.int .i64 0, .int .i64 0, .int .i64 0, .int .i64 0] := SlFact.mk' (z := .agg #[.int .i64 0, .int .i64 0, .int .i64 0, .int .i64 0]) Try.underlying102 (by kernel_rfl) rfl rfl (by decide)
theorem sl_112 : SlFact Try.prog 112 116 6 40 [.int .i64 0, .int .i64 0, .int .i64 0, .bool false, .bool false, .int .i64 0] := SlFact.mk' (z := .agg #[.int .i64 0, .int .i64 0, .int .i64 0, .bool false, .bool false, .int .i64 0]) Try.underlying112 (by kernel_rfl) rfl rfl (by decide)
theorem sl_134 : SlFact Try.prog 134 140 2 16 [.int .i64 0, .int .i64 0] := SlFact.mk' (z := .agg #[.int .i64 0, .int .i64 0]) Try.underlying134 (by kernel_rfl) rfl rfl (by decide)
theorem sl_135 : SlFact Try.prog 135 4 1 1 [.bool false] := SlFact.mk' (z := .bool false) Try.underlying135 (by kernel_rfl) rfl rfl (by decide)
theorem sl_168 : SlFact Try.prog 168 172 3 24 [.int .i64 0, .int .i64 0, .int .i64 0] := SlFact.mk' (z := .agg #[.int .i64 0, .int .i64 0, .int .i64 0]) Try.underlying168 (by kernel_rfl) rfl rfl (by decide)
theorem sl_174 : SlFact Try.prog 174 178 4 32 [.int .i64 0, .int .i64 0, .int .i64 0, .int .i64 0] := SlFact.mk' (z := .agg #[.int .i64 0, .int .i64 0, .int .i64 0, .int .i64 0]) Try.underlying174 (by kernel_rfl) rfl rfl (by decide)
def slT : Nat → Option (Nat × Nat × Nat × List Value)
  | 22 => some (44, 3, 24, [.int .i64 0, .int .i64 0, .int .i64 0])
  | 25 => some (42, 4, 32, [.int .i64 0, .int .i64 0, .int .i64 0, .int .i64 0])
  | 26 => some (48, 2, 16, [.int .i64 0, .int .i64 0])
  | 31 => some (3, 1, 8, [.int .i64 0])
  | 50 => some (87, 2, 32, [.int .i64 0, .slice none 0 0])
  | 58 => some (31, 1, 24, [.slice none 0 0])
  | 74 => some (96, 4, 32, [.int .i64 0, .int .i64 0, .int .i64 0, .int .i64 0])
  | 102 => some (128, 4, 32, [.int .i64 0, .int .i64 0, .int .i64 0, .int .i64 0])
  | 112 => some (116, 6, 40, [.int .i64 0, .int .i64 0, .int .i64 0, .bool false, .bool false, .int .i64 0])
  | 134 => some (140, 2, 16, [.int .i64 0, .int .i64 0])
  | 135 => some (4, 1, 1, [.bool false])
  | 168 => some (172, 3, 24, [.int .i64 0, .int .i64 0, .int .i64 0])
  | 174 => some (178, 4, 32, [.int .i64 0, .int .i64 0, .int .i64 0, .int .i64 0])
  | _ => none

theorem sl_run {t el sz bt : Nat} {zs : List Value} (h : slT t = some (el, sz, bt, zs)) : SlFact Try.prog t el sz bt zs := by
  unfold slT at h
  split at h <;> (try cases h)
  · exact sl_22
  · exact sl_25
  · exact sl_26
  · exact sl_31
  · exact sl_50
  · exact sl_58
  · exact sl_74
  · exact sl_102
  · exact sl_112
  · exact sl_134
  · exact sl_135
  · exact sl_168
  · exact sl_174

set_option maxHeartbeats 1000000 in
theorem bld_24_0 {e : Env} {x0 : Operand} {n0 : Int} (h0 : ev e x0 = .int .i64 n0) : ∀ w, (Instr.build 24 #[(0, ev e x0)]).run Try.prog w = .ok (.agg #[.int .i64 n0, .slice none 0 0]) w := by
  intro w
  rw [h0]
  simp [Instr.build, go_sem]

set_option maxHeartbeats 1000000 in
theorem bld_24_0_1 {e : Env} {x0 x1 : Operand} {n0 : Int} {A1 : Option Addr} {l1 c1 : Nat} (h0 : ev e x0 = .int .i64 n0) (h1 : ev e x1 = .slice A1 l1 c1) : ∀ w, (Instr.build 24 #[(0, ev e x0), (1, ev e x1)]).run Try.prog w = .ok (.agg #[.int .i64 n0, .slice A1 l1 c1]) w := by
  intro w
  rw [h0, h1]
  simp [Instr.build, go_sem]

set_option maxHeartbeats 1000000 in
theorem bld_28_0_1_2 {e : Env} {x0 x1 x2 : Operand} {v0_0 v0_1 : Value} {A1 : Option Addr} {l1 c1 : Nat} {A2 : Option Addr} {l2 c2 : Nat} (h0 : ev e x0 = .agg #[v0_0, v0_1]) (h1 : ev e x1 = .slice A1 l1 c1) (h2 : ev e x2 = .slice A2 l2 c2) : ∀ w, (Instr.build 28 #[(0, ev e x0), (1, ev e x1), (2, ev e x2)]).run Try.prog w = .ok (.agg #[v0_0, v0_1, .slice A1 l1 c1, .slice A2 l2 c2, .int .i64 0]) w := by
  intro w
  rw [h0, h1, h2]
  simp [Instr.build, go_sem]

set_option maxHeartbeats 1000000 in
theorem bld_33_ {e : Env}   : ∀ w, (Instr.build 33 #[]).run Try.prog w = .ok (.agg #[.int .i64 0, .int .i64 0, .slice none 0 0, .slice none 0 0]) w := by
  intro w
  simp [Instr.build, go_sem]

set_option maxHeartbeats 1000000 in
theorem bld_33_0_1 {e : Env} {x0 x1 : Operand} {n0 : Int} {n1 : Int} (h0 : ev e x0 = .int .i64 n0) (h1 : ev e x1 = .int .i64 n1) : ∀ w, (Instr.build 33 #[(0, ev e x0), (1, ev e x1)]).run Try.prog w = .ok (.agg #[.int .i64 n0, .int .i64 n1, .slice none 0 0, .slice none 0 0]) w := by
  intro w
  rw [h0, h1]
  simp [Instr.build, go_sem]

set_option maxHeartbeats 1000000 in
theorem bld_33_0_1_2_3 {e : Env} {x0 x1 x2 x3 : Operand} {n0 : Int} {n1 : Int} {A2 : Option Addr} {l2 c2 : Nat} {A3 : Option Addr} {l3 c3 : Nat} (h0 : ev e x0 = .int .i64 n0) (h1 : ev e x1 = .int .i64 n1) (h2 : ev e x2 = .slice A2 l2 c2) (h3 : ev e x3 = .slice A3 l3 c3) : ∀ w, (Instr.build 33 #[(0, ev e x0), (1, ev e x1), (2, ev e x2), (3, ev e x3)]).run Try.prog w = .ok (.agg #[.int .i64 n0, .int .i64 n1, .slice A2 l2 c2, .slice A3 l3 c3]) w := by
  intro w
  rw [h0, h1, h2, h3]
  simp [Instr.build, go_sem]

set_option maxHeartbeats 1000000 in
theorem bld_33_1_0 {e : Env} {x0 x1 : Operand} {n0 : Int} {n1 : Int} (h0 : ev e x0 = .int .i64 n0) (h1 : ev e x1 = .int .i64 n1) : ∀ w, (Instr.build 33 #[(1, ev e x0), (0, ev e x1)]).run Try.prog w = .ok (.agg #[.int .i64 n1, .int .i64 n0, .slice none 0 0, .slice none 0 0]) w := by
  intro w
  rw [h0, h1]
  simp [Instr.build, go_sem]

set_option maxHeartbeats 1000000 in
theorem bld_40_1 {e : Env} {x0 : Operand} {n0 : Int} (h0 : ev e x0 = .int .i64 n0) : ∀ w, (Instr.build 40 #[(1, ev e x0)]).run Try.prog w = .ok (.agg #[.int .i64 0, .int .i64 n0]) w := by
  intro w
  rw [h0]
  simp [Instr.build, go_sem]

set_option maxHeartbeats 1000000 in
theorem bld_42_1_2 {e : Env} {x0 x1 : Operand} {n0 : Int} {v1_0 v1_1 : Value} (h0 : ev e x0 = .int .i64 n0) (h1 : ev e x1 = .agg #[v1_0, v1_1]) : ∀ w, (Instr.build 42 #[(1, ev e x0), (2, ev e x1)]).run Try.prog w = .ok (.agg #[.int .i64 0, .int .i64 n0, v1_0, v1_1]) w := by
  intro w
  rw [h0, h1]
  simp [Instr.build, go_sem]

set_option maxHeartbeats 1000000 in
theorem bld_44_0_1_2 {e : Env} {x0 x1 x2 : Operand} {n0 : Int} {n1 : Int} {n2 : Int} (h0 : ev e x0 = .int .i64 n0) (h1 : ev e x1 = .int .i64 n1) (h2 : ev e x2 = .int .i64 n2) : ∀ w, (Instr.build 44 #[(0, ev e x0), (1, ev e x1), (2, ev e x2)]).run Try.prog w = .ok (.agg #[.int .i64 n0, .int .i64 n1, .int .i64 n2]) w := by
  intro w
  rw [h0, h1, h2]
  simp [Instr.build, go_sem]

set_option maxHeartbeats 1000000 in
theorem bld_48_0_1 {e : Env} {x0 x1 : Operand} {n0 : Int} {n1 : Int} (h0 : ev e x0 = .int .i64 n0) (h1 : ev e x1 = .int .i64 n1) : ∀ w, (Instr.build 48 #[(0, ev e x0), (1, ev e x1)]).run Try.prog w = .ok (.agg #[.int .i64 n0, .int .i64 n1]) w := by
  intro w
  rw [h0, h1]
  simp [Instr.build, go_sem]

set_option maxHeartbeats 1000000 in
theorem bld_48_1 {e : Env} {x0 : Operand} {n0 : Int} (h0 : ev e x0 = .int .i64 n0) : ∀ w, (Instr.build 48 #[(1, ev e x0)]).run Try.prog w = .ok (.agg #[.int .i64 0, .int .i64 n0]) w := by
  intro w
  rw [h0]
  simp [Instr.build, go_sem]

set_option maxHeartbeats 1000000 in
theorem bld_60_ {e : Env}   : ∀ w, (Instr.build 60 #[]).run Try.prog w = .ok (.agg #[.slice none 0 0, .slice none 0 0, .slice none 0 0, .int .i64 0, .int .i64 0, .int .i64 0]) w := by
  intro w
  simp [Instr.build, go_sem]

set_option maxHeartbeats 1000000 in
theorem bld_71_ {e : Env}   : ∀ w, (Instr.build 71 #[]).run Try.prog w = .ok (.agg #[.int .i64 0, .int .i64 0, .slice none 0 0, .slice none 0 0]) w := by
  intro w
  simp [Instr.build, go_sem]

set_option maxHeartbeats 1000000 in
theorem bld_71_0_1_2_3 {e : Env} {x0 x1 x2 x3 : Operand} {n0 : Int} {n1 : Int} {A2 : Option Addr} {l2 c2 : Nat} {A3 : Option Addr} {l3 c3 : Nat} (h0 : ev e x0 = .int .i64 n0) (h1 : ev e x1 = .int .i64 n1) (h2 : ev e x2 = .slice A2 l2 c2) (h3 : ev e x3 = .slice A3 l3 c3) : ∀ w, (Instr.build 71 #[(0, ev e x0), (1, ev e x1), (2, ev e x2), (3, ev e x3)]).run Try.prog w = .ok (.agg #[.int .i64 n0, .int .i64 n1, .slice A2 l2 c2, .slice A3 l3 c3]) w := by
  intro w
  rw [h0, h1, h2, h3]
  simp [Instr.build, go_sem]

set_option maxHeartbeats 1000000 in
theorem bld_76_0 {e : Env} {x0 : Operand} {n0 : Int} (h0 : ev e x0 = .int .i64 n0) : ∀ w, (Instr.build 76 #[(0, ev e x0)]).run Try.prog w = .ok (.agg #[.int .i64 n0, .slice none 0 0]) w := by
  intro w
  rw [h0]
  simp [Instr.build, go_sem]

set_option maxHeartbeats 1000000 in
theorem bld_96_0_1_2 {e : Env} {x0 x1 x2 : Operand} {n0 : Int} {n1 : Int} {n2 : Int} (h0 : ev e x0 = .int .i64 n0) (h1 : ev e x1 = .int .i64 n1) (h2 : ev e x2 = .int .i64 n2) : ∀ w, (Instr.build 96 #[(0, ev e x0), (1, ev e x1), (2, ev e x2)]).run Try.prog w = .ok (.agg #[.int .i64 n0, .int .i64 n1, .int .i64 n2, .int .i64 0]) w := by
  intro w
  rw [h0, h1, h2]
  simp [Instr.build, go_sem]

set_option maxHeartbeats 1000000 in
theorem bld_96_0_1_2_3 {e : Env} {x0 x1 x2 x3 : Operand} {n0 : Int} {n1 : Int} {n2 : Int} {n3 : Int} (h0 : ev e x0 = .int .i64 n0) (h1 : ev e x1 = .int .i64 n1) (h2 : ev e x2 = .int .i64 n2) (h3 : ev e x3 = .int .i64 n3) : ∀ w, (Instr.build 96 #[(0, ev e x0), (1, ev e x1), (2, ev e x2), (3, ev e x3)]).run Try.prog w = .ok (.agg #[.int .i64 n0, .int .i64 n1, .int .i64 n2, .int .i64 n3]) w := by
  intro w
  rw [h0, h1, h2, h3]
  simp [Instr.build, go_sem]

set_option maxHeartbeats 1000000 in
theorem bld_106_0_1 {e : Env} {x0 x1 : Operand} {v0_0 v0_1 v0_2 v0_3 : Value} {v1_0 v1_1 v1_2 v1_3 v1_4 : Value} (h0 : ev e x0 = .agg #[v0_0, v0_1, v0_2, v0_3]) (h1 : ev e x1 = .agg #[v1_0, v1_1, v1_2, v1_3, v1_4]) : ∀ w, (Instr.build 106 #[(0, ev e x0), (1, ev e x1)]).run Try.prog w = .ok (.agg #[v0_0, v0_1, v0_2, v0_3, v1_0, v1_1, v1_2, v1_3, v1_4, .int .i64 0, .int .i64 0, .int .i64 0, .int .i64 0]) w := by
  intro w
  rw [h0, h1]
  simp [Instr.build, go_sem]

set_option maxHeartbeats 1000000 in
theorem bld_111_0_1 {e : Env} {x0 x1 : Operand} {v0_0 v0_1 : Value} {A1 : Option Addr} {l1 c1 : Nat} (h0 : ev e x0 = .agg #[v0_0, v0_1]) (h1 : ev e x1 = .slice A1 l1 c1) : ∀ w, (Instr.build 111 #[(0, ev e x0), (1, ev e x1)]).run Try.prog w = .ok (.agg #[v0_0, v0_1, .slice A1 l1 c1]) w := by
  intro w
  rw [h0, h1]
  simp [Instr.build, go_sem]

set_option maxHeartbeats 1000000 in
theorem bld_116_0_1_2_3_4 {e : Env} {x0 x1 x2 x3 x4 : Operand} {n0 : Int} {n1 : Int} {n2 : Int} {b3 : Bool} {b4 : Bool} (h0 : ev e x0 = .int .i64 n0) (h1 : ev e x1 = .int .i64 n1) (h2 : ev e x2 = .int .i64 n2) (h3 : ev e x3 = .bool b3) (h4 : ev e x4 = .bool b4) : ∀ w, (Instr.build 116 #[(0, ev e x0), (1, ev e x1), (2, ev e x2), (3, ev e x3), (4, ev e x4)]).run Try.prog w = .ok (.agg #[.int .i64 n0, .int .i64 n1, .int .i64 n2, .bool b3, .bool b4, .int .i64 0]) w := by
  intro w
  rw [h0, h1, h2, h3, h4]
  simp [Instr.build, go_sem]

set_option maxHeartbeats 1000000 in
theorem bld_116_0_1_2_3_4_5 {e : Env} {x0 x1 x2 x3 x4 x5 : Operand} {n0 : Int} {n1 : Int} {n2 : Int} {b3 : Bool} {b4 : Bool} {n5 : Int} (h0 : ev e x0 = .int .i64 n0) (h1 : ev e x1 = .int .i64 n1) (h2 : ev e x2 = .int .i64 n2) (h3 : ev e x3 = .bool b3) (h4 : ev e x4 = .bool b4) (h5 : ev e x5 = .int .i64 n5) : ∀ w, (Instr.build 116 #[(0, ev e x0), (1, ev e x1), (2, ev e x2), (3, ev e x3), (4, ev e x4), (5, ev e x5)]).run Try.prog w = .ok (.agg #[.int .i64 n0, .int .i64 n1, .int .i64 n2, .bool b3, .bool b4, .int .i64 n5]) w := by
  intro w
  rw [h0, h1, h2, h3, h4, h5]
  simp [Instr.build, go_sem]

set_option maxHeartbeats 1000000 in
theorem bld_116_0_1_4 {e : Env} {x0 x1 x2 : Operand} {n0 : Int} {n1 : Int} {b2 : Bool} (h0 : ev e x0 = .int .i64 n0) (h1 : ev e x1 = .int .i64 n1) (h2 : ev e x2 = .bool b2) : ∀ w, (Instr.build 116 #[(0, ev e x0), (1, ev e x1), (4, ev e x2)]).run Try.prog w = .ok (.agg #[.int .i64 n0, .int .i64 n1, .int .i64 0, .bool false, .bool b2, .int .i64 0]) w := by
  intro w
  rw [h0, h1, h2]
  simp [Instr.build, go_sem]

set_option maxHeartbeats 1000000 in
theorem bld_128_ {e : Env}   : ∀ w, (Instr.build 128 #[]).run Try.prog w = .ok (.agg #[.int .i64 0, .int .i64 0, .int .i64 0, .int .i64 0]) w := by
  intro w
  simp [Instr.build, go_sem]

set_option maxHeartbeats 1000000 in
theorem bld_128_0_1 {e : Env} {x0 x1 : Operand} {n0 : Int} {n1 : Int} (h0 : ev e x0 = .int .i64 n0) (h1 : ev e x1 = .int .i64 n1) : ∀ w, (Instr.build 128 #[(0, ev e x0), (1, ev e x1)]).run Try.prog w = .ok (.agg #[.int .i64 n0, .int .i64 n1, .int .i64 0, .int .i64 0]) w := by
  intro w
  rw [h0, h1]
  simp [Instr.build, go_sem]

set_option maxHeartbeats 1000000 in
theorem bld_140_0_1 {e : Env} {x0 x1 : Operand} {n0 : Int} {n1 : Int} (h0 : ev e x0 = .int .i64 n0) (h1 : ev e x1 = .int .i64 n1) : ∀ w, (Instr.build 140 #[(0, ev e x0), (1, ev e x1)]).run Try.prog w = .ok (.agg #[.int .i64 n0, .int .i64 n1]) w := by
  intro w
  rw [h0, h1]
  simp [Instr.build, go_sem]

set_option maxHeartbeats 1000000 in
theorem bld_146_0 {e : Env} {x0 : Operand} {n0 : Int} (h0 : ev e x0 = .int .i64 n0) : ∀ w, (Instr.build 146 #[(0, ev e x0)]).run Try.prog w = .ok (.agg #[.int .i64 n0, .int .i64 0]) w := by
  intro w
  rw [h0]
  simp [Instr.build, go_sem]

set_option maxHeartbeats 1000000 in
theorem bld_146_0_1 {e : Env} {x0 x1 : Operand} {n0 : Int} {n1 : Int} (h0 : ev e x0 = .int .i64 n0) (h1 : ev e x1 = .int .i64 n1) : ∀ w, (Instr.build 146 #[(0, ev e x0), (1, ev e x1)]).run Try.prog w = .ok (.agg #[.int .i64 n0, .int .i64 n1]) w := by
  intro w
  rw [h0, h1]
  simp [Instr.build, go_sem]

set_option maxHeartbeats 1000000 in
theorem bld_159_0 {e : Env} {x0 : Operand} {n0 : Int} (h0 : ev e x0 = .int .i64 n0) : ∀ w, (Instr.build 159 #[(0, ev e x0)]).run Try.prog w = .ok (.agg #[.int .i64 n0, .int .i64 0, .int .i64 0]) w := by
  intro w
  rw [h0]
  simp [Instr.build, go_sem]

set_option maxHeartbeats 1000000 in
theorem bld_159_0_1 {e : Env} {x0 x1 : Operand} {n0 : Int} {v1_0 v1_1 : Value} (h0 : ev e x0 = .int .i64 n0) (h1 : ev e x1 = .agg #[v1_0, v1_1]) : ∀ w, (Instr.build 159 #[(0, ev e x0), (1, ev e x1)]).run Try.prog w = .ok (.agg #[.int .i64 n0, v1_0, v1_1]) w := by
  intro w
  rw [h0, h1]
  simp [Instr.build, go_sem]

set_option maxHeartbeats 1000000 in
theorem bld_170_0 {e : Env} {x0 : Operand} {fn0 : Fn} {fa0 fb0 : Array Value} (h0 : ev e x0 = .func fn0 fa0 fb0) : ∀ w, (Instr.build 170 #[(0, ev e x0)]).run Try.prog w = .ok (.agg #[.func fn0 fa0 fb0, .slice none 0 0, .int .i64 0]) w := by
  intro w
  rw [h0]
  simp [Instr.build, go_sem]

set_option maxHeartbeats 1000000 in
theorem bld_172_0_1 {e : Env} {x0 x1 : Operand} {v0_0 v0_1 : Value} {n1 : Int} (h0 : ev e x0 = .agg #[v0_0, v0_1]) (h1 : ev e x1 = .int .i64 n1) : ∀ w, (Instr.build 172 #[(0, ev e x0), (1, ev e x1)]).run Try.prog w = .ok (.agg #[v0_0, v0_1, .int .i64 n1]) w := by
  intro w
  rw [h0, h1]
  simp [Instr.build, go_sem]

set_option maxHeartbeats 1000000 in
theorem bld_176_0 {e : Env} {x0 : Operand} {fn0 : Fn} {fa0 fb0 : Array Value} (h0 : ev e x0 = .func fn0 fa0 fb0) : ∀ w, (Instr.build 176 #[(0, ev e x0)]).run Try.prog w = .ok (.agg #[.func fn0 fa0 fb0, .slice none 0 0, .int .i64 0]) w := by
  intro w
  rw [h0]
  simp [Instr.build, go_sem]

set_option maxHeartbeats 1000000 in
theorem bld_178_0_1 {e : Env} {x0 x1 : Operand} {v0_0 v0_1 v0_2 : Value} {n1 : Int} (h0 : ev e x0 = .agg #[v0_0, v0_1, v0_2]) (h1 : ev e x1 = .int .i64 n1) : ∀ w, (Instr.build 178 #[(0, ev e x0), (1, ev e x1)]).run Try.prog w = .ok (.agg #[v0_0, v0_1, v0_2, .int .i64 n1]) w := by
  intro w
  rw [h0, h1]
  simp [Instr.build, go_sem]

set_option maxHeartbeats 1000000 in
theorem bsl_22_0_ {e : Env}   : ∀ w, (Instr.buildSlice 22 0 #[]).run Try.prog w = .ok (.slice (some ⟨w.heap.size, 0, none⟩) 0 0) (w.alloc (.cells ([] : List Value).toArray 44)) := by
  intro w
  simp [Instr.buildSlice, go_sem]

set_option maxHeartbeats 1000000 in
theorem bsl_22_1_0 {e : Env} {x0 : Operand} {v0_0 v0_1 v0_2 : Value} (h0 : ev e x0 = .agg #[v0_0, v0_1, v0_2]) : ∀ w, (Instr.buildSlice 22 1 #[(0, ev e x0)]).run Try.prog w = .ok (.slice (some ⟨w.heap.size, 0, none⟩) 1 1) (w.alloc (.cells ([v0_0, v0_1, v0_2] : List Value).toArray 44)) := by
  intro w
  rw [h0]
  simp [Instr.buildSlice, go_sem]

set_option maxHeartbeats 1000000 in
theorem bsl_22_3_0_1_2 {e : Env} {x0 x1 x2 : Operand} {v0_0 v0_1 v0_2 : Value} {v1_0 v1_1 v1_2 : Value} {v2_0 v2_1 v2_2 : Value} (h0 : ev e x0 = .agg #[v0_0, v0_1, v0_2]) (h1 : ev e x1 = .agg #[v1_0, v1_1, v1_2]) (h2 : ev e x2 = .agg #[v2_0, v2_1, v2_2]) : ∀ w, (Instr.buildSlice 22 3 #[(0, ev e x0), (1, ev e x1), (2, ev e x2)]).run Try.prog w = .ok (.slice (some ⟨w.heap.size, 0, none⟩) 3 3) (w.alloc (.cells ([v0_0, v0_1, v0_2, v1_0, v1_1, v1_2, v2_0, v2_1, v2_2] : List Value).toArray 44)) := by
  intro w
  rw [h0, h1, h2]
  simp [Instr.buildSlice, go_sem]

set_option maxHeartbeats 1000000 in
theorem bsl_25_0_ {e : Env}   : ∀ w, (Instr.buildSlice 25 0 #[]).run Try.prog w = .ok (.slice (some ⟨w.heap.size, 0, none⟩) 0 0) (w.alloc (.cells ([] : List Value).toArray 42)) := by
  intro w
  simp [Instr.buildSlice, go_sem]

set_option maxHeartbeats 1000000 in
theorem bsl_25_1_0 {e : Env} {x0 : Operand} {v0_0 v0_1 v0_2 v0_3 : Value} (h0 : ev e x0 = .agg #[v0_0, v0_1, v0_2, v0_3]) : ∀ w, (Instr.buildSlice 25 1 #[(0, ev e x0)]).run Try.prog w = .ok (.slice (some ⟨w.heap.size, 0, none⟩) 1 1) (w.alloc (.cells ([v0_0, v0_1, v0_2, v0_3] : List Value).toArray 42)) := by
  intro w
  rw [h0]
  simp [Instr.buildSlice, go_sem]

set_option maxHeartbeats 1000000 in
theorem bsl_26_0_ {e : Env}   : ∀ w, (Instr.buildSlice 26 0 #[]).run Try.prog w = .ok (.slice (some ⟨w.heap.size, 0, none⟩) 0 0) (w.alloc (.cells ([] : List Value).toArray 48)) := by
  intro w
  simp [Instr.buildSlice, go_sem]

set_option maxHeartbeats 1000000 in
theorem bsl_26_1_0 {e : Env} {x0 : Operand} {v0_0 v0_1 : Value} (h0 : ev e x0 = .agg #[v0_0, v0_1]) : ∀ w, (Instr.buildSlice 26 1 #[(0, ev e x0)]).run Try.prog w = .ok (.slice (some ⟨w.heap.size, 0, none⟩) 1 1) (w.alloc (.cells ([v0_0, v0_1] : List Value).toArray 48)) := by
  intro w
  rw [h0]
  simp [Instr.buildSlice, go_sem]

set_option maxHeartbeats 1000000 in
theorem bsl_26_2_0_1 {e : Env} {x0 x1 : Operand} {v0_0 v0_1 : Value} {v1_0 v1_1 : Value} (h0 : ev e x0 = .agg #[v0_0, v0_1]) (h1 : ev e x1 = .agg #[v1_0, v1_1]) : ∀ w, (Instr.buildSlice 26 2 #[(0, ev e x0), (1, ev e x1)]).run Try.prog w = .ok (.slice (some ⟨w.heap.size, 0, none⟩) 2 2) (w.alloc (.cells ([v0_0, v0_1, v1_0, v1_1] : List Value).toArray 48)) := by
  intro w
  rw [h0, h1]
  simp [Instr.buildSlice, go_sem]

set_option maxHeartbeats 1000000 in
theorem bsl_26_3_0_1_2 {e : Env} {x0 x1 x2 : Operand} {v0_0 v0_1 : Value} {v1_0 v1_1 : Value} {v2_0 v2_1 : Value} (h0 : ev e x0 = .agg #[v0_0, v0_1]) (h1 : ev e x1 = .agg #[v1_0, v1_1]) (h2 : ev e x2 = .agg #[v2_0, v2_1]) : ∀ w, (Instr.buildSlice 26 3 #[(0, ev e x0), (1, ev e x1), (2, ev e x2)]).run Try.prog w = .ok (.slice (some ⟨w.heap.size, 0, none⟩) 3 3) (w.alloc (.cells ([v0_0, v0_1, v1_0, v1_1, v2_0, v2_1] : List Value).toArray 48)) := by
  intro w
  rw [h0, h1, h2]
  simp [Instr.buildSlice, go_sem]

set_option maxHeartbeats 1000000 in
theorem bsl_31_1_0 {e : Env} {x0 : Operand} {n0 : Int} (h0 : ev e x0 = .int .i64 n0) : ∀ w, (Instr.buildSlice 31 1 #[(0, ev e x0)]).run Try.prog w = .ok (.slice (some ⟨w.heap.size, 0, none⟩) 1 1) (w.alloc (.cells ([.int .i64 n0] : List Value).toArray 3)) := by
  intro w
  rw [h0]
  simp [Instr.buildSlice, go_sem]

set_option maxHeartbeats 1000000 in
theorem bsl_31_2_0_1 {e : Env} {x0 x1 : Operand} {n0 : Int} {n1 : Int} (h0 : ev e x0 = .int .i64 n0) (h1 : ev e x1 = .int .i64 n1) : ∀ w, (Instr.buildSlice 31 2 #[(0, ev e x0), (1, ev e x1)]).run Try.prog w = .ok (.slice (some ⟨w.heap.size, 0, none⟩) 2 2) (w.alloc (.cells ([.int .i64 n0, .int .i64 n1] : List Value).toArray 3)) := by
  intro w
  rw [h0, h1]
  simp [Instr.buildSlice, go_sem]

set_option maxHeartbeats 1000000 in
theorem bsl_58_1_0 {e : Env} {x0 : Operand} {A0 : Option Addr} {l0 c0 : Nat} (h0 : ev e x0 = .slice A0 l0 c0) : ∀ w, (Instr.buildSlice 58 1 #[(0, ev e x0)]).run Try.prog w = .ok (.slice (some ⟨w.heap.size, 0, none⟩) 1 1) (w.alloc (.cells ([.slice A0 l0 c0] : List Value).toArray 31)) := by
  intro w
  rw [h0]
  simp [Instr.buildSlice, go_sem]

set_option maxHeartbeats 1000000 in
theorem bsl_74_1_0 {e : Env} {x0 : Operand} {v0_0 v0_1 v0_2 v0_3 : Value} (h0 : ev e x0 = .agg #[v0_0, v0_1, v0_2, v0_3]) : ∀ w, (Instr.buildSlice 74 1 #[(0, ev e x0)]).run Try.prog w = .ok (.slice (some ⟨w.heap.size, 0, none⟩) 1 1) (w.alloc (.cells ([v0_0, v0_1, v0_2, v0_3] : List Value).toArray 96)) := by
  intro w
  rw [h0]
  simp [Instr.buildSlice, go_sem]

set_option maxHeartbeats 1000000 in
theorem bsl_102_1_0 {e : Env} {x0 : Operand} {v0_0 v0_1 v0_2 v0_3 : Value} (h0 : ev e x0 = .agg #[v0_0, v0_1, v0_2, v0_3]) : ∀ w, (Instr.buildSlice 102 1 #[(0, ev e x0)]).run Try.prog w = .ok (.slice (some ⟨w.heap.size, 0, none⟩) 1 1) (w.alloc (.cells ([v0_0, v0_1, v0_2, v0_3] : List Value).toArray 128)) := by
  intro w
  rw [h0]
  simp [Instr.buildSlice, go_sem]

set_option maxHeartbeats 1000000 in
theorem bsl_168_1_0 {e : Env} {x0 : Operand} {v0_0 v0_1 v0_2 : Value} (h0 : ev e x0 = .agg #[v0_0, v0_1, v0_2]) : ∀ w, (Instr.buildSlice 168 1 #[(0, ev e x0)]).run Try.prog w = .ok (.slice (some ⟨w.heap.size, 0, none⟩) 1 1) (w.alloc (.cells ([v0_0, v0_1, v0_2] : List Value).toArray 172)) := by
  intro w
  rw [h0]
  simp [Instr.buildSlice, go_sem]

set_option maxHeartbeats 1000000 in
theorem bsl_174_1_0 {e : Env} {x0 : Operand} {v0_0 v0_1 v0_2 v0_3 : Value} (h0 : ev e x0 = .agg #[v0_0, v0_1, v0_2, v0_3]) : ∀ w, (Instr.buildSlice 174 1 #[(0, ev e x0)]).run Try.prog w = .ok (.slice (some ⟨w.heap.size, 0, none⟩) 1 1) (w.alloc (.cells ([v0_0, v0_1, v0_2, v0_3] : List Value).toArray 178)) := by
  intro w
  rw [h0]
  simp [Instr.buildSlice, go_sem]

def funT : Nat → Bool
  | 3 => true
  | 4 => true
  | 5 => true
  | 6 => true
  | 7 => true
  | 8 => true
  | 9 => true
  | 10 => true
  | 11 => true
  | 12 => true
  | 13 => true
  | 14 => true
  | 15 => true
  | 16 => true
  | 17 => true
  | 18 => true
  | 19 => true
  | 20 => true
  | 21 => true
  | 22 => true
  | 23 => true
  | 24 => true
  | 25 => true
  | 26 => true
  | 27 => true
  | 28 => true
  | 29 => true
  | 30 => true
  | 31 => true
  | 32 => true
  | 33 => true
  | 34 => true
  | 35 => true
  | 36 => true
  | 37 => true
  | 38 => true
  | 39 => true
  | 40 => true
  | 41 => true
  | 42 => true
  | 43 => true
  | 44 => true
  | 45 => true
  | 46 => true
  | 47 => true
  | 48 => true
  | 49 => true
  | 50 => true
  | 51 => true
  | 52 => true
  | 53 => true
  | 54 => true
  | 55 => true
  | 56 => true
  | 57 => true
  | 58 => true
  | 59 => true
  | 60 => true
  | 61 => true
  | 62 => true
  | 63 => true
  | 64 => true
  | 65 => true
  | 66 => true
  | 67 => true
  | 68 => true
  | 69 => true
  | 70 => true
  | 71 => true
  | 72 => true
  | 73 => true
  | 74 => true
  | 75 => true
  | 76 => true
  | 77 => true
  | 78 => true
  | 79 => true
  | 80 => true
  | 81 => true
  | 82 => true
  | 83 => true
  | 84 => true
  | 85 => true
  | 86 => true
  | 87 => true
  | 88 => true
  | 89 => true
  | 90 => true
  | 91 => true
  | 92 => true
  | 93 => true
  | 94 => true
  | 95 => true
  | 96 => true
  | 97 => true
  | 98 => true
  | 99 => true
  | 100 => true
  | 101 => true
  | 102 => true
  | 103 => true
  | 104 => true
  | 105 => true
  | _ => false

set_option maxHeartbeats 2000000 in
theorem fun_run {f : Nat} (h : funT f = true) : ∀ (args : Array Value) (w : World), (callFunc f args).run Try.prog w = .ok (.enter f args) w := by
  unfold funT at h
  split at h <;> (try cases h)
  · exact Try.call3
  · exact Try.call4
  · exact Try.call5
  · exact Try.call6
  · exact Try.call7
  · exact Try.call8
  · exact Try.call9
  · exact Try.call10
  · exact Try.call11
  · exact Try.call12
  · exact Try.call13
  · exact Try.call14
  · exact Try.call15
  · exact Try.call16
  · exact Try.call17
  · exact Try.call18
  · exact Try.call19
  · exact Try.call20
  · exact Try.call21
  · exact Try.call22
  · exact Try.call23
  · exact Try.call24
  · exact Try.call25
  · exact Try.call26
  · exact Try.call27
  · exact Try.call28
  · exact Try.call29
  · exact Try.call30
  · exact Try.call31
  · exact Try.call32
  · exact Try.call33
  · exact Try.call34
  · exact Try.call35
  · exact Try.call36
  · exact Try.call37
  · exact Try.call38
  · exact Try.call39
  · exact Try.call40
  · exact Try.call41
  · exact Try.call42
  · exact Try.call43
  · exact Try.call44
  · exact Try.call45
  · exact Try.call46
  · exact Try.call47
  · exact Try.call48
  · exact Try.call49
  · exact Try.call50
  · exact Try.call51
  · exact Try.call52
  · exact Try.call53
  · exact Try.call54
  · exact Try.call55
  · exact Try.call56
  · exact Try.call57
  · exact Try.call58
  · exact Try.call59
  · exact Try.call60
  · exact Try.call61
  · exact Try.call62
  · exact Try.call63
  · exact Try.call64
  · exact Try.call65
  · exact Try.call66
  · exact Try.call67
  · exact Try.call68
  · exact Try.call69
  · exact Try.call70
  · exact Try.call71
  · exact Try.call72
  · exact Try.call73
  · exact Try.call74
  · exact Try.call75
  · exact Try.call76
  · exact Try.call77
  · exact Try.call78
  · exact Try.call79
  · exact Try.call80
  · exact Try.call81
  · exact Try.call82
  · exact Try.call83
  · exact Try.call84
  · exact Try.call85
  · exact Try.call86
  · exact Try.call87
  · exact Try.call88
  · exact Try.call89
  · exact Try.call90
  · exact Try.call91
  · exact Try.call92
  · exact Try.call93
  · exact Try.call94
  · exact Try.call95
  · exact Try.call96
  · exact Try.call97
  · exact Try.call98
  · exact Try.call99
  · exact Try.call100
  · exact Try.call101
  · exact Try.call102
  · exact Try.call103
  · exact Try.call104
  · exact Try.call105

theorem mixed : Try.prog.follows .mixedOrders = true := by kernel_rfl

end Go.Proofs.Ytgjfjbphngamgaa
