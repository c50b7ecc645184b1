/-
  The types and functions of this seat, as the walk wants them (written by a program from the translation).
-/
import Derived.Test.YtfddebpeiilohaaProg
import Derived.Test.YtfddebpeiilohaaEng
import Derived.OrdersHeld
import Derived.Laws.CopyRow
set_option linter.all false
namespace Go.Proofs.Ytfddebpeiilohaa
open Go Go.W

def aggT : Nat → Option Bool
  | 2 => some false
  | 3 => some false
  | 4 => some false
  | 5 => some false
  | 6 => some false
  | 21 => some false
  | 22 => some false
  | 23 => some true
  | 24 => some true
  | 25 => some false
  | 26 => some false
  | 27 => some true
  | 28 => some true
  | 29 => some false
  | 30 => some true
  | 31 => some true
  | 32 => some false
  | 33 => some false
  | 34 => some true
  | 35 => some false
  | 37 => some false
  | 38 => some false
  | 40 => some false
  | 41 => some false
  | 42 => some false
  | 43 => some false
  | 44 => some false
  | 45 => some false
  | 46 => some false
  | 47 => some false
  | 48 => some true
  | 49 => some true
  | 50 => some false
  | 51 => some true
  | 52 => some true
  | 53 => some true
  | 54 => some true
  | 55 => some false
  | 56 => some true
  | 57 => some true
  | 58 => some false
  | 59 => some false
  | 60 => some false
  | 61 => some false
  | 62 => some false
  | 63 => some true
  | 64 => some true
  | 65 => some false
  | 66 => some false
  | 68 => some false
  | 69 => some true
  | 70 => some true
  | 71 => some true
  | 72 => some true
  | 73 => some false
  | 74 => some false
  | 75 => some false
  | 76 => some false
  | 77 => some false
  | 78 => some false
  | 79 => some false
  | 80 => some false
  | 81 => some false
  | 82 => some false
  | 84 => some false
  | 85 => some false
  | 87 => some false
  | 88 => some false
  | 89 => some false
  | 90 => some false
  | 91 => some false
  | 92 => some false
  | 93 => some false
  | 94 => some false
  | 95 => some false
  | 96 => some false
  | 97 => some false
  | 98 => some true
  | 99 => some true
  | 101 => some false
  | 102 => some false
  | 103 => some false
  | 104 => some false
  | 106 => some false
  | 107 => some false
  | 108 => some false
  | 109 => some false
  | 110 => some false
  | 111 => some false
  | 112 => some false
  | 113 => some false
  | 115 => some false
  | 116 => some false
  | 117 => some false
  | 118 => some false
  | 120 => some false
  | 121 => some false
  | 122 => some false
  | 123 => some false
  | 125 => some false
  | 126 => some false
  | 127 => some false
  | 128 => some false
  | 129 => some false
  | 130 => some false
  | 131 => some false
  | 132 => some false
  | 133 => some false
  | 134 => some false
  | 135 => some false
  | 136 => some false
  | 137 => some false
  | 138 => some false
  | 140 => some false
  | 141 => some false
  | 142 => some true
  | 143 => some true
  | 144 => some false
  | 146 => some false
  | 147 => some false
  | 148 => some false
  | 149 => some true
  | 150 => some true
  | 151 => some false
  | 152 => some false
  | 153 => some false
  | 155 => some false
  | 156 => some false
  | 157 => some true
  | 158 => some true
  | 159 => some true
  | 160 => some true
  | 161 => some false
  | 162 => some false
  | 163 => some false
  | 164 => some true
  | 165 => some true
  | 166 => some true
  | 167 => some true
  | 168 => some true
  | 169 => some false
  | 170 => some false
  | 171 => some false
  | 172 => some false
  | 173 => some false
  | 174 => some false
  | 175 => some true
  | 176 => some true
  | _ => none

set_option maxHeartbeats 2000000 in
theorem agg_run {t : Nat} {v : _} (h : aggT t = some v) : ∀ w, (isAgg t).run Try.prog w = .ok v w := by
  unfold aggT at h
  split at h <;> (try cases h)
  · exact Try.isAgg2
  · exact Try.isAgg3
  · exact Try.isAgg4
  · exact Try.isAgg5
  · exact Try.isAgg6
  · exact Try.isAgg21
  · exact Try.isAgg22
  · exact Try.isAgg23
  · exact Try.isAgg24
  · exact Try.isAgg25
  · exact Try.isAgg26
  · exact Try.isAgg27
  · exact Try.isAgg28
  · exact Try.isAgg29
  · exact Try.isAgg30
  · exact Try.isAgg31
  · exact Try.isAgg32
  · exact Try.isAgg33
  · exact Try.isAgg34
  · exact Try.isAgg35
  · exact Try.isAgg37
  · exact Try.isAgg38
  · exact Try.isAgg40
  · exact Try.isAgg41
  · exact Try.isAgg42
  · exact Try.isAgg43
  · exact Try.isAgg44
  · exact Try.isAgg45
  · exact Try.isAgg46
  · exact Try.isAgg47
  · exact Try.isAgg48
  · exact Try.isAgg49
  · exact Try.isAgg50
  · exact Try.isAgg51
  · exact Try.isAgg52
  · exact Try.isAgg53
  · exact Try.isAgg54
  · exact Try.isAgg55
  · exact Try.isAgg56
  · exact Try.isAgg57
  · exact Try.isAgg58
  · exact Try.isAgg59
  · exact Try.isAgg60
  · exact Try.isAgg61
  · exact Try.isAgg62
  · exact Try.isAgg63
  · exact Try.isAgg64
  · exact Try.isAgg65
  · exact Try.isAgg66
  · exact Try.isAgg68
  · exact Try.isAgg69
  · exact Try.isAgg70
  · exact Try.isAgg71
  · exact Try.isAgg72
  · exact Try.isAgg73
  · exact Try.isAgg74
  · exact Try.isAgg75
  · exact Try.isAgg76
  · exact Try.isAgg77
  · exact Try.isAgg78
  · exact Try.isAgg79
  · exact Try.isAgg80
  · exact Try.isAgg81
  · exact Try.isAgg82
  · exact Try.isAgg84
  · exact Try.isAgg85
  · exact Try.isAgg87
  · exact Try.isAgg88
  · exact Try.isAgg89
  · exact Try.isAgg90
  · exact Try.isAgg91
  · exact Try.isAgg92
  · exact Try.isAgg93
  · exact Try.isAgg94
  · exact Try.isAgg95
  · exact Try.isAgg96
  · exact Try.isAgg97
  · exact Try.isAgg98
  · exact Try.isAgg99
  · exact Try.isAgg101
  · exact Try.isAgg102
  · exact Try.isAgg103
  · exact Try.isAgg104
  · exact Try.isAgg106
  · exact Try.isAgg107
  · exact Try.isAgg108
  · exact Try.isAgg109
  · exact Try.isAgg110
  · exact Try.isAgg111
  · exact Try.isAgg112
  · exact Try.isAgg113
  · exact Try.isAgg115
  · exact Try.isAgg116
  · exact Try.isAgg117
  · exact Try.isAgg118
  · exact Try.isAgg120
  · exact Try.isAgg121
  · exact Try.isAgg122
  · exact Try.isAgg123
  · exact Try.isAgg125
  · exact Try.isAgg126
  · exact Try.isAgg127
  · exact Try.isAgg128
  · exact Try.isAgg129
  · exact Try.isAgg130
  · exact Try.isAgg131
  · exact Try.isAgg132
  · exact Try.isAgg133
  · exact Try.isAgg134
  · exact Try.isAgg135
  · exact Try.isAgg136
  · exact Try.isAgg137
  · exact Try.isAgg138
  · exact Try.isAgg140
  · exact Try.isAgg141
  · exact Try.isAgg142
  · exact Try.isAgg143
  · exact Try.isAgg144
  · exact Try.isAgg146
  · exact Try.isAgg147
  · exact Try.isAgg148
  · exact Try.isAgg149
  · exact Try.isAgg150
  · exact Try.isAgg151
  · exact Try.isAgg152
  · exact Try.isAgg153
  · exact Try.isAgg155
  · exact Try.isAgg156
  · exact Try.isAgg157
  · exact Try.isAgg158
  · exact Try.isAgg159
  · exact Try.isAgg160
  · exact Try.isAgg161
  · exact Try.isAgg162
  · exact Try.isAgg163
  · exact Try.isAgg164
  · exact Try.isAgg165
  · exact Try.isAgg166
  · exact Try.isAgg167
  · exact Try.isAgg168
  · exact Try.isAgg169
  · exact Try.isAgg170
  · exact Try.isAgg171
  · exact Try.isAgg172
  · exact Try.isAgg173
  · exact Try.isAgg174
  · exact Try.isAgg175
  · exact Try.isAgg176

def sizeT : Nat → Option Nat
  | 2 => some 1
  | 3 => some 1
  | 4 => some 1
  | 5 => some 1
  | 6 => some 1
  | 21 => some 1
  | 22 => some 1
  | 23 => some 2
  | 24 => some 2
  | 25 => some 1
  | 26 => some 1
  | 27 => some 5
  | 28 => some 5
  | 29 => some 1
  | 30 => some 2
  | 31 => some 2
  | 32 => some 1
  | 33 => some 1
  | 34 => some 2
  | 35 => some 1
  | 37 => some 1
  | 38 => some 1
  | 40 => some 1
  | 41 => some 1
  | 42 => some 1
  | 43 => some 1
  | 44 => some 1
  | 45 => some 1
  | 46 => some 1
  | 47 => some 1
  | 48 => some 4
  | 49 => some 4
  | 50 => some 1
  | 51 => some 2
  | 52 => some 2
  | 53 => some 4
  | 54 => some 4
  | 55 => some 1
  | 56 => some 17
  | 57 => some 17
  | 58 => some 1
  | 59 => some 1
  | 60 => some 1
  | 61 => some 1
  | 62 => some 1
  | 63 => some 2
  | 64 => some 2
  | 65 => some 1
  | 66 => some 1
  | 68 => some 1
  | 69 => some 13
  | 70 => some 13
  | 71 => some 3
  | 72 => some 3
  | 73 => some 1
  | 74 => some 1
  | 75 => some 1
  | 76 => some 1
  | 77 => some 1
  | 78 => some 1
  | 79 => some 1
  | 80 => some 1
  | 81 => some 1
  | 82 => some 1
  | 84 => some 1
  | 85 => some 1
  | 87 => some 1
  | 88 => some 1
  | 89 => some 1
  | 90 => some 1
  | 91 => some 1
  | 92 => some 1
  | 93 => some 1
  | 94 => some 1
  | 95 => some 1
  | 96 => some 1
  | 97 => some 1
  | 98 => some 4
  | 99 => some 4
  | 101 => some 1
  | 102 => some 1
  | 103 => some 1
  | 104 => some 1
  | 106 => some 1
  | 107 => some 1
  | 108 => some 1
  | 109 => some 1
  | 110 => some 1
  | 111 => some 1
  | 112 => some 1
  | 113 => some 1
  | 115 => some 1
  | 116 => some 1
  | 117 => some 1
  | 118 => some 1
  | 120 => some 1
  | 121 => some 1
  | 122 => some 1
  | 123 => some 1
  | 125 => some 1
  | 126 => some 1
  | 127 => some 1
  | 128 => some 1
  | 129 => some 1
  | 130 => some 1
  | 131 => some 1
  | 132 => some 1
  | 133 => some 1
  | 134 => some 1
  | 135 => some 1
  | 136 => some 1
  | 137 => some 1
  | 138 => some 1
  | 140 => some 1
  | 141 => some 1
  | 142 => some 2
  | 143 => some 2
  | 144 => some 1
  | 146 => some 1
  | 147 => some 1
  | 148 => some 1
  | 149 => some 3
  | 150 => some 3
  | 151 => some 1
  | 152 => some 1
  | 153 => some 1
  | 155 => some 1
  | 156 => some 1
  | 157 => some 3
  | 158 => some 3
  | 159 => some 4
  | 160 => some 4
  | 161 => some 1
  | 162 => some 1
  | 163 => some 1
  | 164 => some 4
  | 165 => some 4
  | 166 => some 0
  | 167 => some 0
  | 168 => some 0
  | 169 => some 1
  | 170 => some 1
  | 171 => some 1
  | 172 => some 1
  | 173 => some 1
  | 174 => some 1
  | 175 => some 11
  | 176 => some 11
  | _ => none

set_option maxHeartbeats 2000000 in
theorem size_run {t : Nat} {v : _} (h : sizeT t = some v) : ∀ w, (Go.sizeOf t).run Try.prog w = .ok v w := by
  unfold sizeT at h
  split at h <;> (try cases h)
  · exact Try.sizeOf2
  · exact Try.sizeOf3
  · exact Try.sizeOf4
  · exact Try.sizeOf5
  · exact Try.sizeOf6
  · exact Try.sizeOf21
  · exact Try.sizeOf22
  · exact Try.sizeOf23
  · exact Try.sizeOf24
  · exact Try.sizeOf25
  · exact Try.sizeOf26
  · exact Try.sizeOf27
  · exact Try.sizeOf28
  · exact Try.sizeOf29
  · exact Try.sizeOf30
  · exact Try.sizeOf31
  · exact Try.sizeOf32
  · exact Try.sizeOf33
  · exact Try.sizeOf34
  · exact Try.sizeOf35
  · exact Try.sizeOf37
  · exact Try.sizeOf38
  · exact Try.sizeOf40
  · exact Try.sizeOf41
  · exact Try.sizeOf42
  · exact Try.sizeOf43
  · exact Try.sizeOf44
  · exact Try.sizeOf45
  · exact Try.sizeOf46
  · exact Try.sizeOf47
  · exact Try.sizeOf48
  · exact Try.sizeOf49
  · exact Try.sizeOf50
  · exact Try.sizeOf51
  · exact Try.sizeOf52
  · exact Try.sizeOf53
  · exact Try.sizeOf54
  · exact Try.sizeOf55
  · exact Try.sizeOf56
  · exact Try.sizeOf57
  · exact Try.sizeOf58
  · exact Try.sizeOf59
  · exact Try.sizeOf60
  · exact Try.sizeOf61
  · exact Try.sizeOf62
  · exact Try.sizeOf63
  · exact Try.sizeOf64
  · exact Try.sizeOf65
  · exact Try.sizeOf66
  · exact Try.sizeOf68
  · exact Try.sizeOf69
  · exact Try.sizeOf70
  · exact Try.sizeOf71
  · exact Try.sizeOf72
  · exact Try.sizeOf73
  · exact Try.sizeOf74
  · exact Try.sizeOf75
  · exact Try.sizeOf76
  · exact Try.sizeOf77
  · exact Try.sizeOf78
  · exact Try.sizeOf79
  · exact Try.sizeOf80
  · exact Try.sizeOf81
  · exact Try.sizeOf82
  · exact Try.sizeOf84
  · exact Try.sizeOf85
  · exact Try.sizeOf87
  · exact Try.sizeOf88
  · exact Try.sizeOf89
  · exact Try.sizeOf90
  · exact Try.sizeOf91
  · exact Try.sizeOf92
  · exact Try.sizeOf93
  · exact Try.sizeOf94
  · exact Try.sizeOf95
  · exact Try.sizeOf96
  · exact Try.sizeOf97
  · exact Try.sizeOf98
  · exact Try.sizeOf99
  · exact Try.sizeOf101
  · exact Try.sizeOf102
  · exact Try.sizeOf103
  · exact Try.sizeOf104
  · exact Try.sizeOf106
  · exact Try.sizeOf107
  · exact Try.sizeOf108
  · exact Try.sizeOf109
  · exact Try.sizeOf110
  · exact Try.sizeOf111
  · exact Try.sizeOf112
  · exact Try.sizeOf113
  · exact Try.sizeOf115
  · exact Try.sizeOf116
  · exact Try.sizeOf117
  · exact Try.sizeOf118
  · exact Try.sizeOf120
  · exact Try.sizeOf121
  · exact Try.sizeOf122
  · exact Try.sizeOf123
  · exact Try.sizeOf125
  · exact Try.sizeOf126
  · exact Try.sizeOf127
  · exact Try.sizeOf128
  · exact Try.sizeOf129
  · exact Try.sizeOf130
  · exact Try.sizeOf131
  · exact Try.sizeOf132
  · exact Try.sizeOf133
  · exact Try.sizeOf134
  · exact Try.sizeOf135
  · exact Try.sizeOf136
  · exact Try.sizeOf137
  · exact Try.sizeOf138
  · exact Try.sizeOf140
  · exact Try.sizeOf141
  · exact Try.sizeOf142
  · exact Try.sizeOf143
  · exact Try.sizeOf144
  · exact Try.sizeOf146
  · exact Try.sizeOf147
  · exact Try.sizeOf148
  · exact Try.sizeOf149
  · exact Try.sizeOf150
  · exact Try.sizeOf151
  · exact Try.sizeOf152
  · exact Try.sizeOf153
  · exact Try.sizeOf155
  · exact Try.sizeOf156
  · exact Try.sizeOf157
  · exact Try.sizeOf158
  · exact Try.sizeOf159
  · exact Try.sizeOf160
  · exact Try.sizeOf161
  · exact Try.sizeOf162
  · exact Try.sizeOf163
  · exact Try.sizeOf164
  · exact Try.sizeOf165
  · exact Try.sizeOf166
  · exact Try.sizeOf167
  · exact Try.sizeOf168
  · exact Try.sizeOf169
  · exact Try.sizeOf170
  · exact Try.sizeOf171
  · exact Try.sizeOf172
  · exact Try.sizeOf173
  · exact Try.sizeOf174
  · exact Try.sizeOf175
  · exact Try.sizeOf176

def elT : Nat → Option Nat
  | 22 => some 72
  | 25 => some 54
  | 26 => some 64
  | 29 => some 3
  | 55 => some 29
  | 66 => some 99
  | 137 => some 143
  | 138 => some 4
  | 156 => some 160
  | _ => none

set_option maxHeartbeats 2000000 in
theorem el_run {t : Nat} {v : _} (h : elT t = some v) : ∀ w, (underlying t).run Try.prog w = .ok (.slice v) w := by
  unfold elT at h
  split at h <;> (try cases h)
  · exact Try.runUnderlying22
  · exact Try.runUnderlying25
  · exact Try.runUnderlying26
  · exact Try.runUnderlying29
  · exact Try.runUnderlying55
  · exact Try.runUnderlying66
  · exact Try.runUnderlying137
  · exact Try.runUnderlying138
  · exact Try.runUnderlying156

def ikT : Nat → Option IntKind
  | 2 => some .i64
  | 3 => some .i64
  | 5 => some .u8
  | 6 => some .u8
  | 21 => some .i32
  | 35 => some .i64
  | 113 => some .u64
  | 118 => some .i64
  | 127 => some .u32
  | 129 => some .u64
  | 131 => some .u64
  | 169 => some .u8
  | 170 => some .u8
  | 173 => some .i32
  | 174 => some .i32
  | _ => none

set_option maxHeartbeats 2000000 in
theorem ik_run {t : Nat} {v : _} (h : ikT t = some v) : ∀ w, (underlying t).run Try.prog w = .ok (.int v) w := by
  unfold ikT at h
  split at h <;> (try cases h)
  · exact Try.runUnderlying2
  · exact Try.runUnderlying3
  · exact Try.runUnderlying5
  · exact Try.runUnderlying6
  · exact Try.runUnderlying21
  · exact Try.runUnderlying35
  · exact Try.runUnderlying113
  · exact Try.runUnderlying118
  · exact Try.runUnderlying127
  · exact Try.runUnderlying129
  · exact Try.runUnderlying131
  · exact Try.runUnderlying169
  · exact Try.runUnderlying170
  · exact Try.runUnderlying173
  · exact Try.runUnderlying174

def arrT : Nat → Option (Nat × Nat)
  | 166 => some (0, 16)
  | _ => none

set_option maxHeartbeats 2000000 in
theorem arr_run {t : Nat} {v : _} (h : arrT t = some v) : ∀ w, (underlying t).run Try.prog w = .ok (.array v.1 v.2) w := by
  unfold arrT at h
  split at h <;> (try cases h)
  · exact Try.runUnderlying166

def zeroT : Nat → Option Value
  | 2 => some (.int .i64 0)
  | 3 => some (.int .i64 0)
  | 4 => some (.bool false)
  | 5 => some (.int .u8 0)
  | 6 => some (.int .u8 0)
  | 21 => some (.int .i32 0)
  | 22 => some (.slice none 0 0)
  | 23 => some (.agg #[.int .i64 0, .slice none 0 0])
  | 24 => some (.agg #[.int .i64 0, .slice none 0 0])
  | 25 => some (.slice none 0 0)
  | 26 => some (.slice none 0 0)
  | 27 => some (.agg #[.int .i64 0, .slice none 0 0, .slice none 0 0, .slice none 0 0, .int .i64 0])
  | 28 => some (.agg #[.int .i64 0, .slice none 0 0, .slice none 0 0, .slice none 0 0, .int .i64 0])
  | 29 => some (.slice none 0 0)
  | 30 => some (.agg #[.int .i64 0, .slice none 0 0])
  | 31 => some (.agg #[.int .i64 0, .slice none 0 0])
  | 32 => some (.nilFunc)
  | 33 => some (.nilFunc)
  | 34 => some (.agg #[.int .i64 0, .slice none 0 0])
  | 35 => some (.int .i64 0)
  | 37 => some (.nilFunc)
  | 38 => some (.nilFunc)
  | 40 => some (.nilFunc)
  | 41 => some (.nilFunc)
  | 42 => some (.nilFunc)
  | 43 => some (.nilFunc)
  | 44 => some (.nilFunc)
  | 45 => some (.nilFunc)
  | 46 => some (.nilFunc)
  | 47 => some (.nilFunc)
  | 48 => some (.agg #[.slice none 0 0, .int .i64 0, .int .i64 0, .bool false])
  | 49 => some (.agg #[.slice none 0 0, .int .i64 0, .int .i64 0, .bool false])
  | 50 => some (.nilFunc)
  | 51 => some (.agg #[.int .i64 0, .int .i64 0])
  | 52 => some (.agg #[.int .i64 0, .int .i64 0])
  | 53 => some (.agg #[.int .i64 0, .int .i64 0, .int .i64 0, .int .i64 0])
  | 54 => some (.agg #[.int .i64 0, .int .i64 0, .int .i64 0, .int .i64 0])
  | 55 => some (.slice none 0 0)
  | 56 => some (.agg #[.int .i64 0, .slice none 0 0, .slice none 0 0, .slice none 0 0, .int .i64 0, .int .i64 0, .int .i64 0, .int .i64 0, .int .i64 0, .slice none 0 0, .slice none 0 0, .bool false, .slice none 0 0, .bool false, .slice none 0 0, .int .i64 0, .int .i64 0])
  | 57 => some (.agg #[.int .i64 0, .slice none 0 0, .slice none 0 0, .slice none 0 0, .int .i64 0, .int .i64 0, .int .i64 0, .int .i64 0, .int .i64 0, .slice none 0 0, .slice none 0 0, .bool false, .slice none 0 0, .bool false, .slice none 0 0, .int .i64 0, .int .i64 0])
  | 58 => some (.nilFunc)
  | 59 => some (.nilFunc)
  | 60 => some (.nilFunc)
  | 61 => some (.nilFunc)
  | 62 => some (.nilFunc)
  | 63 => some (.agg #[.int .i64 0, .int .i64 0])
  | 64 => some (.agg #[.int .i64 0, .int .i64 0])
  | 65 => some (.pointer none)
  | 66 => some (.slice none 0 0)
  | 68 => some (.nilFunc)
  | 69 => some (.agg #[.int .i64 0, .int .i64 0, .int .i64 0, .int .i64 0, .int .i64 0, .slice none 0 0, .slice none 0 0, .slice none 0 0, .int .i64 0, .int .i64 0, .int .i64 0, .int .i64 0, .int .i64 0])
  | 70 => some (.agg #[.int .i64 0, .int .i64 0, .int .i64 0, .int .i64 0, .int .i64 0, .slice none 0 0, .slice none 0 0, .slice none 0 0, .int .i64 0, .int .i64 0, .int .i64 0, .int .i64 0, .int .i64 0])
  | 71 => some (.agg #[.int .i64 0, .int .i64 0, .int .i64 0])
  | 72 => some (.agg #[.int .i64 0, .int .i64 0, .int .i64 0])
  | 73 => some (.nilFunc)
  | 74 => some (.nilFunc)
  | 75 => some (.nilFunc)
  | 76 => some (.nilFunc)
  | 77 => some (.nilFunc)
  | 78 => some (.nilFunc)
  | 79 => some (.nilFunc)
  | 80 => some (.nilFunc)
  | 81 => some (.nilFunc)
  | 82 => some (.nilFunc)
  | 84 => some (.nilFunc)
  | 85 => some (.nilFunc)
  | 87 => some (.nilFunc)
  | 88 => some (.nilFunc)
  | 89 => some (.nilFunc)
  | 90 => some (.nilFunc)
  | 91 => some (.nilFunc)
  | 92 => some (.nilFunc)
  | 93 => some (.nilFunc)
  | 94 => some (.nilFunc)
  | 95 => some (.nilFunc)
  | 96 => some (.nilFunc)
  | 97 => some (.nilFunc)
  | 98 => some (.agg #[.int .i64 0, .int .i64 0, .int .i64 0, .int .i64 0])
  | 99 => some (.agg #[.int .i64 0, .int .i64 0, .int .i64 0, .int .i64 0])
  | 101 => some (.nilFunc)
  | 102 => some (.nilFunc)
  | 103 => some (.nilFunc)
  | 104 => some (.nilFunc)
  | 106 => some (.nilFunc)
  | 107 => some (.nilFunc)
  | 108 => some (.nilFunc)
  | 109 => some (.nilFunc)
  | 110 => some (.nilFunc)
  | 111 => some (.nilFunc)
  | 112 => some (.nilFunc)
  | 113 => some (.int .u64 0)
  | 115 => some (.nilFunc)
  | 116 => some (.nilFunc)
  | 117 => some (.nilFunc)
  | 118 => some (.int .i64 0)
  | 120 => some (.nilFunc)
  | 121 => some (.nilFunc)
  | 122 => some (.nilFunc)
  | 123 => some (.nilFunc)
  | 125 => some (.nilFunc)
  | 126 => some (.nilFunc)
  | 127 => some (.int .u32 0)
  | 128 => some (.nilFunc)
  | 129 => some (.int .u64 0)
  | 130 => some (.nilFunc)
  | 131 => some (.int .u64 0)
  | 132 => some (.nilFunc)
  | 133 => some (.nilFunc)
  | 134 => some (.nilFunc)
  | 135 => some (.pointer none)
  | 136 => some (.nilFunc)
  | 137 => some (.slice none 0 0)
  | 138 => some (.slice none 0 0)
  | 140 => some (.nilFunc)
  | 141 => some (.nilFunc)
  | 142 => some (.agg #[.int .i64 0, .int .i64 0])
  | 143 => some (.agg #[.int .i64 0, .int .i64 0])
  | 144 => some (.pointer none)
  | 146 => some (.nilFunc)
  | 147 => some (.pointer none)
  | 148 => some (.nilFunc)
  | 149 => some (.agg #[.int .i64 0, .int .i64 0, .int .i64 0])
  | 150 => some (.agg #[.int .i64 0, .int .i64 0, .int .i64 0])
  | 151 => some (.nilFunc)
  | 152 => some (.nilFunc)
  | 153 => some (.nilFunc)
  | 155 => some (.nilFunc)
  | 156 => some (.slice none 0 0)
  | 157 => some (.agg #[.nilFunc, .slice none 0 0, .int .i64 0])
  | 158 => some (.agg #[.nilFunc, .slice none 0 0, .int .i64 0])
  | 159 => some (.agg #[.int .i64 0, .int .i64 0, .int .i64 0, .int .i64 0])
  | 160 => some (.agg #[.int .i64 0, .int .i64 0, .int .i64 0, .int .i64 0])
  | 161 => some (.nilFunc)
  | 162 => some (.nilFunc)
  | 163 => some (.nilFunc)
  | 166 => some (.agg #[])
  | 167 => some (.agg #[])
  | 168 => some (.agg #[])
  | 169 => some (.int .u8 0)
  | 170 => some (.int .u8 0)
  | 171 => some (.nilFunc)
  | 172 => some (.pointer none)
  | 173 => some (.int .i32 0)
  | 174 => some (.int .i32 0)
  | 175 => some (.agg #[.int .u64 0, .int .u64 0, .int .u32 0, .int .u8 0, .int .u8 0, .int .u8 0, .int .u8 0, .nilFunc, .pointer none, .int .i32 0, .int .i32 0])
  | 176 => some (.agg #[.int .u64 0, .int .u64 0, .int .u32 0, .int .u8 0, .int .u8 0, .int .u8 0, .int .u8 0, .nilFunc, .pointer none, .int .i32 0, .int .i32 0])
  | _ => none

set_option maxHeartbeats 2000000 in
theorem zero_run {t : Nat} {v : _} (h : zeroT t = some v) : ∀ w, (zeroValue t).run Try.prog w = .ok v w := by
  unfold zeroT at h
  split at h <;> (try cases h)
  · exact Try.zeroValue2
  · exact Try.zeroValue3
  · exact Try.zeroValue4
  · exact Try.zeroValue5
  · exact Try.zeroValue6
  · exact Try.zeroValue21
  · exact Try.zeroValue22
  · exact Try.zeroValue23
  · exact Try.zeroValue24
  · exact Try.zeroValue25
  · exact Try.zeroValue26
  · exact Try.zeroValue27
  · exact Try.zeroValue28
  · exact Try.zeroValue29
  · exact Try.zeroValue30
  · exact Try.zeroValue31
  · exact Try.zeroValue32
  · exact Try.zeroValue33
  · exact Try.zeroValue34
  · exact Try.zeroValue35
  · exact Try.zeroValue37
  · exact Try.zeroValue38
  · exact Try.zeroValue40
  · exact Try.zeroValue41
  · exact Try.zeroValue42
  · exact Try.zeroValue43
  · exact Try.zeroValue44
  · exact Try.zeroValue45
  · exact Try.zeroValue46
  · exact Try.zeroValue47
  · exact Try.zeroValue48
  · exact Try.zeroValue49
  · exact Try.zeroValue50
  · exact Try.zeroValue51
  · exact Try.zeroValue52
  · exact Try.zeroValue53
  · exact Try.zeroValue54
  · exact Try.zeroValue55
  · exact Try.zeroValue56
  · exact Try.zeroValue57
  · exact Try.zeroValue58
  · exact Try.zeroValue59
  · exact Try.zeroValue60
  · exact Try.zeroValue61
  · exact Try.zeroValue62
  · exact Try.zeroValue63
  · exact Try.zeroValue64
  · exact Try.zeroValue65
  · exact Try.zeroValue66
  · exact Try.zeroValue68
  · exact Try.zeroValue69
  · exact Try.zeroValue70
  · exact Try.zeroValue71
  · exact Try.zeroValue72
  · exact Try.zeroValue73
  · exact Try.zeroValue74
  · exact Try.zeroValue75
  · exact Try.zeroValue76
  · exact Try.zeroValue77
  · exact Try.zeroValue78
  · exact Try.zeroValue79
  · exact Try.zeroValue80
  · exact Try.zeroValue81
  · exact Try.zeroValue82
  · exact Try.zeroValue84
  · exact Try.zeroValue85
  · exact Try.zeroValue87
  · exact Try.zeroValue88
  · exact Try.zeroValue89
  · exact Try.zeroValue90
  · exact Try.zeroValue91
  · exact Try.zeroValue92
  · exact Try.zeroValue93
  · exact Try.zeroValue94
  · exact Try.zeroValue95
  · exact Try.zeroValue96
  · exact Try.zeroValue97
  · exact Try.zeroValue98
  · exact Try.zeroValue99
  · exact Try.zeroValue101
  · exact Try.zeroValue102
  · exact Try.zeroValue103
  · exact Try.zeroValue104
  · exact Try.zeroValue106
  · exact Try.zeroValue107
  · exact Try.zeroValue108
  · exact Try.zeroValue109
  · exact Try.zeroValue110
  · exact Try.zeroValue111
  · exact Try.zeroValue112
  · exact Try.zeroValue113
  · exact Try.zeroValue115
  · exact Try.zeroValue116
  · exact Try.zeroValue117
  · exact Try.zeroValue118
  · exact Try.zeroValue120
  · exact Try.zeroValue121
  · exact Try.zeroValue122
  · exact Try.zeroValue123
  · exact Try.zeroValue125
  · exact Try.zeroValue126
  · exact Try.zeroValue127
  · exact Try.zeroValue128
  · exact Try.zeroValue129
  · exact Try.zeroValue130
  · exact Try.zeroValue131
  · exact Try.zeroValue132
  · exact Try.zeroValue133
  · exact Try.zeroValue134
  · exact Try.zeroValue135
  · exact Try.zeroValue136
  · exact Try.zeroValue137
  · exact Try.zeroValue138
  · exact Try.zeroValue140
  · exact Try.zeroValue141
  · exact Try.zeroValue142
  · exact Try.zeroValue143
  · exact Try.zeroValue144
  · exact Try.zeroValue146
  · exact Try.zeroValue147
  · exact Try.zeroValue148
  · exact Try.zeroValue149
  · exact Try.zeroValue150
  · exact Try.zeroValue151
  · exact Try.zeroValue152
  · exact Try.zeroValue153
  · exact Try.zeroValue155
  · exact Try.zeroValue156
  · exact Try.zeroValue157
  · exact Try.zeroValue158
  · exact Try.zeroValue159
  · exact Try.zeroValue160
  · exact Try.zeroValue161
  · exact Try.zeroValue162
  · exact Try.zeroValue163
  · exact Try.zeroValue166
  · exact Try.zeroValue167
  · exact Try.zeroValue168
  · exact Try.zeroValue169
  · exact Try.zeroValue170
  · exact Try.zeroValue171
  · exact Try.zeroValue172
  · exact Try.zeroValue173
  · exact Try.zeroValue174
  · exact Try.zeroValue175
  · exact Try.zeroValue176

def bytT : Nat → Option (Nat × Nat)
  | 2 => some (1, 8)
  | 3 => some (1, 8)
  | 4 => some (1, 1)
  | 5 => some (1, 1)
  | 6 => some (1, 1)
  | 21 => some (1, 4)
  | 22 => some (1, 24)
  | 23 => some (2, 32)
  | 24 => some (2, 32)
  | 25 => some (1, 24)
  | 26 => some (1, 24)
  | 27 => some (5, 88)
  | 28 => some (5, 88)
  | 29 => some (1, 24)
  | 30 => some (2, 32)
  | 31 => some (2, 32)
  | 32 => some (1, 8)
  | 33 => some (1, 8)
  | 34 => some (2, 32)
  | 35 => some (1, 8)
  | 37 => some (1, 8)
  | 38 => some (1, 8)
  | 40 => some (1, 8)
  | 41 => some (1, 8)
  | 42 => some (1, 8)
  | 43 => some (1, 8)
  | 44 => some (1, 8)
  | 45 => some (1, 8)
  | 46 => some (1, 8)
  | 47 => some (1, 8)
  | 48 => some (4, 48)
  | 49 => some (4, 48)
  | 50 => some (1, 8)
  | 51 => some (2, 16)
  | 52 => some (2, 16)
  | 53 => some (4, 32)
  | 54 => some (4, 32)
  | 55 => some (1, 24)
  | 56 => some (17, 248)
  | 57 => some (17, 248)
  | 58 => some (1, 8)
  | 59 => some (1, 8)
  | 60 => some (1, 8)
  | 61 => some (1, 8)
  | 62 => some (1, 8)
  | 63 => some (2, 16)
  | 64 => some (2, 16)
  | 65 => some (1, 8)
  | 66 => some (1, 24)
  | 68 => some (1, 8)
  | 69 => some (13, 152)
  | 70 => some (13, 152)
  | 71 => some (3, 24)
  | 72 => some (3, 24)
  | 73 => some (1, 8)
  | 74 => some (1, 8)
  | 75 => some (1, 8)
  | 76 => some (1, 8)
  | 77 => some (1, 8)
  | 78 => some (1, 8)
  | 79 => some (1, 8)
  | 80 => some (1, 8)
  | 81 => some (1, 8)
  | 82 => some (1, 8)
  | 84 => some (1, 8)
  | 85 => some (1, 8)
  | 87 => some (1, 8)
  | 88 => some (1, 8)
  | 89 => some (1, 8)
  | 90 => some (1, 8)
  | 91 => some (1, 8)
  | 92 => some (1, 8)
  | 93 => some (1, 8)
  | 94 => some (1, 8)
  | 95 => some (1, 8)
  | 96 => some (1, 8)
  | 97 => some (1, 8)
  | 98 => some (4, 32)
  | 99 => some (4, 32)
  | 101 => some (1, 8)
  | 102 => some (1, 8)
  | 103 => some (1, 8)
  | 104 => some (1, 8)
  | 106 => some (1, 8)
  | 107 => some (1, 8)
  | 108 => some (1, 8)
  | 109 => some (1, 8)
  | 110 => some (1, 8)
  | 111 => some (1, 8)
  | 112 => some (1, 8)
  | 113 => some (1, 8)
  | 115 => some (1, 8)
  | 116 => some (1, 8)
  | 117 => some (1, 8)
  | 118 => some (1, 8)
  | 120 => some (1, 8)
  | 121 => some (1, 8)
  | 122 => some (1, 8)
  | 123 => some (1, 8)
  | 125 => some (1, 8)
  | 126 => some (1, 8)
  | 127 => some (1, 4)
  | 128 => some (1, 8)
  | 129 => some (1, 8)
  | 130 => some (1, 8)
  | 131 => some (1, 8)
  | 132 => some (1, 8)
  | 133 => some (1, 8)
  | 134 => some (1, 8)
  | 135 => some (1, 8)
  | 136 => some (1, 8)
  | 137 => some (1, 24)
  | 138 => some (1, 24)
  | 140 => some (1, 8)
  | 141 => some (1, 8)
  | 142 => some (2, 16)
  | 143 => some (2, 16)
  | 144 => some (1, 8)
  | 146 => some (1, 8)
  | 147 => some (1, 8)
  | 148 => some (1, 8)
  | 149 => some (3, 24)
  | 150 => some (3, 24)
  | 151 => some (1, 8)
  | 152 => some (1, 8)
  | 153 => some (1, 8)
  | 155 => some (1, 8)
  | 156 => some (1, 24)
  | 157 => some (3, 40)
  | 158 => some (3, 40)
  | 159 => some (4, 32)
  | 160 => some (4, 32)
  | 161 => some (1, 8)
  | 162 => some (1, 8)
  | 163 => some (1, 8)
  | 164 => some (4, 40)
  | 165 => some (4, 40)
  | 166 => some (0, 0)
  | 167 => some (0, 0)
  | 168 => some (0, 0)
  | 169 => some (1, 1)
  | 170 => some (1, 1)
  | 171 => some (1, 8)
  | 172 => some (1, 8)
  | 173 => some (1, 4)
  | 174 => some (1, 4)
  | 175 => some (11, 48)
  | 176 => some (11, 48)
  | _ => none

set_option maxHeartbeats 2000000 in
theorem byt_run {t : Nat} {v : _} (h : bytT t = some v) : ∃ i, (∀ w, (typeInfo t).run Try.prog w = .ok i w) ∧ i.size = v.1 ∧ i.bytes = v.2 := by
  unfold bytT at h
  split at h <;> (try cases h)
  · exact ⟨_, Try.typeInfo2, rfl, rfl⟩
  · exact ⟨_, Try.typeInfo3, rfl, rfl⟩
  · exact ⟨_, Try.typeInfo4, rfl, rfl⟩
  · exact ⟨_, Try.typeInfo5, rfl, rfl⟩
  · exact ⟨_, Try.typeInfo6, rfl, rfl⟩
  · exact ⟨_, Try.typeInfo21, rfl, rfl⟩
  · exact ⟨_, Try.typeInfo22, rfl, rfl⟩
  · exact ⟨_, Try.typeInfo23, rfl, rfl⟩
  · exact ⟨_, Try.typeInfo24, rfl, rfl⟩
  · exact ⟨_, Try.typeInfo25, rfl, rfl⟩
  · exact ⟨_, Try.typeInfo26, rfl, rfl⟩
  · exact ⟨_, Try.typeInfo27, rfl, rfl⟩
  · exact ⟨_, Try.typeInfo28, rfl, rfl⟩
  · exact ⟨_, Try.typeInfo29, rfl, rfl⟩
  · exact ⟨_, Try.typeInfo30, rfl, rfl⟩
  · exact ⟨_, Try.typeInfo31, rfl, rfl⟩
  · exact ⟨_, Try.typeInfo32, rfl, rfl⟩
  · exact ⟨_, Try.typeInfo33, rfl, rfl⟩
  · exact ⟨_, Try.typeInfo34, rfl, rfl⟩
  · exact ⟨_, Try.typeInfo35, rfl, rfl⟩
  · exact ⟨_, Try.typeInfo37, rfl, rfl⟩
  · exact ⟨_, Try.typeInfo38, rfl, rfl⟩
  · exact ⟨_, Try.typeInfo40, rfl, rfl⟩
  · exact ⟨_, Try.typeInfo41, rfl, rfl⟩
  · exact ⟨_, Try.typeInfo42, rfl, rfl⟩
  · exact ⟨_, Try.typeInfo43, rfl, rfl⟩
  · exact ⟨_, Try.typeInfo44, rfl, rfl⟩
  · exact ⟨_, Try.typeInfo45, rfl, rfl⟩
  · exact ⟨_, Try.typeInfo46, rfl, rfl⟩
  · exact ⟨_, Try.typeInfo47, rfl, rfl⟩
  · exact ⟨_, Try.typeInfo48, rfl, rfl⟩
  · exact ⟨_, Try.typeInfo49, rfl, rfl⟩
  · exact ⟨_, Try.typeInfo50, rfl, rfl⟩
  · exact ⟨_, Try.typeInfo51, rfl, rfl⟩
  · exact ⟨_, Try.typeInfo52, rfl, rfl⟩
  · exact ⟨_, Try.typeInfo53, rfl, rfl⟩
  · exact ⟨_, Try.typeInfo54, rfl, rfl⟩
  · exact ⟨_, Try.typeInfo55, rfl, rfl⟩
  · exact ⟨_, Try.typeInfo56, rfl, rfl⟩
  · exact ⟨_, Try.typeInfo57, rfl, rfl⟩
  · exact ⟨_, Try.typeInfo58, rfl, rfl⟩
  · exact ⟨_, Try.typeInfo59, rfl, rfl⟩
  · exact ⟨_, Try.typeInfo60, rfl, rfl⟩
  · exact ⟨_, Try.typeInfo61, rfl, rfl⟩
  · exact ⟨_, Try.typeInfo62, rfl, rfl⟩
  · exact ⟨_, Try.typeInfo63, rfl, rfl⟩
  · exact ⟨_, Try.typeInfo64, rfl, rfl⟩
  · exact ⟨_, Try.typeInfo65, rfl, rfl⟩
  · exact ⟨_, Try.typeInfo66, rfl, rfl⟩
  · exact ⟨_, Try.typeInfo68, rfl, rfl⟩
  · exact ⟨_, Try.typeInfo69, rfl, rfl⟩
  · exact ⟨_, Try.typeInfo70, rfl, rfl⟩
  · exact ⟨_, Try.typeInfo71, rfl, rfl⟩
  · exact ⟨_, Try.typeInfo72, rfl, rfl⟩
  · exact ⟨_, Try.typeInfo73, rfl, rfl⟩
  · exact ⟨_, Try.typeInfo74, rfl, rfl⟩
  · exact ⟨_, Try.typeInfo75, rfl, rfl⟩
  · exact ⟨_, Try.typeInfo76, rfl, rfl⟩
  · exact ⟨_, Try.typeInfo77, rfl, rfl⟩
  · exact ⟨_, Try.typeInfo78, rfl, rfl⟩
  · exact ⟨_, Try.typeInfo79, rfl, rfl⟩
  · exact ⟨_, Try.typeInfo80, rfl, rfl⟩
  · exact ⟨_, Try.typeInfo81, rfl, rfl⟩
  · exact ⟨_, Try.typeInfo82, rfl, rfl⟩
  · exact ⟨_, Try.typeInfo84, rfl, rfl⟩
  · exact ⟨_, Try.typeInfo85, rfl, rfl⟩
  · exact ⟨_, Try.typeInfo87, rfl, rfl⟩
  · exact ⟨_, Try.typeInfo88, rfl, rfl⟩
  · exact ⟨_, Try.typeInfo89, rfl, rfl⟩
  · exact ⟨_, Try.typeInfo90, rfl, rfl⟩
  · exact ⟨_, Try.typeInfo91, rfl, rfl⟩
  · exact ⟨_, Try.typeInfo92, rfl, rfl⟩
  · exact ⟨_, Try.typeInfo93, rfl, rfl⟩
  · exact ⟨_, Try.typeInfo94, rfl, rfl⟩
  · exact ⟨_, Try.typeInfo95, rfl, rfl⟩
  · exact ⟨_, Try.typeInfo96, rfl, rfl⟩
  · exact ⟨_, Try.typeInfo97, rfl, rfl⟩
  · exact ⟨_, Try.typeInfo98, rfl, rfl⟩
  · exact ⟨_, Try.typeInfo99, rfl, rfl⟩
  · exact ⟨_, Try.typeInfo101, rfl, rfl⟩
  · exact ⟨_, Try.typeInfo102, rfl, rfl⟩
  · exact ⟨_, Try.typeInfo103, rfl, rfl⟩
  · exact ⟨_, Try.typeInfo104, rfl, rfl⟩
  · exact ⟨_, Try.typeInfo106, rfl, rfl⟩
  · exact ⟨_, Try.typeInfo107, rfl, rfl⟩
  · exact ⟨_, Try.typeInfo108, rfl, rfl⟩
  · exact ⟨_, Try.typeInfo109, rfl, rfl⟩
  · exact ⟨_, Try.typeInfo110, rfl, rfl⟩
  · exact ⟨_, Try.typeInfo111, rfl, rfl⟩
  · exact ⟨_, Try.typeInfo112, rfl, rfl⟩
  · exact ⟨_, Try.typeInfo113, rfl, rfl⟩
  · exact ⟨_, Try.typeInfo115, rfl, rfl⟩
  · exact ⟨_, Try.typeInfo116, rfl, rfl⟩
  · exact ⟨_, Try.typeInfo117, rfl, rfl⟩
  · exact ⟨_, Try.typeInfo118, rfl, rfl⟩
  · exact ⟨_, Try.typeInfo120, rfl, rfl⟩
  · exact ⟨_, Try.typeInfo121, rfl, rfl⟩
  · exact ⟨_, Try.typeInfo122, rfl, rfl⟩
  · exact ⟨_, Try.typeInfo123, rfl, rfl⟩
  · exact ⟨_, Try.typeInfo125, rfl, rfl⟩
  · exact ⟨_, Try.typeInfo126, rfl, rfl⟩
  · exact ⟨_, Try.typeInfo127, rfl, rfl⟩
  · exact ⟨_, Try.typeInfo128, rfl, rfl⟩
  · exact ⟨_, Try.typeInfo129, rfl, rfl⟩
  · exact ⟨_, Try.typeInfo130, rfl, rfl⟩
  · exact ⟨_, Try.typeInfo131, rfl, rfl⟩
  · exact ⟨_, Try.typeInfo132, rfl, rfl⟩
  · exact ⟨_, Try.typeInfo133, rfl, rfl⟩
  · exact ⟨_, Try.typeInfo134, rfl, rfl⟩
  · exact ⟨_, Try.typeInfo135, rfl, rfl⟩
  · exact ⟨_, Try.typeInfo136, rfl, rfl⟩
  · exact ⟨_, Try.typeInfo137, rfl, rfl⟩
  · exact ⟨_, Try.typeInfo138, rfl, rfl⟩
  · exact ⟨_, Try.typeInfo140, rfl, rfl⟩
  · exact ⟨_, Try.typeInfo141, rfl, rfl⟩
  · exact ⟨_, Try.typeInfo142, rfl, rfl⟩
  · exact ⟨_, Try.typeInfo143, rfl, rfl⟩
  · exact ⟨_, Try.typeInfo144, rfl, rfl⟩
  · exact ⟨_, Try.typeInfo146, rfl, rfl⟩
  · exact ⟨_, Try.typeInfo147, rfl, rfl⟩
  · exact ⟨_, Try.typeInfo148, rfl, rfl⟩
  · exact ⟨_, Try.typeInfo149, rfl, rfl⟩
  · exact ⟨_, Try.typeInfo150, rfl, rfl⟩
  · exact ⟨_, Try.typeInfo151, rfl, rfl⟩
  · exact ⟨_, Try.typeInfo152, rfl, rfl⟩
  · exact ⟨_, Try.typeInfo153, rfl, rfl⟩
  · exact ⟨_, Try.typeInfo155, rfl, rfl⟩
  · exact ⟨_, Try.typeInfo156, rfl, rfl⟩
  · exact ⟨_, Try.typeInfo157, rfl, rfl⟩
  · exact ⟨_, Try.typeInfo158, rfl, rfl⟩
  · exact ⟨_, Try.typeInfo159, rfl, rfl⟩
  · exact ⟨_, Try.typeInfo160, rfl, rfl⟩
  · exact ⟨_, Try.typeInfo161, rfl, rfl⟩
  · exact ⟨_, Try.typeInfo162, rfl, rfl⟩
  · exact ⟨_, Try.typeInfo163, rfl, rfl⟩
  · exact ⟨_, Try.typeInfo164, rfl, rfl⟩
  · exact ⟨_, Try.typeInfo165, rfl, rfl⟩
  · exact ⟨_, Try.typeInfo166, rfl, rfl⟩
  · exact ⟨_, Try.typeInfo167, rfl, rfl⟩
  · exact ⟨_, Try.typeInfo168, rfl, rfl⟩
  · exact ⟨_, Try.typeInfo169, rfl, rfl⟩
  · exact ⟨_, Try.typeInfo170, rfl, rfl⟩
  · exact ⟨_, Try.typeInfo171, rfl, rfl⟩
  · exact ⟨_, Try.typeInfo172, rfl, rfl⟩
  · exact ⟨_, Try.typeInfo173, rfl, rfl⟩
  · exact ⟨_, Try.typeInfo174, rfl, rfl⟩
  · exact ⟨_, Try.typeInfo175, rfl, rfl⟩
  · exact ⟨_, Try.typeInfo176, rfl, rfl⟩

def fldT24 : Nat → Option Nat
  | 0 => some 0
  | 1 => some 1
  | _ => none

def fldT28 : Nat → Option Nat
  | 0 => some 0
  | 1 => some 2
  | 2 => some 3
  | 3 => some 4
  | _ => none

def fldT31 : Nat → Option Nat
  | 0 => some 0
  | 1 => some 1
  | _ => none

def fldT34 : Nat → Option Nat
  | 0 => some 0
  | 1 => some 1
  | _ => none

def fldT49 : Nat → Option Nat
  | 0 => some 0
  | 1 => some 1
  | 2 => some 2
  | 3 => some 3
  | _ => none

def fldT52 : Nat → Option Nat
  | 0 => some 0
  | 1 => some 1
  | _ => none

def fldT54 : Nat → Option Nat
  | 0 => some 0
  | 1 => some 1
  | 2 => some 2
  | _ => none

def fldT57 : Nat → Option Nat
  | 0 => some 0
  | 1 => some 5
  | 2 => some 9
  | 3 => some 10
  | 4 => some 11
  | 5 => some 12
  | 6 => some 13
  | 7 => some 14
  | 8 => some 15
  | 9 => some 16
  | _ => none

def fldT64 : Nat → Option Nat
  | 0 => some 0
  | 1 => some 1
  | _ => none

def fldT70 : Nat → Option Nat
  | 0 => some 0
  | 1 => some 4
  | 2 => some 9
  | 3 => some 10
  | 4 => some 11
  | 5 => some 12
  | _ => none

def fldT72 : Nat → Option Nat
  | 0 => some 0
  | 1 => some 1
  | 2 => some 2
  | _ => none

def fldT99 : Nat → Option Nat
  | 0 => some 0
  | 1 => some 1
  | 2 => some 2
  | 3 => some 3
  | _ => none

def fldT143 : Nat → Option Nat
  | 0 => some 0
  | 1 => some 1
  | _ => none

def fldT150 : Nat → Option Nat
  | 0 => some 0
  | 1 => some 1
  | _ => none

def fldT158 : Nat → Option Nat
  | 0 => some 0
  | 1 => some 1
  | 2 => some 2
  | _ => none

def fldT160 : Nat → Option Nat
  | 0 => some 0
  | 1 => some 3
  | _ => none

def fldT165 : Nat → Option Nat
  | 0 => some 0
  | 1 => some 1
  | 2 => some 2
  | 3 => some 3
  | _ => none

def fldT176 : Nat → Option Nat
  | 0 => some 0
  | 1 => some 1
  | 2 => some 2
  | 3 => some 3
  | 4 => some 4
  | 5 => some 5
  | 6 => some 6
  | 7 => some 7
  | 8 => some 8
  | 9 => some 9
  | 10 => some 10
  | _ => none

def fldT : Nat → Nat → Option Nat
  | 24, j => fldT24 j
  | 28, j => fldT28 j
  | 31, j => fldT31 j
  | 34, j => fldT34 j
  | 49, j => fldT49 j
  | 52, j => fldT52 j
  | 54, j => fldT54 j
  | 57, j => fldT57 j
  | 64, j => fldT64 j
  | 70, j => fldT70 j
  | 72, j => fldT72 j
  | 99, j => fldT99 j
  | 143, j => fldT143 j
  | 150, j => fldT150 j
  | 158, j => fldT158 j
  | 160, j => fldT160 j
  | 165, j => fldT165 j
  | 176, j => fldT176 j
  | _, _ => none

theorem fld_24_0 : ∀ b o w, (Instr.fieldAt 24 (.pointer (some ⟨b, o, none⟩)) 0).run Try.prog w = .ok (.pointer (some ⟨b, o + 0, none⟩)) w := fieldAt_run Try.runUnderlying24 rfl Try.sizeOf3 rfl rfl
theorem fld_24_1 : ∀ b o w, (Instr.fieldAt 24 (.pointer (some ⟨b, o, none⟩)) 1).run Try.prog w = .ok (.pointer (some ⟨b, o + 1, none⟩)) w := fieldAt_run Try.runUnderlying24 rfl Try.sizeOf22 rfl rfl
theorem fld_28_0 : ∀ b o w, (Instr.fieldAt 28 (.pointer (some ⟨b, o, none⟩)) 0).run Try.prog w = .ok (.pointer (some ⟨b, o + 0, none⟩)) w := fieldAt_run Try.runUnderlying28 rfl Try.sizeOf24 rfl rfl
theorem fld_28_1 : ∀ b o w, (Instr.fieldAt 28 (.pointer (some ⟨b, o, none⟩)) 1).run Try.prog w = .ok (.pointer (some ⟨b, o + 2, none⟩)) w := fieldAt_run Try.runUnderlying28 rfl Try.sizeOf25 rfl rfl
theorem fld_28_2 : ∀ b o w, (Instr.fieldAt 28 (.pointer (some ⟨b, o, none⟩)) 2).run Try.prog w = .ok (.pointer (some ⟨b, o + 3, none⟩)) w := fieldAt_run Try.runUnderlying28 rfl Try.sizeOf26 rfl rfl
theorem fld_28_3 : ∀ b o w, (Instr.fieldAt 28 (.pointer (some ⟨b, o, none⟩)) 3).run Try.prog w = .ok (.pointer (some ⟨b, o + 4, none⟩)) w := fieldAt_run Try.runUnderlying28 rfl Try.sizeOf3 rfl rfl
theorem fld_31_0 : ∀ b o w, (Instr.fieldAt 31 (.pointer (some ⟨b, o, none⟩)) 0).run Try.prog w = .ok (.pointer (some ⟨b, o + 0, none⟩)) w := fieldAt_run Try.runUnderlying31 rfl Try.sizeOf3 rfl rfl
theorem fld_31_1 : ∀ b o w, (Instr.fieldAt 31 (.pointer (some ⟨b, o, none⟩)) 1).run Try.prog w = .ok (.pointer (some ⟨b, o + 1, none⟩)) w := fieldAt_run Try.runUnderlying31 rfl Try.sizeOf29 rfl rfl
theorem fld_34_0 : ∀ b o w, (Instr.fieldAt 34 (.pointer (some ⟨b, o, none⟩)) 0).run Try.prog w = .ok (.pointer (some ⟨b, o + 0, none⟩)) w := fieldAt_run Try.runUnderlying34 rfl Try.sizeOf3 rfl rfl
theorem fld_34_1 : ∀ b o w, (Instr.fieldAt 34 (.pointer (some ⟨b, o, none⟩)) 1).run Try.prog w = .ok (.pointer (some ⟨b, o + 1, none⟩)) w := fieldAt_run Try.runUnderlying34 rfl Try.sizeOf29 rfl rfl
theorem fld_49_0 : ∀ b o w, (Instr.fieldAt 49 (.pointer (some ⟨b, o, none⟩)) 0).run Try.prog w = .ok (.pointer (some ⟨b, o + 0, none⟩)) w := fieldAt_run Try.runUnderlying49 rfl Try.sizeOf29 rfl rfl
theorem fld_49_1 : ∀ b o w, (Instr.fieldAt 49 (.pointer (some ⟨b, o, none⟩)) 1).run Try.prog w = .ok (.pointer (some ⟨b, o + 1, none⟩)) w := fieldAt_run Try.runUnderlying49 rfl Try.sizeOf3 rfl rfl
theorem fld_49_2 : ∀ b o w, (Instr.fieldAt 49 (.pointer (some ⟨b, o, none⟩)) 2).run Try.prog w = .ok (.pointer (some ⟨b, o + 2, none⟩)) w := fieldAt_run Try.runUnderlying49 rfl Try.sizeOf3 rfl rfl
theorem fld_49_3 : ∀ b o w, (Instr.fieldAt 49 (.pointer (some ⟨b, o, none⟩)) 3).run Try.prog w = .ok (.pointer (some ⟨b, o + 3, none⟩)) w := fieldAt_run Try.runUnderlying49 rfl Try.sizeOf4 rfl rfl
theorem fld_52_0 : ∀ b o w, (Instr.fieldAt 52 (.pointer (some ⟨b, o, none⟩)) 0).run Try.prog w = .ok (.pointer (some ⟨b, o + 0, none⟩)) w := fieldAt_run Try.runUnderlying52 rfl Try.sizeOf3 rfl rfl
theorem fld_52_1 : ∀ b o w, (Instr.fieldAt 52 (.pointer (some ⟨b, o, none⟩)) 1).run Try.prog w = .ok (.pointer (some ⟨b, o + 1, none⟩)) w := fieldAt_run Try.runUnderlying52 rfl Try.sizeOf3 rfl rfl
theorem fld_54_0 : ∀ b o w, (Instr.fieldAt 54 (.pointer (some ⟨b, o, none⟩)) 0).run Try.prog w = .ok (.pointer (some ⟨b, o + 0, none⟩)) w := fieldAt_run Try.runUnderlying54 rfl Try.sizeOf3 rfl rfl
theorem fld_54_1 : ∀ b o w, (Instr.fieldAt 54 (.pointer (some ⟨b, o, none⟩)) 1).run Try.prog w = .ok (.pointer (some ⟨b, o + 1, none⟩)) w := fieldAt_run Try.runUnderlying54 rfl Try.sizeOf3 rfl rfl
theorem fld_54_2 : ∀ b o w, (Instr.fieldAt 54 (.pointer (some ⟨b, o, none⟩)) 2).run Try.prog w = .ok (.pointer (some ⟨b, o + 2, none⟩)) w := fieldAt_run Try.runUnderlying54 rfl Try.sizeOf52 rfl rfl
theorem fld_57_0 : ∀ b o w, (Instr.fieldAt 57 (.pointer (some ⟨b, o, none⟩)) 0).run Try.prog w = .ok (.pointer (some ⟨b, o + 0, none⟩)) w := fieldAt_run Try.runUnderlying57 rfl Try.sizeOf28 rfl rfl
theorem fld_57_1 : ∀ b o w, (Instr.fieldAt 57 (.pointer (some ⟨b, o, none⟩)) 1).run Try.prog w = .ok (.pointer (some ⟨b, o + 5, none⟩)) w := fieldAt_run Try.runUnderlying57 rfl Try.sizeOf54 rfl rfl
theorem fld_57_2 : ∀ b o w, (Instr.fieldAt 57 (.pointer (some ⟨b, o, none⟩)) 2).run Try.prog w = .ok (.pointer (some ⟨b, o + 9, none⟩)) w := fieldAt_run Try.runUnderlying57 rfl Try.sizeOf29 rfl rfl
theorem fld_57_3 : ∀ b o w, (Instr.fieldAt 57 (.pointer (some ⟨b, o, none⟩)) 3).run Try.prog w = .ok (.pointer (some ⟨b, o + 10, none⟩)) w := fieldAt_run Try.runUnderlying57 rfl Try.sizeOf55 rfl rfl
theorem fld_57_4 : ∀ b o w, (Instr.fieldAt 57 (.pointer (some ⟨b, o, none⟩)) 4).run Try.prog w = .ok (.pointer (some ⟨b, o + 11, none⟩)) w := fieldAt_run Try.runUnderlying57 rfl Try.sizeOf4 rfl rfl
theorem fld_57_5 : ∀ b o w, (Instr.fieldAt 57 (.pointer (some ⟨b, o, none⟩)) 5).run Try.prog w = .ok (.pointer (some ⟨b, o + 12, none⟩)) w := fieldAt_run Try.runUnderlying57 rfl Try.sizeOf29 rfl rfl
theorem fld_57_6 : ∀ b o w, (Instr.fieldAt 57 (.pointer (some ⟨b, o, none⟩)) 6).run Try.prog w = .ok (.pointer (some ⟨b, o + 13, none⟩)) w := fieldAt_run Try.runUnderlying57 rfl Try.sizeOf4 rfl rfl
theorem fld_57_7 : ∀ b o w, (Instr.fieldAt 57 (.pointer (some ⟨b, o, none⟩)) 7).run Try.prog w = .ok (.pointer (some ⟨b, o + 14, none⟩)) w := fieldAt_run Try.runUnderlying57 rfl Try.sizeOf29 rfl rfl
theorem fld_57_8 : ∀ b o w, (Instr.fieldAt 57 (.pointer (some ⟨b, o, none⟩)) 8).run Try.prog w = .ok (.pointer (some ⟨b, o + 15, none⟩)) w := fieldAt_run Try.runUnderlying57 rfl Try.sizeOf3 rfl rfl
theorem fld_57_9 : ∀ b o w, (Instr.fieldAt 57 (.pointer (some ⟨b, o, none⟩)) 9).run Try.prog w = .ok (.pointer (some ⟨b, o + 16, none⟩)) w := fieldAt_run Try.runUnderlying57 rfl Try.sizeOf3 rfl rfl
theorem fld_64_0 : ∀ b o w, (Instr.fieldAt 64 (.pointer (some ⟨b, o, none⟩)) 0).run Try.prog w = .ok (.pointer (some ⟨b, o + 0, none⟩)) w := fieldAt_run Try.runUnderlying64 rfl Try.sizeOf3 rfl rfl
theorem fld_64_1 : ∀ b o w, (Instr.fieldAt 64 (.pointer (some ⟨b, o, none⟩)) 1).run Try.prog w = .ok (.pointer (some ⟨b, o + 1, none⟩)) w := fieldAt_run Try.runUnderlying64 rfl Try.sizeOf3 rfl rfl
theorem fld_70_0 : ∀ b o w, (Instr.fieldAt 70 (.pointer (some ⟨b, o, none⟩)) 0).run Try.prog w = .ok (.pointer (some ⟨b, o + 0, none⟩)) w := fieldAt_run Try.runUnderlying70 rfl Try.sizeOf54 rfl rfl
theorem fld_70_1 : ∀ b o w, (Instr.fieldAt 70 (.pointer (some ⟨b, o, none⟩)) 1).run Try.prog w = .ok (.pointer (some ⟨b, o + 4, none⟩)) w := fieldAt_run Try.runUnderlying70 rfl Try.sizeOf28 rfl rfl
theorem fld_70_2 : ∀ b o w, (Instr.fieldAt 70 (.pointer (some ⟨b, o, none⟩)) 2).run Try.prog w = .ok (.pointer (some ⟨b, o + 9, none⟩)) w := fieldAt_run Try.runUnderlying70 rfl Try.sizeOf3 rfl rfl
theorem fld_70_3 : ∀ b o w, (Instr.fieldAt 70 (.pointer (some ⟨b, o, none⟩)) 3).run Try.prog w = .ok (.pointer (some ⟨b, o + 10, none⟩)) w := fieldAt_run Try.runUnderlying70 rfl Try.sizeOf3 rfl rfl
theorem fld_70_4 : ∀ b o w, (Instr.fieldAt 70 (.pointer (some ⟨b, o, none⟩)) 4).run Try.prog w = .ok (.pointer (some ⟨b, o + 11, none⟩)) w := fieldAt_run Try.runUnderlying70 rfl Try.sizeOf3 rfl rfl
theorem fld_70_5 : ∀ b o w, (Instr.fieldAt 70 (.pointer (some ⟨b, o, none⟩)) 5).run Try.prog w = .ok (.pointer (some ⟨b, o + 12, none⟩)) w := fieldAt_run Try.runUnderlying70 rfl Try.sizeOf3 rfl rfl
theorem fld_72_0 : ∀ b o w, (Instr.fieldAt 72 (.pointer (some ⟨b, o, none⟩)) 0).run Try.prog w = .ok (.pointer (some ⟨b, o + 0, none⟩)) w := fieldAt_run Try.runUnderlying72 rfl Try.sizeOf3 rfl rfl
theorem fld_72_1 : ∀ b o w, (Instr.fieldAt 72 (.pointer (some ⟨b, o, none⟩)) 1).run Try.prog w = .ok (.pointer (some ⟨b, o + 1, none⟩)) w := fieldAt_run Try.runUnderlying72 rfl Try.sizeOf3 rfl rfl
theorem fld_72_2 : ∀ b o w, (Instr.fieldAt 72 (.pointer (some ⟨b, o, none⟩)) 2).run Try.prog w = .ok (.pointer (some ⟨b, o + 2, none⟩)) w := fieldAt_run Try.runUnderlying72 rfl Try.sizeOf3 rfl rfl
theorem fld_99_0 : ∀ b o w, (Instr.fieldAt 99 (.pointer (some ⟨b, o, none⟩)) 0).run Try.prog w = .ok (.pointer (some ⟨b, o + 0, none⟩)) w := fieldAt_run Try.runUnderlying99 rfl Try.sizeOf3 rfl rfl
theorem fld_99_1 : ∀ b o w, (Instr.fieldAt 99 (.pointer (some ⟨b, o, none⟩)) 1).run Try.prog w = .ok (.pointer (some ⟨b, o + 1, none⟩)) w := fieldAt_run Try.runUnderlying99 rfl Try.sizeOf3 rfl rfl
theorem fld_99_2 : ∀ b o w, (Instr.fieldAt 99 (.pointer (some ⟨b, o, none⟩)) 2).run Try.prog w = .ok (.pointer (some ⟨b, o + 2, none⟩)) w := fieldAt_run Try.runUnderlying99 rfl Try.sizeOf3 rfl rfl
theorem fld_99_3 : ∀ b o w, (Instr.fieldAt 99 (.pointer (some ⟨b, o, none⟩)) 3).run Try.prog w = .ok (.pointer (some ⟨b, o + 3, none⟩)) w := fieldAt_run Try.runUnderlying99 rfl Try.sizeOf3 rfl rfl
theorem fld_143_0 : ∀ b o w, (Instr.fieldAt 143 (.pointer (some ⟨b, o, none⟩)) 0).run Try.prog w = .ok (.pointer (some ⟨b, o + 0, none⟩)) w := fieldAt_run Try.runUnderlying143 rfl Try.sizeOf3 rfl rfl
theorem fld_143_1 : ∀ b o w, (Instr.fieldAt 143 (.pointer (some ⟨b, o, none⟩)) 1).run Try.prog w = .ok (.pointer (some ⟨b, o + 1, none⟩)) w := fieldAt_run Try.runUnderlying143 rfl Try.sizeOf3 rfl rfl
theorem fld_150_0 : ∀ b o w, (Instr.fieldAt 150 (.pointer (some ⟨b, o, none⟩)) 0).run Try.prog w = .ok (.pointer (some ⟨b, o + 0, none⟩)) w := fieldAt_run Try.runUnderlying150 rfl Try.sizeOf3 rfl rfl
theorem fld_150_1 : ∀ b o w, (Instr.fieldAt 150 (.pointer (some ⟨b, o, none⟩)) 1).run Try.prog w = .ok (.pointer (some ⟨b, o + 1, none⟩)) w := fieldAt_run Try.runUnderlying150 rfl Try.sizeOf143 rfl rfl
theorem fld_158_0 : ∀ b o w, (Instr.fieldAt 158 (.pointer (some ⟨b, o, none⟩)) 0).run Try.prog w = .ok (.pointer (some ⟨b, o + 0, none⟩)) w := fieldAt_run Try.runUnderlying158 rfl Try.sizeOf152 rfl rfl
theorem fld_158_1 : ∀ b o w, (Instr.fieldAt 158 (.pointer (some ⟨b, o, none⟩)) 1).run Try.prog w = .ok (.pointer (some ⟨b, o + 1, none⟩)) w := fieldAt_run Try.runUnderlying158 rfl Try.sizeOf156 rfl rfl
theorem fld_158_2 : ∀ b o w, (Instr.fieldAt 158 (.pointer (some ⟨b, o, none⟩)) 2).run Try.prog w = .ok (.pointer (some ⟨b, o + 2, none⟩)) w := fieldAt_run Try.runUnderlying158 rfl Try.sizeOf3 rfl rfl
theorem fld_160_0 : ∀ b o w, (Instr.fieldAt 160 (.pointer (some ⟨b, o, none⟩)) 0).run Try.prog w = .ok (.pointer (some ⟨b, o + 0, none⟩)) w := fieldAt_run Try.runUnderlying160 rfl Try.sizeOf150 rfl rfl
theorem fld_160_1 : ∀ b o w, (Instr.fieldAt 160 (.pointer (some ⟨b, o, none⟩)) 1).run Try.prog w = .ok (.pointer (some ⟨b, o + 3, none⟩)) w := fieldAt_run Try.runUnderlying160 rfl Try.sizeOf3 rfl rfl
theorem fld_165_0 : ∀ b o w, (Instr.fieldAt 165 (.pointer (some ⟨b, o, none⟩)) 0).run Try.prog w = .ok (.pointer (some ⟨b, o + 0, none⟩)) w := fieldAt_run Try.runUnderlying165 rfl Try.sizeOf17 rfl rfl
theorem fld_165_1 : ∀ b o w, (Instr.fieldAt 165 (.pointer (some ⟨b, o, none⟩)) 1).run Try.prog w = .ok (.pointer (some ⟨b, o + 1, none⟩)) w := fieldAt_run Try.runUnderlying165 rfl Try.sizeOf17 rfl rfl
theorem fld_165_2 : ∀ b o w, (Instr.fieldAt 165 (.pointer (some ⟨b, o, none⟩)) 2).run Try.prog w = .ok (.pointer (some ⟨b, o + 2, none⟩)) w := fieldAt_run Try.runUnderlying165 rfl Try.sizeOf17 rfl rfl
theorem fld_165_3 : ∀ b o w, (Instr.fieldAt 165 (.pointer (some ⟨b, o, none⟩)) 3).run Try.prog w = .ok (.pointer (some ⟨b, o + 3, none⟩)) w := fieldAt_run Try.runUnderlying165 rfl Try.sizeOf9 rfl rfl
theorem fld_176_0 : ∀ b o w, (Instr.fieldAt 176 (.pointer (some ⟨b, o, none⟩)) 0).run Try.prog w = .ok (.pointer (some ⟨b, o + 0, none⟩)) w := fieldAt_run Try.runUnderlying176 rfl Try.sizeOf12 rfl rfl
theorem fld_176_1 : ∀ b o w, (Instr.fieldAt 176 (.pointer (some ⟨b, o, none⟩)) 1).run Try.prog w = .ok (.pointer (some ⟨b, o + 1, none⟩)) w := fieldAt_run Try.runUnderlying176 rfl Try.sizeOf12 rfl rfl
theorem fld_176_2 : ∀ b o w, (Instr.fieldAt 176 (.pointer (some ⟨b, o, none⟩)) 2).run Try.prog w = .ok (.pointer (some ⟨b, o + 2, none⟩)) w := fieldAt_run Try.runUnderlying176 rfl Try.sizeOf127 rfl rfl
theorem fld_176_3 : ∀ b o w, (Instr.fieldAt 176 (.pointer (some ⟨b, o, none⟩)) 3).run Try.prog w = .ok (.pointer (some ⟨b, o + 3, none⟩)) w := fieldAt_run Try.runUnderlying176 rfl Try.sizeOf169 rfl rfl
theorem fld_176_4 : ∀ b o w, (Instr.fieldAt 176 (.pointer (some ⟨b, o, none⟩)) 4).run Try.prog w = .ok (.pointer (some ⟨b, o + 4, none⟩)) w := fieldAt_run Try.runUnderlying176 rfl Try.sizeOf5 rfl rfl
theorem fld_176_5 : ∀ b o w, (Instr.fieldAt 176 (.pointer (some ⟨b, o, none⟩)) 5).run Try.prog w = .ok (.pointer (some ⟨b, o + 5, none⟩)) w := fieldAt_run Try.runUnderlying176 rfl Try.sizeOf5 rfl rfl
theorem fld_176_6 : ∀ b o w, (Instr.fieldAt 176 (.pointer (some ⟨b, o, none⟩)) 6).run Try.prog w = .ok (.pointer (some ⟨b, o + 6, none⟩)) w := fieldAt_run Try.runUnderlying176 rfl Try.sizeOf170 rfl rfl
theorem fld_176_7 : ∀ b o w, (Instr.fieldAt 176 (.pointer (some ⟨b, o, none⟩)) 7).run Try.prog w = .ok (.pointer (some ⟨b, o + 7, none⟩)) w := fieldAt_run Try.runUnderlying176 rfl Try.sizeOf171 rfl rfl
theorem fld_176_8 : ∀ b o w, (Instr.fieldAt 176 (.pointer (some ⟨b, o, none⟩)) 8).run Try.prog w = .ok (.pointer (some ⟨b, o + 8, none⟩)) w := fieldAt_run Try.runUnderlying176 rfl Try.sizeOf172 rfl rfl
theorem fld_176_9 : ∀ b o w, (Instr.fieldAt 176 (.pointer (some ⟨b, o, none⟩)) 9).run Try.prog w = .ok (.pointer (some ⟨b, o + 9, none⟩)) w := fieldAt_run Try.runUnderlying176 rfl Try.sizeOf173 rfl rfl
theorem fld_176_10 : ∀ b o w, (Instr.fieldAt 176 (.pointer (some ⟨b, o, none⟩)) 10).run Try.prog w = .ok (.pointer (some ⟨b, o + 10, none⟩)) w := fieldAt_run Try.runUnderlying176 rfl Try.sizeOf174 rfl rfl
theorem fldr_24 {k off : Nat} (h : fldT24 k = some off) : ∀ b o w, (Instr.fieldAt 24 (.pointer (some ⟨b, o, none⟩)) k).run Try.prog w = .ok (.pointer (some ⟨b, o + off, none⟩)) w := by
  unfold fldT24 at h
  split at h <;> (try cases h)
  · exact fld_24_0
  · exact fld_24_1

theorem fldr_28 {k off : Nat} (h : fldT28 k = some off) : ∀ b o w, (Instr.fieldAt 28 (.pointer (some ⟨b, o, none⟩)) k).run Try.prog w = .ok (.pointer (some ⟨b, o + off, none⟩)) w := by
  unfold fldT28 at h
  split at h <;> (try cases h)
  · exact fld_28_0
  · exact fld_28_1
  · exact fld_28_2
  · exact fld_28_3

theorem fldr_31 {k off : Nat} (h : fldT31 k = some off) : ∀ b o w, (Instr.fieldAt 31 (.pointer (some ⟨b, o, none⟩)) k).run Try.prog w = .ok (.pointer (some ⟨b, o + off, none⟩)) w := by
  unfold fldT31 at h
  split at h <;> (try cases h)
  · exact fld_31_0
  · exact fld_31_1

theorem fldr_34 {k off : Nat} (h : fldT34 k = some off) : ∀ b o w, (Instr.fieldAt 34 (.pointer (some ⟨b, o, none⟩)) k).run Try.prog w = .ok (.pointer (some ⟨b, o + off, none⟩)) w := by
  unfold fldT34 at h
  split at h <;> (try cases h)
  · exact fld_34_0
  · exact fld_34_1

theorem fldr_49 {k off : Nat} (h : fldT49 k = some off) : ∀ b o w, (Instr.fieldAt 49 (.pointer (some ⟨b, o, none⟩)) k).run Try.prog w = .ok (.pointer (some ⟨b, o + off, none⟩)) w := by
  unfold fldT49 at h
  split at h <;> (try cases h)
  · exact fld_49_0
  · exact fld_49_1
  · exact fld_49_2
  · exact fld_49_3

theorem fldr_52 {k off : Nat} (h : fldT52 k = some off) : ∀ b o w, (Instr.fieldAt 52 (.pointer (some ⟨b, o, none⟩)) k).run Try.prog w = .ok (.pointer (some ⟨b, o + off, none⟩)) w := by
  unfold fldT52 at h
  split at h <;> (try cases h)
  · exact fld_52_0
  · exact fld_52_1

theorem fldr_54 {k off : Nat} (h : fldT54 k = some off) : ∀ b o w, (Instr.fieldAt 54 (.pointer (some ⟨b, o, none⟩)) k).run Try.prog w = .ok (.pointer (some ⟨b, o + off, none⟩)) w := by
  unfold fldT54 at h
  split at h <;> (try cases h)
  · exact fld_54_0
  · exact fld_54_1
  · exact fld_54_2

theorem fldr_57 {k off : Nat} (h : fldT57 k = some off) : ∀ b o w, (Instr.fieldAt 57 (.pointer (some ⟨b, o, none⟩)) k).run Try.prog w = .ok (.pointer (some ⟨b, o + off, none⟩)) w := by
  unfold fldT57 at h
  split at h <;> (try cases h)
  · exact fld_57_0
  · exact fld_57_1
  · exact fld_57_2
  · exact fld_57_3
  · exact fld_57_4
  · exact fld_57_5
  · exact fld_57_6
  · exact fld_57_7
  · exact fld_57_8
  · exact fld_57_9

theorem fldr_64 {k off : Nat} (h : fldT64 k = some off) : ∀ b o w, (Instr.fieldAt 64 (.pointer (some ⟨b, o, none⟩)) k).run Try.prog w = .ok (.pointer (some ⟨b, o + off, none⟩)) w := by
  unfold fldT64 at h
  split at h <;> (try cases h)
  · exact fld_64_0
  · exact fld_64_1

theorem fldr_70 {k off : Nat} (h : fldT70 k = some off) : ∀ b o w, (Instr.fieldAt 70 (.pointer (some ⟨b, o, none⟩)) k).run Try.prog w = .ok (.pointer (some ⟨b, o + off, none⟩)) w := by
  unfold fldT70 at h
  split at h <;> (try cases h)
  · exact fld_70_0
  · exact fld_70_1
  · exact fld_70_2
  · exact fld_70_3
  · exact fld_70_4
  · exact fld_70_5

theorem fldr_72 {k off : Nat} (h : fldT72 k = some off) : ∀ b o w, (Instr.fieldAt 72 (.pointer (some ⟨b, o, none⟩)) k).run Try.prog w = .ok (.pointer (some ⟨b, o + off, none⟩)) w := by
  unfold fldT72 at h
  split at h <;> (try cases h)
  · exact fld_72_0
  · exact fld_72_1
  · exact fld_72_2

theorem fldr_99 {k off : Nat} (h : fldT99 k = some off) : ∀ b o w, (Instr.fieldAt 99 (.pointer (some ⟨b, o, none⟩)) k).run Try.prog w = .ok (.pointer (some ⟨b, o + off, none⟩)) w := by
  unfold fldT99 at h
  split at h <;> (try cases h)
  · exact fld_99_0
  · exact fld_99_1
  · exact fld_99_2
  · exact fld_99_3

theorem fldr_143 {k off : Nat} (h : fldT143 k = some off) : ∀ b o w, (Instr.fieldAt 143 (.pointer (some ⟨b, o, none⟩)) k).run Try.prog w = .ok (.pointer (some ⟨b, o + off, none⟩)) w := by
  unfold fldT143 at h
  split at h <;> (try cases h)
  · exact fld_143_0
  · exact fld_143_1

theorem fldr_150 {k off : Nat} (h : fldT150 k = some off) : ∀ b o w, (Instr.fieldAt 150 (.pointer (some ⟨b, o, none⟩)) k).run Try.prog w = .ok (.pointer (some ⟨b, o + off, none⟩)) w := by
  unfold fldT150 at h
  split at h <;> (try cases h)
  · exact fld_150_0
  · exact fld_150_1

theorem fldr_158 {k off : Nat} (h : fldT158 k = some off) : ∀ b o w, (Instr.fieldAt 158 (.pointer (some ⟨b, o, none⟩)) k).run Try.prog w = .ok (.pointer (some ⟨b, o + off, none⟩)) w := by
  unfold fldT158 at h
  split at h <;> (try cases h)
  · exact fld_158_0
  · exact fld_158_1
  · exact fld_158_2

theorem fldr_160 {k off : Nat} (h : fldT160 k = some off) : ∀ b o w, (Instr.fieldAt 160 (.pointer (some ⟨b, o, none⟩)) k).run Try.prog w = .ok (.pointer (some ⟨b, o + off, none⟩)) w := by
  unfold fldT160 at h
  split at h <;> (try cases h)
  · exact fld_160_0
  · exact fld_160_1

theorem fldr_165 {k off : Nat} (h : fldT165 k = some off) : ∀ b o w, (Instr.fieldAt 165 (.pointer (some ⟨b, o, none⟩)) k).run Try.prog w = .ok (.pointer (some ⟨b, o + off, none⟩)) w := by
  unfold fldT165 at h
  split at h <;> (try cases h)
  · exact fld_165_0
  · exact fld_165_1
  · exact fld_165_2
  · exact fld_165_3

theorem fldr_176 {k off : Nat} (h : fldT176 k = some off) : ∀ b o w, (Instr.fieldAt 176 (.pointer (some ⟨b, o, none⟩)) k).run Try.prog w = .ok (.pointer (some ⟨b, o + off, none⟩)) w := by
  unfold fldT176 at h
  split at h <;> (try cases h)
  · exact fld_176_0
  · exact fld_176_1
  · exact fld_176_2
  · exact fld_176_3
  · exact fld_176_4
  · exact fld_176_5
  · exact fld_176_6
  · exact fld_176_7
  · exact fld_176_8
  · exact fld_176_9
  · exact fld_176_10

set_option maxHeartbeats 2000000 in
theorem fld_run {s k off : Nat} (h : fldT s k = some off) : ∀ b o w, (Instr.fieldAt s (.pointer (some ⟨b, o, none⟩)) k).run Try.prog w = .ok (.pointer (some ⟨b, o + off, none⟩)) w := by
  unfold fldT at h
  split at h
  · exact fldr_24 h
  · exact fldr_28 h
  · exact fldr_31 h
  · exact fldr_34 h
  · exact fldr_49 h
  · exact fldr_52 h
  · exact fldr_54 h
  · exact fldr_57 h
  · exact fldr_64 h
  · exact fldr_70 h
  · exact fldr_72 h
  · exact fldr_99 h
  · exact fldr_143 h
  · exact fldr_150 h
  · exact fldr_158 h
  · exact fldr_160 h
  · exact fldr_165 h
  · exact fldr_176 h
  · cases h

theorem sl_22 : SlFact Try.prog 22 72 3 24 [.int .i64 0, .int .i64 0, .int .i64 0] := SlFact.mk' (z := .agg #[.int .i64 0, .int .i64 0, .int .i64 0]) Try.underlying22 (by kernel_rfl) rfl rfl (by decide)
theorem sl_25 : SlFact Try.prog 25 54 4 32 [.int .i64 0, .int .i64 0, .int .i64 0, .int .i64 0] := SlFact.mk' (z := .agg #[.int .i64 0, .int .i64 0, .int .i64 0, .int .i64 0]) Try.underlying25 (by kernel_rfl) rfl rfl (by decide)
theorem sl_26 : SlFact Try.prog 26 64 2 16 [.int .i64 0, .int .i64 0] := SlFact.mk' (z := .agg #[.int .i64 0, .int .i64 0]) Try.underlying26 (by kernel_rfl) rfl rfl (by decide)
theorem sl_29 : SlFact Try.prog 29 3 1 8 [.int .i64 0] := SlFact.mk' (z := .int .i64 0) Try.underlying29 (by kernel_rfl) rfl rfl (by decide)
theorem sl_55 : SlFact Try.prog 55 29 1 24 [.slice none 0 0] := SlFact.mk' (z := .slice none 0 0) Try.underlying55 (by kernel_rfl) rfl rfl (by decide)
theorem sl_66 : SlFact Try.prog 66 99 4 32 [.int .i64 0, .int .i64 0, .int .i64 0, .int .i64 0] := SlFact.mk' (z := .agg #[.int .i64 0, .int .i64 0, .int .i64 0, .int .i64 0]) Try.underlying66 (by kernel_rfl) rfl rfl (by decide)
theorem sl_137 : SlFact Try.prog 137 143 2 16 [.int .i64 0, .int .i64 0] := SlFact.mk' (z := .agg #[.int .i64 0, .int .i64 0]) Try.underlying137 (by kernel_rfl) rfl rfl (by decide)
theorem sl_138 : SlFact Try.prog 138 4 1 1 [.bool false] := SlFact.mk' (z := .bool false) Try.underlying138 (by kernel_rfl) rfl rfl (by decide)
theorem sl_156 : SlFact Try.prog 156 160 4 32 [.int .i64 0, .int .i64 0, .int .i64 0, .int .i64 0] := SlFact.mk' (z := .agg #[.int .i64 0, .int .i64 0, .int .i64 0, .int .i64 0]) Try.underlying156 (by kernel_rfl) rfl rfl (by decide)
def slT : Nat → Option (Nat × Nat × Nat × List Value)
  | 22 => some (72, 3, 24, [.int .i64 0, .int .i64 0, .int .i64 0])
  | 25 => some (54, 4, 32, [.int .i64 0, .int .i64 0, .int .i64 0, .int .i64 0])
  | 26 => some (64, 2, 16, [.int .i64 0, .int .i64 0])
  | 29 => some (3, 1, 8, [.int .i64 0])
  | 55 => some (29, 1, 24, [.slice none 0 0])
  | 66 => some (99, 4, 32, [.int .i64 0, .int .i64 0, .int .i64 0, .int .i64 0])
  | 137 => some (143, 2, 16, [.int .i64 0, .int .i64 0])
  | 138 => some (4, 1, 1, [.bool false])
  | 156 => some (160, 4, 32, [.int .i64 0, .int .i64 0, .int .i64 0, .int .i64 0])
  | _ => none

theorem sl_run {t el sz bt : Nat} {zs : List Value} (h : slT t = some (el, sz, bt, zs)) : SlFact Try.prog t el sz bt zs := by
  unfold slT at h
  split at h <;> (try cases h)
  · exact sl_22
  · exact sl_25
  · exact sl_26
  · exact sl_29
  · exact sl_55
  · exact sl_66
  · exact sl_137
  · exact sl_138
  · exact sl_156

set_option maxHeartbeats 1000000 in
theorem bld_24_0 {e : Env} {x0 : Operand} {n0 : Int} (h0 : ev e x0 = .int .i64 n0) : ∀ w, (Instr.build 24 #[(0, ev e x0)]).run Try.prog w = .ok (.agg #[.int .i64 n0, .slice none 0 0]) w := by
  intro w
  rw [h0]
  simp [Instr.build, go_sem]

set_option maxHeartbeats 1000000 in
theorem bld_24_0_1 {e : Env} {x0 x1 : Operand} {n0 : Int} {A1 : Option Addr} {l1 c1 : Nat} (h0 : ev e x0 = .int .i64 n0) (h1 : ev e x1 = .slice A1 l1 c1) : ∀ w, (Instr.build 24 #[(0, ev e x0), (1, ev e x1)]).run Try.prog w = .ok (.agg #[.int .i64 n0, .slice A1 l1 c1]) w := by
  intro w
  rw [h0, h1]
  simp [Instr.build, go_sem]

set_option maxHeartbeats 1000000 in
theorem bld_28_0_1_2_3 {e : Env} {x0 x1 x2 x3 : Operand} {v0_0 v0_1 : Value} {A1 : Option Addr} {l1 c1 : Nat} {A2 : Option Addr} {l2 c2 : Nat} {n3 : Int} (h0 : ev e x0 = .agg #[v0_0, v0_1]) (h1 : ev e x1 = .slice A1 l1 c1) (h2 : ev e x2 = .slice A2 l2 c2) (h3 : ev e x3 = .int .i64 n3) : ∀ w, (Instr.build 28 #[(0, ev e x0), (1, ev e x1), (2, ev e x2), (3, ev e x3)]).run Try.prog w = .ok (.agg #[v0_0, v0_1, .slice A1 l1 c1, .slice A2 l2 c2, .int .i64 n3]) w := by
  intro w
  rw [h0, h1, h2, h3]
  simp [Instr.build, go_sem]

set_option maxHeartbeats 1000000 in
theorem bld_34_ {e : Env}   : ∀ w, (Instr.build 34 #[]).run Try.prog w = .ok (.agg #[.int .i64 0, .slice none 0 0]) w := by
  intro w
  simp [Instr.build, go_sem]

set_option maxHeartbeats 1000000 in
theorem bld_34_0_1 {e : Env} {x0 x1 : Operand} {n0 : Int} {A1 : Option Addr} {l1 c1 : Nat} (h0 : ev e x0 = .int .i64 n0) (h1 : ev e x1 = .slice A1 l1 c1) : ∀ w, (Instr.build 34 #[(0, ev e x0), (1, ev e x1)]).run Try.prog w = .ok (.agg #[.int .i64 n0, .slice A1 l1 c1]) w := by
  intro w
  rw [h0, h1]
  simp [Instr.build, go_sem]

set_option maxHeartbeats 1000000 in
theorem bld_34_1 {e : Env} {x0 : Operand} {A0 : Option Addr} {l0 c0 : Nat} (h0 : ev e x0 = .slice A0 l0 c0) : ∀ w, (Instr.build 34 #[(1, ev e x0)]).run Try.prog w = .ok (.agg #[.int .i64 0, .slice A0 l0 c0]) w := by
  intro w
  rw [h0]
  simp [Instr.build, go_sem]

set_option maxHeartbeats 1000000 in
theorem bld_49_0_1_2_3 {e : Env} {x0 x1 x2 x3 : Operand} {A0 : Option Addr} {l0 c0 : Nat} {n1 : Int} {n2 : Int} {b3 : Bool} (h0 : ev e x0 = .slice A0 l0 c0) (h1 : ev e x1 = .int .i64 n1) (h2 : ev e x2 = .int .i64 n2) (h3 : ev e x3 = .bool b3) : ∀ w, (Instr.build 49 #[(0, ev e x0), (1, ev e x1), (2, ev e x2), (3, ev e x3)]).run Try.prog w = .ok (.agg #[.slice A0 l0 c0, .int .i64 n1, .int .i64 n2, .bool b3]) w := by
  intro w
  rw [h0, h1, h2, h3]
  simp [Instr.build, go_sem]

set_option maxHeartbeats 1000000 in
theorem bld_52_1 {e : Env} {x0 : Operand} {n0 : Int} (h0 : ev e x0 = .int .i64 n0) : ∀ w, (Instr.build 52 #[(1, ev e x0)]).run Try.prog w = .ok (.agg #[.int .i64 0, .int .i64 n0]) w := by
  intro w
  rw [h0]
  simp [Instr.build, go_sem]

set_option maxHeartbeats 1000000 in
theorem bld_54_1_2 {e : Env} {x0 x1 : Operand} {n0 : Int} {v1_0 v1_1 : Value} (h0 : ev e x0 = .int .i64 n0) (h1 : ev e x1 = .agg #[v1_0, v1_1]) : ∀ w, (Instr.build 54 #[(1, ev e x0), (2, ev e x1)]).run Try.prog w = .ok (.agg #[.int .i64 0, .int .i64 n0, v1_0, v1_1]) w := by
  intro w
  rw [h0, h1]
  simp [Instr.build, go_sem]

set_option maxHeartbeats 1000000 in
theorem bld_57_0_1_2_3_4 {e : Env} {x0 x1 x2 x3 x4 : Operand} {v0_0 v0_1 v0_2 v0_3 v0_4 : Value} {v1_0 v1_1 v1_2 v1_3 : Value} {A2 : Option Addr} {l2 c2 : Nat} {A3 : Option Addr} {l3 c3 : Nat} {b4 : Bool} (h0 : ev e x0 = .agg #[v0_0, v0_1, v0_2, v0_3, v0_4]) (h1 : ev e x1 = .agg #[v1_0, v1_1, v1_2, v1_3]) (h2 : ev e x2 = .slice A2 l2 c2) (h3 : ev e x3 = .slice A3 l3 c3) (h4 : ev e x4 = .bool b4) : ∀ w, (Instr.build 57 #[(0, ev e x0), (1, ev e x1), (2, ev e x2), (3, ev e x3), (4, ev e x4)]).run Try.prog w = .ok (.agg #[v0_0, v0_1, v0_2, v0_3, v0_4, v1_0, v1_1, v1_2, v1_3, .slice A2 l2 c2, .slice A3 l3 c3, .bool b4, .slice none 0 0, .bool false, .slice none 0 0, .int .i64 0, .int .i64 0]) w := by
  intro w
  rw [h0, h1, h2, h3, h4]
  simp [Instr.build, go_sem]

set_option maxHeartbeats 1000000 in
theorem bld_64_0_1 {e : Env} {x0 x1 : Operand} {n0 : Int} {n1 : Int} (h0 : ev e x0 = .int .i64 n0) (h1 : ev e x1 = .int .i64 n1) : ∀ w, (Instr.build 64 #[(0, ev e x0), (1, ev e x1)]).run Try.prog w = .ok (.agg #[.int .i64 n0, .int .i64 n1]) w := by
  intro w
  rw [h0, h1]
  simp [Instr.build, go_sem]

set_option maxHeartbeats 1000000 in
theorem bld_70_0_1 {e : Env} {x0 x1 : Operand} {v0_0 v0_1 v0_2 v0_3 : Value} {v1_0 v1_1 v1_2 v1_3 v1_4 : Value} (h0 : ev e x0 = .agg #[v0_0, v0_1, v0_2, v0_3]) (h1 : ev e x1 = .agg #[v1_0, v1_1, v1_2, v1_3, v1_4]) : ∀ w, (Instr.build 70 #[(0, ev e x0), (1, ev e x1)]).run Try.prog w = .ok (.agg #[v0_0, v0_1, v0_2, v0_3, v1_0, v1_1, v1_2, v1_3, v1_4, .int .i64 0, .int .i64 0, .int .i64 0, .int .i64 0]) w := by
  intro w
  rw [h0, h1]
  simp [Instr.build, go_sem]

set_option maxHeartbeats 1000000 in
theorem bld_72_0_1_2 {e : Env} {x0 x1 x2 : Operand} {n0 : Int} {n1 : Int} {n2 : Int} (h0 : ev e x0 = .int .i64 n0) (h1 : ev e x1 = .int .i64 n1) (h2 : ev e x2 = .int .i64 n2) : ∀ w, (Instr.build 72 #[(0, ev e x0), (1, ev e x1), (2, ev e x2)]).run Try.prog w = .ok (.agg #[.int .i64 n0, .int .i64 n1, .int .i64 n2]) w := by
  intro w
  rw [h0, h1, h2]
  simp [Instr.build, go_sem]

set_option maxHeartbeats 1000000 in
theorem bld_99_ {e : Env}   : ∀ w, (Instr.build 99 #[]).run Try.prog w = .ok (.agg #[.int .i64 0, .int .i64 0, .int .i64 0, .int .i64 0]) w := by
  intro w
  simp [Instr.build, go_sem]

set_option maxHeartbeats 1000000 in
theorem bld_99_0_1 {e : Env} {x0 x1 : Operand} {n0 : Int} {n1 : Int} (h0 : ev e x0 = .int .i64 n0) (h1 : ev e x1 = .int .i64 n1) : ∀ w, (Instr.build 99 #[(0, ev e x0), (1, ev e x1)]).run Try.prog w = .ok (.agg #[.int .i64 n0, .int .i64 n1, .int .i64 0, .int .i64 0]) w := by
  intro w
  rw [h0, h1]
  simp [Instr.build, go_sem]

set_option maxHeartbeats 1000000 in
theorem bld_143_0_1 {e : Env} {x0 x1 : Operand} {n0 : Int} {n1 : Int} (h0 : ev e x0 = .int .i64 n0) (h1 : ev e x1 = .int .i64 n1) : ∀ w, (Instr.build 143 #[(0, ev e x0), (1, ev e x1)]).run Try.prog w = .ok (.agg #[.int .i64 n0, .int .i64 n1]) w := by
  intro w
  rw [h0, h1]
  simp [Instr.build, go_sem]

set_option maxHeartbeats 1000000 in
theorem bld_150_0 {e : Env} {x0 : Operand} {n0 : Int} (h0 : ev e x0 = .int .i64 n0) : ∀ w, (Instr.build 150 #[(0, ev e x0)]).run Try.prog w = .ok (.agg #[.int .i64 n0, .int .i64 0, .int .i64 0]) w := by
  intro w
  rw [h0]
  simp [Instr.build, go_sem]

set_option maxHeartbeats 1000000 in
theorem bld_150_0_1 {e : Env} {x0 x1 : Operand} {n0 : Int} {v1_0 v1_1 : Value} (h0 : ev e x0 = .int .i64 n0) (h1 : ev e x1 = .agg #[v1_0, v1_1]) : ∀ w, (Instr.build 150 #[(0, ev e x0), (1, ev e x1)]).run Try.prog w = .ok (.agg #[.int .i64 n0, v1_0, v1_1]) w := by
  intro w
  rw [h0, h1]
  simp [Instr.build, go_sem]

set_option maxHeartbeats 1000000 in
theorem bld_158_0 {e : Env} {x0 : Operand} {fn0 : Fn} {fa0 fb0 : Array Value} (h0 : ev e x0 = .func fn0 fa0 fb0) : ∀ w, (Instr.build 158 #[(0, ev e x0)]).run Try.prog w = .ok (.agg #[.func fn0 fa0 fb0, .slice none 0 0, .int .i64 0]) w := by
  intro w
  rw [h0]
  simp [Instr.build, go_sem]

set_option maxHeartbeats 1000000 in
theorem bld_160_0_1 {e : Env} {x0 x1 : Operand} {v0_0 v0_1 v0_2 : Value} {n1 : Int} (h0 : ev e x0 = .agg #[v0_0, v0_1, v0_2]) (h1 : ev e x1 = .int .i64 n1) : ∀ w, (Instr.build 160 #[(0, ev e x0), (1, ev e x1)]).run Try.prog w = .ok (.agg #[v0_0, v0_1, v0_2, .int .i64 n1]) w := by
  intro w
  rw [h0, h1]
  simp [Instr.build, go_sem]

set_option maxHeartbeats 1000000 in
theorem bsl_22_1_0 {e : Env} {x0 : Operand} {v0_0 v0_1 v0_2 : Value} (h0 : ev e x0 = .agg #[v0_0, v0_1, v0_2]) : ∀ w, (Instr.buildSlice 22 1 #[(0, ev e x0)]).run Try.prog w = .ok (.slice (some ⟨w.heap.size, 0, none⟩) 1 1) (w.alloc (.cells ([v0_0, v0_1, v0_2] : List Value).toArray 72)) := by
  intro w
  rw [h0]
  simp [Instr.buildSlice, go_sem]

set_option maxHeartbeats 1000000 in
theorem bsl_22_5_0_1_2_3_4 {e : Env} {x0 x1 x2 x3 x4 : Operand} {v0_0 v0_1 v0_2 : Value} {v1_0 v1_1 v1_2 : Value} {v2_0 v2_1 v2_2 : Value} {v3_0 v3_1 v3_2 : Value} {v4_0 v4_1 v4_2 : Value} (h0 : ev e x0 = .agg #[v0_0, v0_1, v0_2]) (h1 : ev e x1 = .agg #[v1_0, v1_1, v1_2]) (h2 : ev e x2 = .agg #[v2_0, v2_1, v2_2]) (h3 : ev e x3 = .agg #[v3_0, v3_1, v3_2]) (h4 : ev e x4 = .agg #[v4_0, v4_1, v4_2]) : ∀ w, (Instr.buildSlice 22 5 #[(0, ev e x0), (1, ev e x1), (2, ev e x2), (3, ev e x3), (4, ev e x4)]).run Try.prog w = .ok (.slice (some ⟨w.heap.size, 0, none⟩) 5 5) (w.alloc (.cells ([v0_0, v0_1, v0_2, v1_0, v1_1, v1_2, v2_0, v2_1, v2_2, v3_0, v3_1, v3_2, v4_0, v4_1, v4_2] : List Value).toArray 72)) := by
  intro w
  rw [h0, h1, h2, h3, h4]
  simp [Instr.buildSlice, go_sem]

set_option maxHeartbeats 1000000 in
theorem bsl_25_1_0 {e : Env} {x0 : Operand} {v0_0 v0_1 v0_2 v0_3 : Value} (h0 : ev e x0 = .agg #[v0_0, v0_1, v0_2, v0_3]) : ∀ w, (Instr.buildSlice 25 1 #[(0, ev e x0)]).run Try.prog w = .ok (.slice (some ⟨w.heap.size, 0, none⟩) 1 1) (w.alloc (.cells ([v0_0, v0_1, v0_2, v0_3] : List Value).toArray 54)) := by
  intro w
  rw [h0]
  simp [Instr.buildSlice, go_sem]

set_option maxHeartbeats 1000000 in
theorem bsl_26_2_0_1 {e : Env} {x0 x1 : Operand} {v0_0 v0_1 : Value} {v1_0 v1_1 : Value} (h0 : ev e x0 = .agg #[v0_0, v0_1]) (h1 : ev e x1 = .agg #[v1_0, v1_1]) : ∀ w, (Instr.buildSlice 26 2 #[(0, ev e x0), (1, ev e x1)]).run Try.prog w = .ok (.slice (some ⟨w.heap.size, 0, none⟩) 2 2) (w.alloc (.cells ([v0_0, v0_1, v1_0, v1_1] : List Value).toArray 64)) := by
  intro w
  rw [h0, h1]
  simp [Instr.buildSlice, go_sem]

set_option maxHeartbeats 1000000 in
theorem bsl_29_0_ {e : Env}   : ∀ w, (Instr.buildSlice 29 0 #[]).run Try.prog w = .ok (.slice (some ⟨w.heap.size, 0, none⟩) 0 0) (w.alloc (.cells ([] : List Value).toArray 3)) := by
  intro w
  simp [Instr.buildSlice, go_sem]

set_option maxHeartbeats 1000000 in
theorem bsl_29_1_0 {e : Env} {x0 : Operand} {n0 : Int} (h0 : ev e x0 = .int .i64 n0) : ∀ w, (Instr.buildSlice 29 1 #[(0, ev e x0)]).run Try.prog w = .ok (.slice (some ⟨w.heap.size, 0, none⟩) 1 1) (w.alloc (.cells ([.int .i64 n0] : List Value).toArray 3)) := by
  intro w
  rw [h0]
  simp [Instr.buildSlice, go_sem]

set_option maxHeartbeats 1000000 in
theorem bsl_29_2_0_1 {e : Env} {x0 x1 : Operand} {n0 : Int} {n1 : Int} (h0 : ev e x0 = .int .i64 n0) (h1 : ev e x1 = .int .i64 n1) : ∀ w, (Instr.buildSlice 29 2 #[(0, ev e x0), (1, ev e x1)]).run Try.prog w = .ok (.slice (some ⟨w.heap.size, 0, none⟩) 2 2) (w.alloc (.cells ([.int .i64 n0, .int .i64 n1] : List Value).toArray 3)) := by
  intro w
  rw [h0, h1]
  simp [Instr.buildSlice, go_sem]

set_option maxHeartbeats 1000000 in
theorem bsl_29_3_0_1_2 {e : Env} {x0 x1 x2 : Operand} {n0 : Int} {n1 : Int} {n2 : Int} (h0 : ev e x0 = .int .i64 n0) (h1 : ev e x1 = .int .i64 n1) (h2 : ev e x2 = .int .i64 n2) : ∀ w, (Instr.buildSlice 29 3 #[(0, ev e x0), (1, ev e x1), (2, ev e x2)]).run Try.prog w = .ok (.slice (some ⟨w.heap.size, 0, none⟩) 3 3) (w.alloc (.cells ([.int .i64 n0, .int .i64 n1, .int .i64 n2] : List Value).toArray 3)) := by
  intro w
  rw [h0, h1, h2]
  simp [Instr.buildSlice, go_sem]

set_option maxHeartbeats 1000000 in
theorem bsl_55_1_0 {e : Env} {x0 : Operand} {A0 : Option Addr} {l0 c0 : Nat} (h0 : ev e x0 = .slice A0 l0 c0) : ∀ w, (Instr.buildSlice 55 1 #[(0, ev e x0)]).run Try.prog w = .ok (.slice (some ⟨w.heap.size, 0, none⟩) 1 1) (w.alloc (.cells ([.slice A0 l0 c0] : List Value).toArray 29)) := by
  intro w
  rw [h0]
  simp [Instr.buildSlice, go_sem]

set_option maxHeartbeats 1000000 in
theorem bsl_66_1_0 {e : Env} {x0 : Operand} {v0_0 v0_1 v0_2 v0_3 : Value} (h0 : ev e x0 = .agg #[v0_0, v0_1, v0_2, v0_3]) : ∀ w, (Instr.buildSlice 66 1 #[(0, ev e x0)]).run Try.prog w = .ok (.slice (some ⟨w.heap.size, 0, none⟩) 1 1) (w.alloc (.cells ([v0_0, v0_1, v0_2, v0_3] : List Value).toArray 99)) := by
  intro w
  rw [h0]
  simp [Instr.buildSlice, go_sem]

set_option maxHeartbeats 1000000 in
theorem bsl_156_1_0 {e : Env} {x0 : Operand} {v0_0 v0_1 v0_2 v0_3 : Value} (h0 : ev e x0 = .agg #[v0_0, v0_1, v0_2, v0_3]) : ∀ w, (Instr.buildSlice 156 1 #[(0, ev e x0)]).run Try.prog w = .ok (.slice (some ⟨w.heap.size, 0, none⟩) 1 1) (w.alloc (.cells ([v0_0, v0_1, v0_2, v0_3] : List Value).toArray 160)) := by
  intro w
  rw [h0]
  simp [Instr.buildSlice, go_sem]

def funT : Nat → Bool
  | 3 => true
  | 4 => true
  | 5 => true
  | 6 => true
  | 7 => true
  | 8 => true
  | 9 => true
  | 10 => true
  | 11 => true
  | 12 => true
  | 13 => true
  | 14 => true
  | 15 => true
  | 16 => true
  | 17 => true
  | 18 => true
  | 19 => true
  | 20 => true
  | 21 => true
  | 22 => true
  | 23 => true
  | 24 => true
  | 25 => true
  | 26 => true
  | 27 => true
  | 28 => true
  | 29 => true
  | 30 => true
  | 31 => true
  | 32 => true
  | 33 => true
  | 34 => true
  | 35 => true
  | 36 => true
  | 37 => true
  | 38 => true
  | 39 => true
  | 40 => true
  | 41 => true
  | 42 => true
  | 43 => true
  | 44 => true
  | 45 => true
  | 46 => true
  | 47 => true
  | 48 => true
  | 49 => true
  | 50 => true
  | 51 => true
  | 52 => true
  | 53 => true
  | 54 => true
  | 55 => true
  | 56 => true
  | 57 => true
  | 58 => true
  | 59 => true
  | 60 => true
  | 61 => true
  | 62 => true
  | 63 => true
  | 64 => true
  | 65 => true
  | 66 => true
  | 67 => true
  | 68 => true
  | 69 => true
  | 70 => true
  | 71 => true
  | 72 => true
  | 73 => true
  | 74 => true
  | 75 => true
  | 76 => true
  | 77 => true
  | 78 => true
  | 79 => true
  | 80 => true
  | 81 => true
  | 82 => true
  | 83 => true
  | 84 => true
  | 85 => true
  | 86 => true
  | 87 => true
  | 88 => true
  | 89 => true
  | 90 => true
  | 91 => true
  | 93 => true
  | 94 => true
  | 95 => true
  | 96 => true
  | 97 => true
  | 98 => true
  | 99 => true
  | 100 => true
  | 101 => true
  | 102 => true
  | 103 => true
  | 104 => true
  | 105 => true
  | 106 => true
  | 107 => true
  | _ => false

set_option maxHeartbeats 2000000 in
theorem fun_run {f : Nat} (h : funT f = true) : ∀ (args : Array Value) (w : World), (callFunc f args).run Try.prog w = .ok (.enter f args) w := by
  unfold funT at h
  split at h <;> (try cases h)
  · exact Try.call3
  · exact Try.call4
  · exact Try.call5
  · exact Try.call6
  · exact Try.call7
  · exact Try.call8
  · exact Try.call9
  · exact Try.call10
  · exact Try.call11
  · exact Try.call12
  · exact Try.call13
  · exact Try.call14
  · exact Try.call15
  · exact Try.call16
  · exact Try.call17
  · exact Try.call18
  · exact Try.call19
  · exact Try.call20
  · exact Try.call21
  · exact Try.call22
  · exact Try.call23
  · exact Try.call24
  · exact Try.call25
  · exact Try.call26
  · exact Try.call27
  · exact Try.call28
  · exact Try.call29
  · exact Try.call30
  · exact Try.call31
  · exact Try.call32
  · exact Try.call33
  · exact Try.call34
  · exact Try.call35
  · exact Try.call36
  · exact Try.call37
  · exact Try.call38
  · exact Try.call39
  · exact Try.call40
  · exact Try.call41
  · exact Try.call42
  · exact Try.call43
  · exact Try.call44
  · exact Try.call45
  · exact Try.call46
  · exact Try.call47
  · exact Try.call48
  · exact Try.call49
  · exact Try.call50
  · exact Try.call51
  · exact Try.call52
  · exact Try.call53
  · exact Try.call54
  · exact Try.call55
  · exact Try.call56
  · exact Try.call57
  · exact Try.call58
  · exact Try.call59
  · exact Try.call60
  · exact Try.call61
  · exact Try.call62
  · exact Try.call63
  · exact Try.call64
  · exact Try.call65
  · exact Try.call66
  · exact Try.call67
  · exact Try.call68
  · exact Try.call69
  · exact Try.call70
  · exact Try.call71
  · exact Try.call72
  · exact Try.call73
  · exact Try.call74
  · exact Try.call75
  · exact Try.call76
  · exact Try.call77
  · exact Try.call78
  · exact Try.call79
  · exact Try.call80
  · exact Try.call81
  · exact Try.call82
  · exact Try.call83
  · exact Try.call84
  · exact Try.call85
  · exact Try.call86
  · exact Try.call87
  · exact Try.call88
  · exact Try.call89
  · exact Try.call90
  · exact Try.call91
  · exact Try.call93
  · exact Try.call94
  · exact Try.call95
  · exact Try.call96
  · exact Try.call97
  · exact Try.call98
  · exact Try.call99
  · exact Try.call100
  · exact Try.call101
  · exact Try.call102
  · exact Try.call103
  · exact Try.call104
  · exact Try.call105
  · exact Try.call106
  · exact Try.call107

theorem mixed : Try.prog.follows .mixedOrders = true := by kernel_rfl

end Go.Proofs.Ytfddebpeiilohaa

/-
  Regions whose order is open and that make memory in more than one place: quiet operations are taken first, over the others it is branched.
-/
set_option linter.all false
namespace Go.W
open Go.RowKit
structure OPH (P : Program) (N : Nat) (ops : Array Oper) (K : Env → World → Prop) (w0 : World) (S : List Nat) (L : List Blk) (fuel : Nat) (listed : Array Bool) (e : Env) (w : World) : Prop where
  run : ∀ a : Act, envOf a = e → a.tmps.size = N → a.defers = [] → wpAnyH P .any ops (post N K NoX NoR) (fun w' => SH w0 S w' L) fuel listed a w
section
variable {P : Program} {N : Nat} {ops : Array Oper} {K : Env → World → Prop} {Kn : Env → World → Prop} {Kx : Nat → Env → World → Prop} {Kr : Env → World → Prop} {e : Env} {w w0 : World} {S : List Nat} {L : List Blk} {fuel : Nat} {listed : Array Bool}
theorem WP.rheld {id : Nat} (hm : P.follows .mixedOrders = true) (H : SH w0 S w L) (h : ∀ w', Below w.heap.size w w' → SH w0 S w' L → OPH P N ops Kn w0 S L ops.size (Array.replicate ops.size false) e w') : WP P N (.region id ops true) Kn Kx Kr e w :=
  ⟨fun a h1 h2 h3 => Code.wp_mono post_up (wp_region_held (S := fun w' => SH w0 S w' L) hm ((h { w with drawn := w.drawn + 1 } ⟨rfl, rfl, rfl, Nat.le_refl _, fun _ _ => rfl⟩ H.drew).run a h1 h2 h3))⟩
theorem WP.rheldC {id : Nat} (M : List Nat) (I : Env → World → Prop) (hm : P.follows .mixedOrders = true) (H : SH w0 S w L)
    (h : ∀ w', Below w.heap.size w w' → SH w0 S w' L → OPH P N ops (fun e' w' => Agree M e' e ∧ I e' w') w0 S L ops.size (Array.replicate ops.size false) e w') (hk : ∀ u w', I u w' → Kn (W.mix M u e) w') : WP P N (.region id ops true) Kn Kx Kr e w :=
  WP.mono (WP.rheld (Kn := fun e' w' => Agree M e' e ∧ I e' w') (Kx := Kx) (Kr := Kr) hm H h) (fun e' w' hh => by rw [hh.1.eq]; exact hk e' w' hh.2) (fun _ _ _ h => h) (fun _ _ h => h)
theorem OPH.take (i : Nat) {oi : Oper} {d : Nat} {v : Value} {f : Nat} (hi : ops[i]? = some oi) (hg : oi.guard = none) (hd : oi.dst = some d) (hN : Nat.blt d N = true) (hs : Region.noSelect ops = true) (hf : Region.free .any ops listed i = true)
    (hr : (Region.ready .any ops listed).contains i = true) (hfu : fuel = f + 1) (H : SH w0 S w L) (hE : ∀ w', SH w0 S w' L → Ev P e w' oi.type oi.op v)
    (h : OPH P N ops K w0 S L f (listed.setIfInBounds i true) (upd e d v) w) : OPH P N ops K w0 S L fuel listed e w :=
  ⟨fun a h1 h2 h3 => by
    subst hfu
    have hn := h.run (a.put (some d) v) (by rw [envOf_put v h2 hN, h1]) (by rw [size_put]; exact h2) (by rw [defers_put]; exact h3)
    refine wpAnyH_take hi hs hf hr (fun c a w hh => by simp only [post] at hh) (v := v) (.inl ⟨wanted_none hg _, fun w' hw' => ?_⟩) H (by rw [hd]; exact hn)
    have := (hE w' hw').run w' (Below.refl _ _) oi rfl rfl
    rw [eval_eq, h1]; exact this⟩
theorem OPH.all (rs : List Nat) {f : Nat} (hr : Region.ready .any ops listed = rs) (hne : rs ≠ []) (hfu : fuel = f + 1)
    (h : ∀ i ∈ rs, ∃ o, ops[i]? = some o ∧ OPS P N .plain ops (fun e' w' => SH w0 S w' L ∧ OPH P N ops K w0 S L f (listed.setIfInBounds i true) e' w') [o] e w) : OPH P N ops K w0 S L fuel listed e w :=
  ⟨fun a h1 h2 h3 => by
    subst hfu
    refine wpAnyH_all hr hne fun i hi => ?_
    obtain ⟨o, ho, hO⟩ := h i hi
    have hl := hO.run a h1 h2 h3
    simp only at hl
    unfold wpList at hl
    unfold wpOp
    simp only [ho]
    split
    · rename_i hw
      rw [if_pos hw] at hl
      rcases hl with hl | ⟨_, _, _, hl⟩
      · refine .inl ?_
        unfold Oper.wp at hl ⊢
        generalize (execOp a.eval o).run P w = r at hl ⊢
        have key : ∀ a' w', wpList P ops (post N (fun e' w' => SH w0 S w' L ∧ OPH P N ops K w0 S L f (listed.setIfInBounds i true) e' w') NoX NoR) [] a' w' → SH w0 S w' L ∧ wpAnyH P .any ops (post N K NoX NoR) (fun w' => SH w0 S w' L) f (listed.setIfInBounds i true) a' w' := by
          intro a' w' hh
          have hh : a'.tmps.size = N ∧ a'.defers = [] ∧ _ := hh
          exact ⟨hh.2.2.1, hh.2.2.2.run a' rfl hh.1 hh.2.1⟩
        cases r with
        | ok n w' =>
          cases n <;> simp only [Oper.upon] at hl ⊢
          case value u => exact key _ _ hl
          case skip => exact key _ _ hl
          case defer d => exact key _ _ hl
          case enter g args =>
            refine Calls.mono hl ?_
            intro e' w'' he
            cases e' with
            | returned u => exact key _ _ he
            | panicked c => simp only [post] at he
            | outgrown => obtain ⟨_, _, he⟩ := he; simp only [post] at he
          case row row args => exact Rows.mono hl fun u w'' he => key _ _ he
        | halt x w' =>
          cases x <;> simp only [Oper.upon] at hl ⊢
          case panic u => simp only [post] at hl
      · simp only [post] at hl
    · rename_i hw
      rw [if_neg hw] at hl
      have hl : (a.put o.dst undef).tmps.size = N ∧ (a.put o.dst undef).defers = [] ∧ _ := hl
      exact ⟨hl.2.2.1, hl.2.2.2.run _ rfl hl.1 hl.2.1⟩⟩
theorem OPH.done (hr : Region.ready .any ops listed = []) (h : K e w) : OPH P N ops K w0 S L fuel listed e w := ⟨fun _ h1 h2 h3 => wpAnyH_done hr ⟨h2, h3, h1 ▸ h⟩ fuel⟩
end
end Go.W

/-
  Words for what arguments read as: lists of one-cell elements, lists of elements of several cells.
-/
set_option linter.all false
namespace Go.W
open Go.RowKit
abbrev I (n : Int) : Value := .int .i64 n
abbrev Bo (b : Bool) : Value := .bool b
/-- the slice of address A holds the list l, an element a cell -/
def OnesAt {α : Type} (enc : α → Value) (w : World) (A : Option Addr) (l : List α) : Prop := ∀ k (hk : k < l.length), ∃ b o, A = some ⟨b, o, none⟩ ∧ w.cell? ⟨b, o + k, none⟩ = some (enc (l[k]'hk))
theorem OnesAt.below {α : Type} {enc : α → Value} {w w' : World} {A : Option Addr} {l : List α} (h : OnesAt enc w A l) (hb : Below w.heap.size w w') : OnesAt enc w' A l := fun k hk => by
  obtain ⟨b, o, h1, h2⟩ := h k hk
  exact ⟨b, o, h1, cell_below hb h2⟩
theorem OnesAt.sh {α : Type} {enc : α → Value} {w0 w : World} {L : List Blk} {A : Option Addr} {l : List α} (h : OnesAt enc w0 A l) (H : SH w0 [] w L) : OnesAt enc w A l := fun k hk => by
  obtain ⟨b, o, h1, h2⟩ := h k hk
  exact ⟨b, o, h1, H.ld0 h2⟩
theorem OnesAt.nil {α : Type} {enc : α → Value} {w : World} {A : Option Addr} : OnesAt enc w A [] := fun k hk => absurd hk (by simp)
/-- an own block that begins with the list -/
theorem OnesAt.own {α : Type} {enc : α → Value} {w0 w : World} {S : List Nat} {L : List Blk} (H : SH w0 S w L) (i : Nat) {b : Blk} (hi : L[i]? = some b) {l : List α} {post : List Value} (hc : b.cs = l.map enc ++ post) :
    OnesAt enc w (some ⟨b.g, 0, none⟩) l := fun k hk => ⟨b.g, 0, rfl, by
  have h1 : b.cs[k]? = some (enc (l[k]'hk)) := by
    rw [hc, List.getElem?_append_left (by simpa using hk), List.getElem?_map, List.getElem?_eq_getElem hk]; rfl
  rw [Nat.zero_add]
  exact H.ldL i hi k h1⟩
abbrev IntsAt := OnesAt I
abbrev BoolsAt := OnesAt Bo
/-- the slice of address A holds the list l, an element sz cells -/
def RowsAt {α : Type} (sz : Nat) (enc : α → List Value) (w : World) (A : Option Addr) (l : List α) : Prop := ∀ k (hk : k < l.length), ∃ b o, A = some ⟨b, o, none⟩ ∧ cellsAt w b (o + k * sz) (enc (l[k]'hk))
theorem RowsAt.below {α : Type} {sz : Nat} {enc : α → List Value} {w w' : World} {A : Option Addr} {l : List α} (h : RowsAt sz enc w A l) (hb : Below w.heap.size w w') : RowsAt sz enc w' A l := fun k hk => by
  obtain ⟨b, o, h1, h2⟩ := h k hk
  exact ⟨b, o, h1, cellsAt_below hb h2⟩
theorem cellsAt_sh {w0 w : World} {L : List Blk} (H : SH w0 [] w L) {b : Nat} : ∀ {vs : List Value} {o : Nat}, cellsAt w0 b o vs → cellsAt w b o vs
  | [], _, _ => trivial
  | _ :: _, _, h => ⟨H.ld0 h.1, cellsAt_sh H h.2⟩
theorem RowsAt.sh {α : Type} {sz : Nat} {enc : α → List Value} {w0 w : World} {L : List Blk} {A : Option Addr} {l : List α} (h : RowsAt sz enc w0 A l) (H : SH w0 [] w L) : RowsAt sz enc w A l := fun k hk => by
  obtain ⟨b, o, h1, h2⟩ := h k hk
  exact ⟨b, o, h1, cellsAt_sh H h2⟩
theorem RowsAt.nil {α : Type} {sz : Nat} {enc : α → List Value} {w : World} {A : Option Addr} : RowsAt sz enc w A [] := fun k hk => absurd hk (by simp)
theorem SH.ldS {w0 w : World} {S : List Nat} {L : List Blk} (h : SH w0 S w L) {a : Addr} {v : Value} (hc : w0.cell? a = some v) (hS : a.block ∉ S) : w.cell? a = some v :=
  (World.cell?_of_block (w := w0) (h.low a.block (cell_lt hc) hS)).trans hc
/-- the address of a slice lies in none of these blocks -/
def Off (A : Option Addr) (S : List Nat) : Prop := ∀ b o, A = some ⟨b, o, none⟩ → b ∉ S
theorem Off.nil {A : Option Addr} : Off A [] := fun _ _ _ => by simp
theorem OnesAt.shS {α : Type} {enc : α → Value} {w0 w : World} {S : List Nat} {L : List Blk} {A : Option Addr} {l : List α} (h : OnesAt enc w0 A l) (hS : Off A S) (H : SH w0 S w L) : OnesAt enc w A l := fun k hk => by
  obtain ⟨b, o, h1, h2⟩ := h k hk
  exact ⟨b, o, h1, H.ldS h2 (hS b o h1)⟩
theorem cellsAt_shS {w0 w : World} {S : List Nat} {L : List Blk} (H : SH w0 S w L) {b : Nat} (hS : b ∉ S) : ∀ {vs : List Value} {o : Nat}, cellsAt w0 b o vs → cellsAt w b o vs
  | [], _, _ => trivial
  | _ :: _, _, h => ⟨H.ldS h.1 hS, cellsAt_shS H hS h.2⟩
theorem RowsAt.shS {α : Type} {sz : Nat} {enc : α → List Value} {w0 w : World} {S : List Nat} {L : List Blk} {A : Option Addr} {l : List α} (h : RowsAt sz enc w0 A l) (hS : Off A S) (H : SH w0 S w L) : RowsAt sz enc w A l := fun k hk => by
  obtain ⟨b, o, h1, h2⟩ := h k hk
  exact ⟨b, o, h1, cellsAt_shS H (hS b o h1) h2⟩
/-- the blocks of a list, as a callee that may write them gets them -/
theorem SH.restart {w0 w : World} {S : List Nat} {L Lv : List Blk} (H : SH w0 S w L) (hs : Lv.Sublist L) : SH w (Lv.map (·.g)) w Lv :=
  ⟨rfl, rfl, rfl, Nat.le_refl _, fun _ _ _ => rfl, fun b hb => H.own b (hs.subset hb), fun b hb => .inr (List.mem_map_of_mem hb), (hs.map _).nodup H.nodup⟩
/-- behind a call that may have written the blocks Lv -/
theorem SH.call {w0 w w' : World} {S : List Nat} {L1 Lv Lv' : List Blk} (H : SH w0 S w (L1 ++ Lv)) (Hc : SH w (Lv.map (·.g)) w' Lv') : SH w0 S w' (L1 ++ Lv') where
  os := Hc.os.trans H.os
  tape := Hc.tape.trans H.tape
  output := Hc.output.trans H.output
  size := Nat.le_trans H.size Hc.size
  low k hk hS := by
    rw [Hc.low k (Nat.lt_of_lt_of_le hk H.size) (fun hm => ?_)]
    · exact H.low k hk hS
    · obtain ⟨b, hb, rfl⟩ := List.mem_map.1 hm
      rcases H.may b (List.mem_append_right _ hb) with h | h
      · omega
      · exact hS h
  own b hb := by
    rcases List.mem_append.1 hb with h | h
    · rw [Hc.low b.g (H.lt (List.mem_append_left _ h)) (fun hm => ?_)]
      · exact H.own b (List.mem_append_left _ h)
      · have hn := H.nodup
        rw [List.map_append, List.nodup_append] at hn
        exact hn.2.2 b.g (List.mem_map_of_mem h) b.g hm rfl
    · exact Hc.own b h
  may b hb := by
    rcases List.mem_append.1 hb with h | h
    · exact H.may b (List.mem_append_left _ h)
    · rcases Hc.may b h with h2 | h2
      · exact .inl (Nat.le_trans H.size h2)
      · obtain ⟨c, hc, he⟩ := List.mem_map.1 h2
        rw [← he]; exact H.may c (List.mem_append_right _ hc)
  nodup := by
    have hn := H.nodup
    rw [List.map_append, List.nodup_append] at hn ⊢
    refine ⟨hn.1, Hc.nodup, fun a ha b hb he => ?_⟩
    subst he
    obtain ⟨c, hc, rfl⟩ := List.mem_map.1 ha
    obtain ⟨d, hd, hde⟩ := List.mem_map.1 hb
    rcases Hc.may d hd with h2 | h2
    · have := H.lt (List.mem_append_left _ hc); omega
    · rw [hde] at h2
      exact hn.2.2 c.g (List.mem_map_of_mem hc) c.g h2 rfl
theorem SH.fresh {w0 w : World} {L : List Blk} (H : SH w0 [] w L) : ∀ g ∈ L.map (·.g), w0.heap.size ≤ g := fun g hg => by
  obtain ⟨b, hb, rfl⟩ := List.mem_map.1 hg
  rcases H.may b hb with h | h
  · exact h
  · simp at h
theorem OnesAt.off {α : Type} {enc : α → Value} {w0 : World} {A : Option Addr} {l : List α} {gs : List Nat} (h : OnesAt enc w0 A l) (hg : ∀ g ∈ gs, w0.heap.size ≤ g) : l ≠ [] → Off A gs := fun hl b o he hm => by
  subst he
  obtain ⟨b', o', h1, h2⟩ := h 0 (List.length_pos_iff.2 hl)
  cases h1
  have h3 := cell_lt h2
  have h3 : b < w0.heap.size := h3
  have := hg b hm
  omega
theorem RowsAt.off {α : Type} {sz : Nat} {enc : α → List Value} {w0 : World} {A : Option Addr} {l : List α} {gs : List Nat} (h : RowsAt sz enc w0 A l) (hne : ∀ x, enc x ≠ []) (hg : ∀ g ∈ gs, w0.heap.size ≤ g) : l ≠ [] → Off A gs := fun hl b o he hm => by
  subst he
  obtain ⟨b', o', h1, h2⟩ := h 0 (List.length_pos_iff.2 hl)
  cases h1
  have hgb := hg b hm
  generalize hx : enc (l[0]'(List.length_pos_iff.2 hl)) = vs at h2
  match vs, h2 with
  | [], _ => exact hne _ hx
  | v :: vs, h2 =>
    have h3 : b < w0.heap.size := cell_lt h2.1
    omega
/-- some of the blocks, in another order -/
theorem SH.reidx {w0 w : World} {S : List Nat} {L L' : List Blk} (H : SH w0 S w L) (idx : List Nat) (hn : idx.Nodup) (hi : idx.map (fun i => L[i]?) = L'.map some) : SH w0 S w L' := by
  have hlen : idx.length = L'.length := by have := congrArg List.length hi; simpa using this
  have hat : ∀ p (h : p < L'.length), L[idx[p]'(by omega)]? = some L'[p] := by
    intro p h
    have := congrArg (fun l => l[p]?) hi
    simp only [List.getElem?_map] at this
    rw [List.getElem?_eq_getElem (by omega), List.getElem?_eq_getElem h] at this
    simpa using this
  have hmem : ∀ b ∈ L', b ∈ L := by
    intro b hb
    obtain ⟨p, hp, rfl⟩ := List.mem_iff_getElem.1 hb
    exact List.mem_of_getElem? (hat p hp)
  refine ⟨H.os, H.tape, H.output, H.size, H.low, fun b hb => H.own b (hmem b hb), fun b hb => H.may b (hmem b hb), ?_⟩
  rw [List.nodup_iff_pairwise_ne, List.pairwise_iff_getElem]
  intro p q hp hq hpq
  simp only [List.length_map] at hp hq
  have h1 := hat p hp
  have h2 := hat q hq
  have hne : idx[p]'(by omega) ≠ idx[q]'(by omega) := by
    rw [List.nodup_iff_pairwise_ne, List.pairwise_iff_getElem] at hn
    exact hn p q (by omega) (by omega) hpq
  generalize idx[p]'(by omega) = i at *
  generalize idx[q]'(by omega) = j at *
  obtain ⟨hi1, hi2⟩ := List.getElem?_eq_some_iff.1 h1
  obtain ⟨hj1, hj2⟩ := List.getElem?_eq_some_iff.1 h2
  have hd := H.nodup
  rw [List.nodup_iff_pairwise_ne, List.pairwise_iff_getElem] at hd
  simp only [List.getElem_map]
  rcases Nat.lt_or_gt_of_ne hne with h | h
  · have := hd i j (by simpa) (by simpa) h
    simpa [hi2, hj2] using this
  · have := hd j i (by simpa) (by simpa) h
    simp [hi2, hj2] at this
    exact fun he => this he.symm
/-- what lies off the blocks at the start lies off those that stand later -/
theorem Off.later {α : Type} {enc : α → Value} {w0 w : World} {gs : List Nat} {L : List Blk} {A : Option Addr} {l : List α} (h : OnesAt enc w0 A l) (hg : l ≠ [] → Off A gs) (H : SH w0 gs w L) : l ≠ [] → Off A (L.map (·.g)) := fun hl b o he hm => by
  have hoff := hg hl b o he
  subst he
  obtain ⟨b', o', h1, h2⟩ := h 0 (List.length_pos_iff.2 hl)
  cases h1
  have h3 : b < w0.heap.size := cell_lt h2
  obtain ⟨c, hc, rfl⟩ := List.mem_map.1 hm
  rcases H.may c hc with h4 | h4
  · omega
  · exact hoff h4
theorem ret_eq {v v' : Value} (h : v = v') : Ending.returned v = .returned v' := by rw [h]
theorem ret_int {a b : Int} (h : a = b) : Ending.returned (I a) = .returned (I b) := by rw [h]
end Go.W

/-
  Own blocks that hold rows of several cells: reading and writing an element.
-/
set_option linter.all false
namespace Go.W
open Go.RowKit
section
variable {α : Type} {enc : α → List Value} {sz : Nat}
theorem rows_length (hsz : ∀ x, (enc x).length = sz) (l : List α) : (l.flatMap enc).length = l.length * sz := by
  induction l with
  | nil => simp
  | cons x l ih => simp only [List.flatMap_cons, List.length_append, hsz, ih, List.length_cons, Nat.succ_mul]; omega
theorem rows_get (hsz : ∀ x, (enc x).length = sz) : ∀ (l : List α) (k j : Nat) (hk : k < l.length), j < sz → (l.flatMap enc)[k * sz + j]? = (enc (l[k]'hk))[j]?
  | [], _, _, hk, _ => by simp at hk
  | x :: l, 0, j, _, hj => by
    simp only [List.flatMap_cons, Nat.zero_mul, Nat.zero_add, List.getElem_cons_zero]
    rw [List.getElem?_append_left (by rw [hsz]; exact hj)]
  | x :: l, k + 1, j, hk, hj => by
    simp only [List.flatMap_cons, List.getElem_cons_succ]
    rw [List.getElem?_append_right (by rw [hsz, Nat.succ_mul]; omega), hsz, show (k + 1) * sz + j - sz = k * sz + j by rw [Nat.succ_mul]; omega]
    exact rows_get hsz l k j (by simpa using hk) hj
theorem putL_append_right (pre : List Value) : ∀ (vs cs : List Value) (k : Nat), putL (pre ++ cs) (pre.length + k) vs = pre ++ putL cs k vs
  | [], _, _ => rfl
  | v :: vs, cs, k => by
    rw [putL, putL, List.set_append_right _ _ (by omega), show pre.length + k - pre.length = k by omega, show pre.length + k + 1 = pre.length + (k + 1) by omega]
    exact putL_append_right pre vs _ _
theorem putL_whole : ∀ (vs old : List Value) (post : List Value), old.length = vs.length → putL (old ++ post) 0 vs = vs ++ post
  | [], [], _, _ => rfl
  | v :: vs, u :: old, post, h => by
    rw [putL]
    have := putL_append_right [v] vs (old ++ post) 0
    simp only [List.cons_append, List.set_cons_zero, List.nil_append, List.length_cons, List.length_nil, Nat.zero_add, Nat.add_zero] at this ⊢
    rw [this, putL_whole vs old post (by simpa using h)]
  | [], _ :: _, _, h => by simp at h
  | _ :: _, [], _, h => by simp at h
theorem putL_rows (hsz : ∀ x, (enc x).length = sz) : ∀ (l : List α) (k : Nat) (x : α), k < l.length → putL (l.flatMap enc) (k * sz) (enc x) = (l.set k x).flatMap enc
  | [], _, _, h => by simp at h
  | y :: l, 0, x, _ => by
    simp only [List.flatMap_cons, Nat.zero_mul, List.set_cons_zero]
    exact putL_whole _ _ _ (by rw [hsz, hsz])
  | y :: l, k + 1, x, h => by
    simp only [List.flatMap_cons, List.set_cons_succ]
    rw [show (k + 1) * sz = (enc y).length + k * sz by rw [hsz, Nat.succ_mul]; omega, putL_append_right, putL_rows hsz l k x (by simpa using h)]
theorem rowsOwn {w0 w : World} {S : List Nat} {L : List Blk} (hsz : ∀ x, (enc x).length = sz) (H : SH w0 S w L) (i : Nat) {g : Nat} {T : TypeId} {l : List α} {post : List Value} (hi : L[i]? = some ⟨g, T, l.flatMap enc ++ post⟩) :
    RowsAt sz enc w (some ⟨g, 0, none⟩) l := fun k hk => ⟨g, 0, rfl, by
  refine cellsAt_own H i hi _ _ fun j hj => ?_
  rw [hsz] at hj
  have hlen := rows_length hsz l
  have hkk : k * sz + sz ≤ l.length * sz := by rw [← Nat.succ_mul]; exact Nat.mul_le_mul_right _ hk
  rw [Nat.zero_add, List.getElem?_append_left (by rw [hlen]; omega), rows_get hsz l k j hk hj, List.getElem?_eq_getElem]⟩
theorem rowsOwn' {w0 w : World} {S : List Nat} {L : List Blk} (hsz : ∀ x, (enc x).length = sz) (H : SH w0 S w L) (i : Nat) {g : Nat} {T : TypeId} {l : List α} (hi : L[i]? = some ⟨g, T, l.flatMap enc⟩) :
    RowsAt sz enc w (some ⟨g, 0, none⟩) l := rowsOwn (post := []) hsz H i (by simpa using hi)
theorem mkL_rows (n : Nat) (x : α) : mkL n (enc x) = (List.replicate n x).flatMap enc := by
  induction n with
  | zero => rfl
  | succ n ih => simp only [mkL, List.replicate_succ, List.flatten_cons, List.flatMap_cons] at ih ⊢; rw [ih]
theorem mkL_ones {enc1 : α → Value} (n : Nat) (x : α) : mkL n [enc1 x] = (List.replicate n x).map enc1 := by rw [mkL_one]; simp
end
theorem OwnS.rows {α : Type} {enc : α → List Value} {sz : Nat} (hsz : ∀ x, (enc x).length = sz) (hp : 0 < sz) {w0 w : World} {S : List Nat} {A : Option Addr} {cap n el : Nat} {l : List α} {R Lo : List Blk} (h : OwnS A cap n (l.flatMap enc) el sz Lo) (H : SH w0 S w (R ++ Lo)) :
    RowsAt sz enc w A l ∧ l.length = n := by
  have hl : l.length = n := by
    have := h.len
    rw [rows_length hsz] at this
    exact Nat.eq_of_mul_eq_mul_right hp this
  refine ⟨?_, hl⟩
  rcases h.form with ⟨rfl, h0, _, _⟩ | ⟨g, sp, rfl, rfl, _⟩
  · intro k hk; omega
  · exact rowsOwn (T := el) (post := sp) hsz H R.length (by simp)
theorem OwnS.ones {α : Type} {enc : α → Value} {w0 w : World} {S : List Nat} {A : Option Addr} {cap n el : Nat} {l : List α} {R Lo : List Blk} (h : OwnS A cap n (l.map enc) el 1 Lo) (H : SH w0 S w (R ++ Lo)) :
    OnesAt enc w A l ∧ l.length = n := by
  have hl : l.length = n := by simpa using h.len
  refine ⟨?_, hl⟩
  rcases h.form with ⟨rfl, h0, _, _⟩ | ⟨g, sp, rfl, rfl, _⟩
  · intro k hk; omega
  · exact OnesAt.own (b := ⟨g, el, l.map enc ++ sp⟩) H R.length (by simp) (post := sp) rfl
theorem onesOwn {α : Type} {enc : α → Value} {w0 w : World} {S : List Nat} {L : List Blk} (H : SH w0 S w L) (i : Nat) {g : Nat} {T : TypeId} {l : List α} (hi : L[i]? = some ⟨g, T, l.map enc⟩) : OnesAt enc w (some ⟨g, 0, none⟩) l :=
  OnesAt.own (b := ⟨g, T, l.map enc⟩) H i hi (post := []) (by simp)
/-- a store of one element -/
theorem putL_ones {α : Type} {enc : α → Value} (l : List α) (k : Nat) (x : α) : putL (l.map enc) k [enc x] = (l.set k x).map enc := by simp [putL, List.map_set]
end Go.W

/-
  More rules: copy.
-/
set_option linter.all false
namespace Go.W
open Go.RowKit
section
variable {P : Program} {N : Nat} {ops : Array Oper} {K : Env → World → Prop} {e : Env} {w w0 : World} {S : List Nat} {L : List Blk} {rest : List Oper} {o : Oper} {t : TypeId} {x y : Operand}
/-- copy of a whole list into a block of the call's own; elements of one cell -/
theorem OPS.copy {d el n sb so c c' : Nat} {b : Blk} {vs : List Value} (i k : Nat) (hg : o.guard = none) (hd : o.dst = some d) (hN : Nat.blt d N = true)
    (hop : o.op = .call { callee := .builtin .copy, args := #[x, y], argTypes := #[t, t] }) (hU : ∀ w, (underlying t).run P w = .ok (.slice el) w) (hs : ∀ w, (Go.sizeOf el).run P w = .ok 1 w)
    (hx : ev e x = .slice (some ⟨b.g, k, none⟩) n c) (hy : ev e y = .slice (some ⟨sb, so, none⟩) n c') (hn : vs.length = n) (hsrc : cellsAt w sb so vs) (h1 : (vs.all (·.oneCell')) = true)
    (H : SH w0 S w L) (hi : L[i]? = some b) (hk : k + n ≤ b.cs.length)
    (h : ∀ w', SH w0 S w' (L.set i ⟨b.g, b.T, putL b.cs k vs⟩) → OPS P N .plain ops K rest (upd e d (.int .i64 n)) w') : OPS P N .plain ops K (o :: rest) e w := by
  obtain ⟨w', hr, H'⟩ := store_run (P := P) vs w L b k 0 H hi (by omega) h1
  refine OPS.act (v := .int .i64 n) (w' := w') hg hd hN ?_ (h w' H')
  unfold execOp; rw [hop]
  have hl := loadCells_at (P := P) vs hsrc
  rw [hn] at hl
  simp [resolve, invoke, builtin, hx, hy, Builtin.copy_, hU, hs, Builtin.lenOf, Builtin.firstCells, hl, hr, goInt]
/-- as OPS.box, OPS.alloc, OPS.makeSlice, OPS.buildSlice, with what the new world keeps -/
theorem OPS.boxB {d : Nat} {cs : List Value} (hg : o.guard = none) (hd : o.dst = some d) (hN : Nat.blt d N = true) (hop : o.op = .box t x) (hx : (ev e x).cells = cs.toArray) (H : SH w0 S w L)
    (h : ∀ g w', Below w.heap.size w w' → SH w0 S w' (⟨g, t, cs⟩ :: L) → OPS P N .plain ops K rest (upd e d (.pointer (some ⟨g, 0, none⟩))) w') : OPS P N .plain ops K (o :: rest) e w :=
  OPS.act (v := .pointer (some ⟨w.heap.size, 0, none⟩)) (w' := w.alloc (.cells cs.toArray t)) hg hd hN (by unfold execOp; rw [hop]; simp [Instr.box, newVar, newRow, newObj, Sem.run, hx]) (h _ _ ((Below.refl _ _).alloc (Nat.le_refl _) _) (H.alloc t cs))
theorem OPS.allocB {d : Nat} {z : Value} {cs : List Value} (hg : o.guard = none) (hd : o.dst = some d) (hN : Nat.blt d N = true) (hop : o.op = .alloc t) (hz : ∀ w, (zeroValue t).run P w = .ok z w) (hx : z.cells = cs.toArray) (H : SH w0 S w L)
    (h : ∀ g w', Below w.heap.size w w' → SH w0 S w' (⟨g, t, cs⟩ :: L) → OPS P N .plain ops K rest (upd e d (.pointer (some ⟨g, 0, none⟩))) w') : OPS P N .plain ops K (o :: rest) e w :=
  OPS.act (v := .pointer (some ⟨w.heap.size, 0, none⟩)) (w' := w.alloc (.cells cs.toArray t)) hg hd hN (by unfold execOp; rw [hop]; simp [Instr.alloc, hz, newVar, newRow, newObj, Sem.run, hx]) (h _ _ ((Below.refl _ _).alloc (Nat.le_refl _) _) (H.alloc t cs))
theorem OPS.makeSliceB {d el sz bt m : Nat} {n : Int} {k k' : IntKind} {zs : List Value} (hg : o.guard = none) (hd : o.dst = some d) (hN : Nat.blt d N = true) (hop : o.op = .makeSlice t x y) (hf : SlFact P t el sz bt zs)
    (hx : ev e x = .int k n) (hy : ev e y = .int k' n) (hn : n = (m : Int)) (hb : bt * m ≤ 140737488355328) (hm : m ≤ 9223372036854775807) (H : SH w0 S w L)
    (h : ∀ g w', Below w.heap.size w w' → SH w0 S w' (⟨g, el, mkL m zs⟩ :: L) → OPS P N .plain ops K rest (upd e d (.slice (some ⟨g, 0, none⟩) m m)) w') : OPS P N .plain ops K (o :: rest) e w := by
  subst hn
  refine OPS.act (v := .slice (some ⟨w.heap.size, 0, none⟩) m m) (w' := w.alloc (.cells (mkL m zs).toArray el)) hg hd hN ?_ (h _ _ ((Below.refl _ _).alloc (Nat.le_refl _) _) (H.alloc _ _))
  unfold execOp; rw [hop]
  simp only [hx, hy, Sem.run_bind, run_makeSlice_own hf m k k' hb hm w, Result.andThen_ok, Sem.run_pure]
theorem OPS.buildSliceB {d el n : Nat} {cs : List Value} {parts : List (Nat × Operand)} (hg : o.guard = none) (hd : o.dst = some d) (hN : Nat.blt d N = true) (hop : o.op = .buildSlice t n parts.toArray)
    (hr : ∀ w, (Instr.buildSlice t n (parts.map fun p => (p.1, ev e p.2)).toArray).run P w = .ok (.slice (some ⟨w.heap.size, 0, none⟩) n n) (w.alloc (.cells cs.toArray el))) (H : SH w0 S w L)
    (h : ∀ g w', Below w.heap.size w w' → SH w0 S w' (⟨g, el, cs⟩ :: L) → OPS P N .plain ops K rest (upd e d (.slice (some ⟨g, 0, none⟩) n n)) w') : OPS P N .plain ops K (o :: rest) e w := by
  refine OPS.act (v := .slice (some ⟨w.heap.size, 0, none⟩) n n) (w' := w.alloc (.cells cs.toArray el)) hg hd hN ?_ (h _ _ ((Below.refl _ _).alloc (Nat.le_refl _) _) (H.alloc _ _))
  unfold execOp; rw [hop]
  simp only [List.map_toArray, Sem.run_bind, hr, Result.andThen_ok, Sem.run_pure]
/-- a guarded call in a quiet region, the contract first -/
theorem OPS.gcallq2 {d j dj : Nat} {want b : Bool} {f : FuncId} {args : List Value} {v : Value}
    (hC : b = want → ∀ w', Below w.heap.size w w' → Calls P f args.toArray w' fun e' w'' => e' = .returned v ∧ Below w'.heap.size w' w'')
    (hg : o.guard = some (j, want)) (hj : ops[j]?.bind (·.dst) = some dj) (hb : e dj = .bool b) (hd : o.dst = some d) (hN : Nat.blt d N = true) (hE : b = want → EvC P e o.op f args)
    (h : OPS P N .quiet ops K rest (upd e d (gv b want v)) w) : OPS P N .quiet ops K (o :: rest) e w :=
  ⟨fun a h1 h2 h3 => by
    have hn := h.run (a.put (some d) (gv b want v)) (by rw [envOf_put _ h2 hN, h1]) (by rw [size_put]; exact h2) (by rw [defers_put]; exact h3)
    have hy := yielded_of (a := a) hj (h1 ▸ hb)
    simp only at hn ⊢
    unfold wpQuiet
    by_cases hw : b = want
    · subst hw
      have hwt : Region.wanted o (yielded ops a.tmps) = true := by simp [Region.wanted, hg, hy]
      have hgv : gv b b v = v := by simp [gv]
      rw [hgv] at hn
      rw [if_pos hwt]
      refine ⟨v, fun w' hb => ?_, by rw [hd]; exact hn⟩
      unfold Oper.quietAt
      have hr := (hE rfl).run w' o rfl
      rw [← h1, ← eval_eq] at hr
      rw [hr]
      exact ⟨rfl, (hC rfl w' hb).mono fun e' w'' ⟨he, hb2⟩ => ⟨he, hb.trans (hb2.mono hb.size)⟩⟩
    · have hwt : Region.wanted o (yielded ops a.tmps) = false := by simp [Region.wanted, hg, hy, hw]
      have hgv : gv b want v = undef := by simp [gv, hw]
      rw [hgv] at hn
      rw [hwt, hd]; exact hn⟩
/-- a guarded call whose result is not known beforehand -/
theorem OPS.gcallX {α : Type} [Inhabited α] (val : α → Value) (R : α → World → Prop) {d j dj : Nat} {want b : Bool} {f : FuncId} {args : List Value}
    (hC : b = want → Calls P f args.toArray w fun e' w' => ∃ x, e' = .returned (val x) ∧ R x w' ∧ Below w.heap.size w w') (hg : o.guard = some (j, want)) (hj : ops[j]?.bind (·.dst) = some dj) (hb : e dj = .bool b) (hd : o.dst = some d) (hN : Nat.blt d N = true)
    (hE : b = want → EvC P e o.op f args)
    (h : ∀ x w', (b = want → R x w') → Below w.heap.size w w' → OPS P N .plain ops K rest (upd e d (gv b want (val x))) w') : OPS P N .plain ops K (o :: rest) e w :=
  ⟨fun a h1 h2 h3 => by
    have hy := yielded_of (a := a) hj (h1 ▸ hb)
    simp only
    unfold wpList
    by_cases hw : b = want
    · subst hw
      have hwt : Region.wanted o (yielded ops a.tmps) = true := by simp [Region.wanted, hg, hy]
      rw [if_pos hwt]
      refine .inl ?_
      unfold Oper.wp
      have hr := (hE rfl).run w o rfl
      rw [← h1, ← eval_eq] at hr
      rw [hr]
      refine (hC rfl).mono fun e' w' ⟨x, he, hR, hb2⟩ => ?_
      subst he
      have hn := (h x w' (fun _ => hR) hb2).run (a.put (some d) (gv b b (val x))) (by rw [envOf_put _ h2 hN, h1]) (by rw [size_put]; exact h2) (by rw [defers_put]; exact h3)
      have hgv : gv b b (val x) = val x := by simp [gv]
      rw [hgv] at hn
      rw [hd]
      exact hn
    · have hwt : Region.wanted o (yielded ops a.tmps) = false := by simp [Region.wanted, hg, hy, hw]
      have hn := (h default w (fun hx => absurd hx hw) (Below.refl _ _)).run (a.put (some d) (gv b want (val default))) (by rw [envOf_put _ h2 hN, h1]) (by rw [size_put]; exact h2) (by rw [defers_put]; exact h3)
      have hgv : gv b want (val default) = undef := by simp [gv, hw]
      rw [hgv] at hn
      rw [hwt, hd]; exact hn⟩
end
section
variable {P : Program} {e : Env} {w : World} {ty t : TypeId} {x y : Operand}
theorem Ev.pickT {c : Operand} {b : Bool} {v : Value} (hc : ev e c = .bool b) (hb : b = true) (hx : ev e x = v) : Ev P e w ty (.pick c x y) v := by
  have := Ev.pick (P := P) (w := w) (ty := ty) (x := x) (y := y) hc
  rw [if_pos hb, hx] at this; exact this
theorem Ev.pickF {c : Operand} {b : Bool} {v : Value} (hc : ev e c = .bool b) (hb : b = false) (hy : ev e y = v) : Ev P e w ty (.pick c x y) v := by
  have := Ev.pick (P := P) (w := w) (ty := ty) (x := x) (y := y) hc
  rw [if_neg (by simp [hb]), hy] at this; exact this
theorem equalB {a b : Bool} (hU : ∀ w, (underlying t).run P w = .ok .bool w) (w : World) : (Op.equal t (.bool a) (.bool b)).run P w = .ok (a == b) w := by
  unfold Op.equal
  rw [show Op.maxDepth = 9999 + 1 from rfl, Op.equalIn]
  simp [hU]
theorem Ev.neqB {t' : TypeId} {a b : Bool} (hU : ∀ w, (underlying t).run P w = .ok .bool w) (hx : ev e x = .bool a) (hy : ev e y = .bool b) : Ev P e w ty (.binOp .neq t x y t') (.bool (a != b)) :=
  ⟨fun w' _ o ho _ => by unfold execOp; rw [ho]; simp [hx, hy, eqGuard, binOp, equalB hU, bne]⟩
theorem Ev.eqlB {t' : TypeId} {a b : Bool} (hU : ∀ w, (underlying t).run P w = .ok .bool w) (hx : ev e x = .bool a) (hy : ev e y = .bool b) : Ev P e w ty (.binOp .eql t x y t') (.bool (a == b)) :=
  ⟨fun w' _ o ho _ => by unfold execOp; rw [ho]; simp [hx, hy, eqGuard, binOp, equalB hU]⟩
/-- two structs of one type, compared -/
theorem Ev.eqlA {t' : TypeId} {vs us : Array Value} {q : Bool} (hg : P.eqGuardType P.depth t = false) (hr : ∀ w, (Op.equal t (.agg vs) (.agg us)).run P w = .ok q w) (hx : ev e x = .agg vs) (hy : ev e y = .agg us) : Ev P e w ty (.binOp .eql t x y t') (.bool q) :=
  ⟨fun w' _ o ho _ => by
    have hp : (program : Sem Program).run P w' = .ok P w' := rfl
    unfold execOp; rw [ho]; simp [hx, hy, eqGuard, binOp, hr, hp, hg]⟩
end
theorem zero_of {P : Program} {t : TypeId} {z : Value} (h : (P.info? t).map (·.zero) = some (some z)) : ∀ w, (zeroValue t).run P w = .ok z w := by
  intro w
  cases hi : P.info? t with
  | none => simp [hi] at h
  | some i =>
    simp [hi] at h
    have ht : (typeInfo t).run P w = .ok i w := by unfold typeInfo program; simp only [Sem.run_bind, Sem.run, Result.andThen_ok, hi, Sem.run_pure]
    unfold zeroValue; simp only [Sem.run_bind, ht, Result.andThen_ok, h, Sem.run_pure]
/-- a cell of a block of ints -/
theorem intCell {w0 w : World} {S : List Nat} {L : List Blk} (H : SH w0 S w L) (i : Nat) {g : Nat} {T : TypeId} {ms : List Int} (hi : L[i]? = some ⟨g, T, ms.map fun n => Value.int .i64 n⟩) (k : Nat) (hk : k < ms.length) : w.cell? ⟨g, k, none⟩ = some (.int .i64 (ms.getD k 0)) :=
  H.ldL i hi k (by simp [hk])
/-- a list that is being filled: the first j elements stand, the others are z -/
def fillL {α : Type} (l : List α) (z : α) (j : Nat) : List α := l.take j ++ List.replicate (l.length - j) z
theorem fillL_length {α : Type} (l : List α) (z : α) (j : Nat) (h : j ≤ l.length) : (fillL l z j).length = l.length := by simp [fillL]; omega
theorem fillL_zero {α : Type} (l : List α) (z : α) : fillL l z 0 = List.replicate l.length z := by simp [fillL]
theorem fillL_all {α : Type} (l : List α) (z : α) : fillL l z l.length = l := by simp [fillL]
theorem fillL_set {α : Type} (l : List α) (z : α) (j : Nat) (h : j < l.length) : (fillL l z j).set j (l[j]) = fillL l z (j + 1) := by
  have e : l.length - j = (l.length - (j + 1)) + 1 := by omega
  unfold fillL
  have e2 : j - (l.take j).length = 0 := by simp; omega
  rw [List.set_append_right _ _ (by simp; omega), e, List.replicate_succ, e2, List.set_cons_zero, ← List.take_append_getElem h, List.append_assoc]
  rfl
/-- how many are not set yet -/
def openN (l : List Bool) : Nat := (l.filter (fun b => !b)).length
theorem openN_set : ∀ (l : List Bool) (k : Nat), k < l.length → l.getD k false = false → openN (l.set k true) < openN l
  | [], _, h, _ => by simp at h
  | b :: l, 0, _, hb => by
    simp at hb; subst hb
    simp [openN]
  | b :: l, k + 1, h, hb => by
    have := openN_set l k (by simpa using h) (by simpa using hb)
    cases b <;> simpa [openN] using this
end Go.W
