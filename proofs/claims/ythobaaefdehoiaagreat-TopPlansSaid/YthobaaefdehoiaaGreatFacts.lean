/-
  The types and functions of this seat, as the walk wants them (written by a program from the translation).
-/
import Derived.Test.YthobaaefdehoiaaGreatProg
import Derived.Test.YthobaaefdehoiaaGreatEng
import Derived.OrdersHeld
import Derived.Laws.CopyRow
import Derived.Deep.Slices
import Derived.ChangeOld
import Derived.ProofKit
import Derived.OpenShut
set_option linter.all false
namespace Go.Proofs.YthobaaefdehoiaaGreat
open Go Go.W
def aggT : Nat → Option Bool
  | 2 => some false
  | 3 => some false
  | 4 => some false
  | 5 => some false
  | 6 => some false
  | 21 => some false
  | 22 => some false
  | 23 => some true
  | 24 => some true
  | 25 => some false
  | 26 => some false
  | 27 => some true
  | 28 => some true
  | 29 => some false
  | 30 => some false
  | 31 => some true
  | 32 => some true
  | 35 => some false
  | 39 => some true
  | 40 => some true
  | 45 => some false
  | 49 => some true
  | 50 => some true
  | 54 => some false
  | 55 => some true
  | 56 => some true
  | 59 => some false
  | 61 => some true
  | 62 => some true
  | 63 => some true
  | 64 => some true
  | 66 => some true
  | 67 => some true
  | 69 => some false
  | 70 => some false
  | 71 => some true
  | 72 => some true
  | 76 => some false
  | 77 => some false
  | 85 => some true
  | 86 => some true
  | 87 => some false
  | 99 => some false
  | 100 => some true
  | 101 => some true
  | 103 => some true
  | 104 => some true
  | 108 => some true
  | 109 => some true
  | 110 => some true
  | 111 => some true
  | 118 => some true
  | 119 => some true
  | 122 => some true
  | 123 => some true
  | 124 => some false
  | 126 => some true
  | 127 => some true
  | 128 => some false
  | 131 => some true
  | 132 => some true
  | 136 => some false
  | 137 => some false
  | 140 => some false
  | 141 => some true
  | 142 => some true
  | 144 => some false
  | 145 => some false
  | 149 => some false
  | 155 => some false
  | 157 => some true
  | 158 => some true
  | 159 => some false
  | 164 => some false
  | 165 => some false
  | 167 => some true
  | 168 => some true
  | 170 => some false
  | 178 => some false
  | 179 => some true
  | 180 => some true
  | 181 => some true
  | 182 => some true
  | 184 => some false
  | 185 => some true
  | 186 => some true
  | 187 => some true
  | 188 => some true
  | 192 => some false
  | 195 => some false
  | 202 => some false
  | 204 => some false
  | 205 => some false
  | 209 => some false
  | 211 => some false
  | _ => none
set_option maxHeartbeats 2000000 in
theorem agg_run {t : Nat} {v : _} (h : aggT t = some v) : ∀ w, (isAgg t).run Tryz.prog w = .ok v w := by
  unfold aggT at h
  split at h <;> (try cases h)
  · exact Tryz.isAgg2
  · exact Tryz.isAgg3
  · exact Tryz.isAgg4
  · exact Tryz.isAgg5
  · exact Tryz.isAgg6
  · exact Tryz.isAgg21
  · exact Tryz.isAgg22
  · exact Tryz.isAgg23
  · exact Tryz.isAgg24
  · exact Tryz.isAgg25
  · exact Tryz.isAgg26
  · exact Tryz.isAgg27
  · exact Tryz.isAgg28
  · exact Tryz.isAgg29
  · exact Tryz.isAgg30
  · exact Tryz.isAgg31
  · exact Tryz.isAgg32
  · exact Tryz.isAgg35
  · exact Tryz.isAgg39
  · exact Tryz.isAgg40
  · exact Tryz.isAgg45
  · exact Tryz.isAgg49
  · exact Tryz.isAgg50
  · exact Tryz.isAgg54
  · exact Tryz.isAgg55
  · exact Tryz.isAgg56
  · exact Tryz.isAgg59
  · exact Tryz.isAgg61
  · exact Tryz.isAgg62
  · exact Tryz.isAgg63
  · exact Tryz.isAgg64
  · exact Tryz.isAgg66
  · exact Tryz.isAgg67
  · exact Tryz.isAgg69
  · exact Tryz.isAgg70
  · exact Tryz.isAgg71
  · exact Tryz.isAgg72
  · exact Tryz.isAgg76
  · exact Tryz.isAgg77
  · exact Tryz.isAgg85
  · exact Tryz.isAgg86
  · exact Tryz.isAgg87
  · exact Tryz.isAgg99
  · exact Tryz.isAgg100
  · exact Tryz.isAgg101
  · exact Tryz.isAgg103
  · exact Tryz.isAgg104
  · exact Tryz.isAgg108
  · exact Tryz.isAgg109
  · exact Tryz.isAgg110
  · exact Tryz.isAgg111
  · exact Tryz.isAgg118
  · exact Tryz.isAgg119
  · exact Tryz.isAgg122
  · exact Tryz.isAgg123
  · exact Tryz.isAgg124
  · exact Tryz.isAgg126
  · exact Tryz.isAgg127
  · exact Tryz.isAgg128
  · exact Tryz.isAgg131
  · exact Tryz.isAgg132
  · exact Tryz.isAgg136
  · exact Tryz.isAgg137
  · exact Tryz.isAgg140
  · exact Tryz.isAgg141
  · exact Tryz.isAgg142
  · exact Tryz.isAgg144
  · exact Tryz.isAgg145
  · exact Tryz.isAgg149
  · exact Tryz.isAgg155
  · exact Tryz.isAgg157
  · exact Tryz.isAgg158
  · exact Tryz.isAgg159
  · exact Tryz.isAgg164
  · exact Tryz.isAgg165
  · exact Tryz.isAgg167
  · exact Tryz.isAgg168
  · exact Tryz.isAgg170
  · exact Tryz.isAgg178
  · exact Tryz.isAgg179
  · exact Tryz.isAgg180
  · exact Tryz.isAgg181
  · exact Tryz.isAgg182
  · exact Tryz.isAgg184
  · exact Tryz.isAgg185
  · exact Tryz.isAgg186
  · exact Tryz.isAgg187
  · exact Tryz.isAgg188
  · exact Tryz.isAgg192
  · exact Tryz.isAgg195
  · exact Tryz.isAgg202
  · exact Tryz.isAgg204
  · exact Tryz.isAgg205
  · exact Tryz.isAgg209
  · exact Tryz.isAgg211
def sizeT : Nat → Option Nat
  | 2 => some 1
  | 3 => some 1
  | 4 => some 1
  | 5 => some 1
  | 6 => some 1
  | 21 => some 1
  | 22 => some 1
  | 23 => some 2
  | 24 => some 2
  | 25 => some 1
  | 26 => some 1
  | 27 => some 5
  | 28 => some 5
  | 29 => some 1
  | 30 => some 1
  | 31 => some 2
  | 32 => some 2
  | 35 => some 1
  | 39 => some 4
  | 40 => some 4
  | 45 => some 1
  | 49 => some 2
  | 50 => some 2
  | 54 => some 1
  | 55 => some 6
  | 56 => some 6
  | 59 => some 1
  | 61 => some 2
  | 62 => some 2
  | 63 => some 4
  | 64 => some 4
  | 66 => some 2
  | 67 => some 2
  | 69 => some 1
  | 70 => some 1
  | 71 => some 6
  | 72 => some 6
  | 76 => some 1
  | 77 => some 1
  | 85 => some 3
  | 86 => some 3
  | 87 => some 1
  | 99 => some 1
  | 100 => some 2
  | 101 => some 2
  | 103 => some 4
  | 104 => some 4
  | 108 => some 13
  | 109 => some 13
  | 110 => some 4
  | 111 => some 4
  | 118 => some 4
  | 119 => some 4
  | 122 => some 4
  | 123 => some 4
  | 124 => some 1
  | 126 => some 3
  | 127 => some 3
  | 128 => some 1
  | 131 => some 6
  | 132 => some 6
  | 136 => some 1
  | 137 => some 1
  | 140 => some 1
  | 141 => some 2
  | 142 => some 2
  | 144 => some 1
  | 145 => some 1
  | 149 => some 1
  | 155 => some 1
  | 157 => some 2
  | 158 => some 2
  | 159 => some 1
  | 164 => some 1
  | 165 => some 1
  | 167 => some 3
  | 168 => some 3
  | 170 => some 1
  | 178 => some 1
  | 179 => some 3
  | 180 => some 3
  | 181 => some 3
  | 182 => some 3
  | 184 => some 1
  | 185 => some 3
  | 186 => some 3
  | 187 => some 4
  | 188 => some 4
  | 192 => some 1
  | 195 => some 1
  | 202 => some 1
  | 204 => some 1
  | 205 => some 1
  | 209 => some 1
  | 211 => some 1
  | _ => none
set_option maxHeartbeats 2000000 in
theorem size_run {t : Nat} {v : _} (h : sizeT t = some v) : ∀ w, (Go.sizeOf t).run Tryz.prog w = .ok v w := by
  unfold sizeT at h
  split at h <;> (try cases h)
  · exact Tryz.sizeOf2
  · exact Tryz.sizeOf3
  · exact Tryz.sizeOf4
  · exact Tryz.sizeOf5
  · exact Tryz.sizeOf6
  · exact Tryz.sizeOf21
  · exact Tryz.sizeOf22
  · exact Tryz.sizeOf23
  · exact Tryz.sizeOf24
  · exact Tryz.sizeOf25
  · exact Tryz.sizeOf26
  · exact Tryz.sizeOf27
  · exact Tryz.sizeOf28
  · exact Tryz.sizeOf29
  · exact Tryz.sizeOf30
  · exact Tryz.sizeOf31
  · exact Tryz.sizeOf32
  · exact Tryz.sizeOf35
  · exact Tryz.sizeOf39
  · exact Tryz.sizeOf40
  · exact Tryz.sizeOf45
  · exact Tryz.sizeOf49
  · exact Tryz.sizeOf50
  · exact Tryz.sizeOf54
  · exact Tryz.sizeOf55
  · exact Tryz.sizeOf56
  · exact Tryz.sizeOf59
  · exact Tryz.sizeOf61
  · exact Tryz.sizeOf62
  · exact Tryz.sizeOf63
  · exact Tryz.sizeOf64
  · exact Tryz.sizeOf66
  · exact Tryz.sizeOf67
  · exact Tryz.sizeOf69
  · exact Tryz.sizeOf70
  · exact Tryz.sizeOf71
  · exact Tryz.sizeOf72
  · exact Tryz.sizeOf76
  · exact Tryz.sizeOf77
  · exact Tryz.sizeOf85
  · exact Tryz.sizeOf86
  · exact Tryz.sizeOf87
  · exact Tryz.sizeOf99
  · exact Tryz.sizeOf100
  · exact Tryz.sizeOf101
  · exact Tryz.sizeOf103
  · exact Tryz.sizeOf104
  · exact Tryz.sizeOf108
  · exact Tryz.sizeOf109
  · exact Tryz.sizeOf110
  · exact Tryz.sizeOf111
  · exact Tryz.sizeOf118
  · exact Tryz.sizeOf119
  · exact Tryz.sizeOf122
  · exact Tryz.sizeOf123
  · exact Tryz.sizeOf124
  · exact Tryz.sizeOf126
  · exact Tryz.sizeOf127
  · exact Tryz.sizeOf128
  · exact Tryz.sizeOf131
  · exact Tryz.sizeOf132
  · exact Tryz.sizeOf136
  · exact Tryz.sizeOf137
  · exact Tryz.sizeOf140
  · exact Tryz.sizeOf141
  · exact Tryz.sizeOf142
  · exact Tryz.sizeOf144
  · exact Tryz.sizeOf145
  · exact Tryz.sizeOf149
  · exact Tryz.sizeOf155
  · exact Tryz.sizeOf157
  · exact Tryz.sizeOf158
  · exact Tryz.sizeOf159
  · exact Tryz.sizeOf164
  · exact Tryz.sizeOf165
  · exact Tryz.sizeOf167
  · exact Tryz.sizeOf168
  · exact Tryz.sizeOf170
  · exact Tryz.sizeOf178
  · exact Tryz.sizeOf179
  · exact Tryz.sizeOf180
  · exact Tryz.sizeOf181
  · exact Tryz.sizeOf182
  · exact Tryz.sizeOf184
  · exact Tryz.sizeOf185
  · exact Tryz.sizeOf186
  · exact Tryz.sizeOf187
  · exact Tryz.sizeOf188
  · exact Tryz.sizeOf192
  · exact Tryz.sizeOf195
  · exact Tryz.sizeOf202
  · exact Tryz.sizeOf204
  · exact Tryz.sizeOf205
  · exact Tryz.sizeOf209
  · exact Tryz.sizeOf211
def elT : Nat → Option Nat
  | 22 => some 86
  | 25 => some 64
  | 26 => some 67
  | 29 => some 50
  | 30 => some 3
  | 45 => some 32
  | 70 => some 30
  | 77 => some 111
  | 99 => some 123
  | 128 => some 132
  | 136 => some 142
  | 137 => some 4
  | 178 => some 182
  | 184 => some 188
  | _ => none
set_option maxHeartbeats 2000000 in
theorem el_run {t : Nat} {v : _} (h : elT t = some v) : ∀ w, (underlying t).run Tryz.prog w = .ok (.slice v) w := by
  unfold elT at h
  split at h <;> (try cases h)
  · exact Tryz.runUnderlying22
  · exact Tryz.runUnderlying25
  · exact Tryz.runUnderlying26
  · exact Tryz.runUnderlying29
  · exact Tryz.runUnderlying30
  · exact Tryz.runUnderlying45
  · exact Tryz.runUnderlying70
  · exact Tryz.runUnderlying77
  · exact Tryz.runUnderlying99
  · exact Tryz.runUnderlying128
  · exact Tryz.runUnderlying136
  · exact Tryz.runUnderlying137
  · exact Tryz.runUnderlying178
  · exact Tryz.runUnderlying184
def zeroT : Nat → Option Value
  | 2 => some (.int .i64 0)
  | 3 => some (.int .i64 0)
  | 4 => some (.bool false)
  | 5 => some (.int .u8 0)
  | 6 => some (.int .u8 0)
  | 21 => some (.int .i32 0)
  | 22 => some (.slice none 0 0)
  | 23 => some (.agg #[.int .i64 0, .slice none 0 0])
  | 24 => some (.agg #[.int .i64 0, .slice none 0 0])
  | 25 => some (.slice none 0 0)
  | 26 => some (.slice none 0 0)
  | 27 => some (.agg #[.int .i64 0, .slice none 0 0, .slice none 0 0, .slice none 0 0, .int .i64 0])
  | 28 => some (.agg #[.int .i64 0, .slice none 0 0, .slice none 0 0, .slice none 0 0, .int .i64 0])
  | 29 => some (.slice none 0 0)
  | 30 => some (.slice none 0 0)
  | 31 => some (.agg #[.slice none 0 0, .slice none 0 0])
  | 32 => some (.agg #[.slice none 0 0, .slice none 0 0])
  | 35 => some (.int .i64 0)
  | 39 => some (.agg #[.int .i64 0, .int .i64 0, .slice none 0 0, .slice none 0 0])
  | 40 => some (.agg #[.int .i64 0, .int .i64 0, .slice none 0 0, .slice none 0 0])
  | 45 => some (.slice none 0 0)
  | 49 => some (.agg #[.int .i64 0, .slice none 0 0])
  | 50 => some (.agg #[.int .i64 0, .slice none 0 0])
  | 54 => some (.nilFunc)
  | 55 => some (.agg #[.int .i64 0, .slice none 0 0, .slice none 0 0, .slice none 0 0, .int .i64 0, .nilFunc])
  | 56 => some (.agg #[.int .i64 0, .slice none 0 0, .slice none 0 0, .slice none 0 0, .int .i64 0, .nilFunc])
  | 59 => some (.nilFunc)
  | 61 => some (.agg #[.int .i64 0, .int .i64 0])
  | 62 => some (.agg #[.int .i64 0, .int .i64 0])
  | 63 => some (.agg #[.int .i64 0, .int .i64 0, .int .i64 0, .int .i64 0])
  | 64 => some (.agg #[.int .i64 0, .int .i64 0, .int .i64 0, .int .i64 0])
  | 66 => some (.agg #[.int .i64 0, .int .i64 0])
  | 67 => some (.agg #[.int .i64 0, .int .i64 0])
  | 69 => some (.nilFunc)
  | 70 => some (.slice none 0 0)
  | 71 => some (.agg #[.slice none 0 0, .slice none 0 0, .slice none 0 0, .int .i64 0, .int .i64 0, .int .i64 0])
  | 72 => some (.agg #[.slice none 0 0, .slice none 0 0, .slice none 0 0, .int .i64 0, .int .i64 0, .int .i64 0])
  | 76 => some (.pointer none)
  | 77 => some (.slice none 0 0)
  | 85 => some (.agg #[.int .i64 0, .int .i64 0, .int .i64 0])
  | 86 => some (.agg #[.int .i64 0, .int .i64 0, .int .i64 0])
  | 87 => some (.pointer none)
  | 99 => some (.slice none 0 0)
  | 100 => some (.agg #[.int .i64 0, .slice none 0 0])
  | 101 => some (.agg #[.int .i64 0, .slice none 0 0])
  | 103 => some (.agg #[.int .i64 0, .int .i64 0, .slice none 0 0, .slice none 0 0])
  | 104 => some (.agg #[.int .i64 0, .int .i64 0, .slice none 0 0, .slice none 0 0])
  | 108 => some (.agg #[.int .i64 0, .int .i64 0, .int .i64 0, .int .i64 0, .int .i64 0, .slice none 0 0, .slice none 0 0, .slice none 0 0, .int .i64 0, .int .i64 0, .int .i64 0, .int .i64 0, .int .i64 0])
  | 109 => some (.agg #[.int .i64 0, .int .i64 0, .int .i64 0, .int .i64 0, .int .i64 0, .slice none 0 0, .slice none 0 0, .slice none 0 0, .int .i64 0, .int .i64 0, .int .i64 0, .int .i64 0, .int .i64 0])
  | 110 => some (.agg #[.int .i64 0, .int .i64 0, .int .i64 0, .int .i64 0])
  | 111 => some (.agg #[.int .i64 0, .int .i64 0, .int .i64 0, .int .i64 0])
  | 118 => some (.agg #[.slice none 0 0, .int .i64 0, .int .i64 0, .bool false])
  | 119 => some (.agg #[.slice none 0 0, .int .i64 0, .int .i64 0, .bool false])
  | 122 => some (.agg #[.int .i64 0, .int .i64 0, .int .i64 0, .int .i64 0])
  | 123 => some (.agg #[.int .i64 0, .int .i64 0, .int .i64 0, .int .i64 0])
  | 124 => some (.nilFunc)
  | 126 => some (.agg #[.int .i64 0, .slice none 0 0, .slice none 0 0])
  | 127 => some (.agg #[.int .i64 0, .slice none 0 0, .slice none 0 0])
  | 128 => some (.slice none 0 0)
  | 131 => some (.agg #[.int .i64 0, .int .i64 0, .int .i64 0, .bool false, .bool false, .int .i64 0])
  | 132 => some (.agg #[.int .i64 0, .int .i64 0, .int .i64 0, .bool false, .bool false, .int .i64 0])
  | 136 => some (.slice none 0 0)
  | 137 => some (.slice none 0 0)
  | 140 => some (.nilFunc)
  | 141 => some (.agg #[.int .i64 0, .int .i64 0])
  | 142 => some (.agg #[.int .i64 0, .int .i64 0])
  | 144 => some (.nilFunc)
  | 145 => some (.nilFunc)
  | 149 => some (.nilFunc)
  | 155 => some (.pointer none)
  | 157 => some (.agg #[.int .i64 0, .int .i64 0])
  | 158 => some (.agg #[.int .i64 0, .int .i64 0])
  | 159 => some (.nilFunc)
  | 164 => some (.nilFunc)
  | 165 => some (.pointer none)
  | 167 => some (.agg #[.int .i64 0, .int .i64 0, .int .i64 0])
  | 168 => some (.agg #[.int .i64 0, .int .i64 0, .int .i64 0])
  | 170 => some (.nilFunc)
  | 178 => some (.slice none 0 0)
  | 179 => some (.agg #[.nilFunc, .slice none 0 0, .int .i64 0])
  | 180 => some (.agg #[.nilFunc, .slice none 0 0, .int .i64 0])
  | 181 => some (.agg #[.int .i64 0, .int .i64 0, .int .i64 0])
  | 182 => some (.agg #[.int .i64 0, .int .i64 0, .int .i64 0])
  | 184 => some (.slice none 0 0)
  | 185 => some (.agg #[.nilFunc, .slice none 0 0, .int .i64 0])
  | 186 => some (.agg #[.nilFunc, .slice none 0 0, .int .i64 0])
  | 187 => some (.agg #[.int .i64 0, .int .i64 0, .int .i64 0, .int .i64 0])
  | 188 => some (.agg #[.int .i64 0, .int .i64 0, .int .i64 0, .int .i64 0])
  | 192 => some (.int .u64 0)
  | 195 => some (.int .i64 0)
  | 202 => some (.int .u32 0)
  | 204 => some (.int .u64 0)
  | 205 => some (.int .u64 0)
  | 209 => some (.pointer none)
  | 211 => some (.pointer none)
  | _ => none
set_option maxHeartbeats 2000000 in
theorem zero_run {t : Nat} {v : _} (h : zeroT t = some v) : ∀ w, (zeroValue t).run Tryz.prog w = .ok v w := by
  unfold zeroT at h
  split at h <;> (try cases h)
  · exact Tryz.zeroValue2
  · exact Tryz.zeroValue3
  · exact Tryz.zeroValue4
  · exact Tryz.zeroValue5
  · exact Tryz.zeroValue6
  · exact Tryz.zeroValue21
  · exact Tryz.zeroValue22
  · exact Tryz.zeroValue23
  · exact Tryz.zeroValue24
  · exact Tryz.zeroValue25
  · exact Tryz.zeroValue26
  · exact Tryz.zeroValue27
  · exact Tryz.zeroValue28
  · exact Tryz.zeroValue29
  · exact Tryz.zeroValue30
  · exact Tryz.zeroValue31
  · exact Tryz.zeroValue32
  · exact Tryz.zeroValue35
  · exact Tryz.zeroValue39
  · exact Tryz.zeroValue40
  · exact Tryz.zeroValue45
  · exact Tryz.zeroValue49
  · exact Tryz.zeroValue50
  · exact Tryz.zeroValue54
  · exact Tryz.zeroValue55
  · exact Tryz.zeroValue56
  · exact Tryz.zeroValue59
  · exact Tryz.zeroValue61
  · exact Tryz.zeroValue62
  · exact Tryz.zeroValue63
  · exact Tryz.zeroValue64
  · exact Tryz.zeroValue66
  · exact Tryz.zeroValue67
  · exact Tryz.zeroValue69
  · exact Tryz.zeroValue70
  · exact Tryz.zeroValue71
  · exact Tryz.zeroValue72
  · exact Tryz.zeroValue76
  · exact Tryz.zeroValue77
  · exact Tryz.zeroValue85
  · exact Tryz.zeroValue86
  · exact Tryz.zeroValue87
  · exact Tryz.zeroValue99
  · exact Tryz.zeroValue100
  · exact Tryz.zeroValue101
  · exact Tryz.zeroValue103
  · exact Tryz.zeroValue104
  · exact Tryz.zeroValue108
  · exact Tryz.zeroValue109
  · exact Tryz.zeroValue110
  · exact Tryz.zeroValue111
  · exact Tryz.zeroValue118
  · exact Tryz.zeroValue119
  · exact Tryz.zeroValue122
  · exact Tryz.zeroValue123
  · exact Tryz.zeroValue124
  · exact Tryz.zeroValue126
  · exact Tryz.zeroValue127
  · exact Tryz.zeroValue128
  · exact Tryz.zeroValue131
  · exact Tryz.zeroValue132
  · exact Tryz.zeroValue136
  · exact Tryz.zeroValue137
  · exact Tryz.zeroValue140
  · exact Tryz.zeroValue141
  · exact Tryz.zeroValue142
  · exact Tryz.zeroValue144
  · exact Tryz.zeroValue145
  · exact Tryz.zeroValue149
  · exact Tryz.zeroValue155
  · exact Tryz.zeroValue157
  · exact Tryz.zeroValue158
  · exact Tryz.zeroValue159
  · exact Tryz.zeroValue164
  · exact Tryz.zeroValue165
  · exact Tryz.zeroValue167
  · exact Tryz.zeroValue168
  · exact Tryz.zeroValue170
  · exact Tryz.zeroValue178
  · exact Tryz.zeroValue179
  · exact Tryz.zeroValue180
  · exact Tryz.zeroValue181
  · exact Tryz.zeroValue182
  · exact Tryz.zeroValue184
  · exact Tryz.zeroValue185
  · exact Tryz.zeroValue186
  · exact Tryz.zeroValue187
  · exact Tryz.zeroValue188
  · exact Tryz.zeroValue192
  · exact Tryz.zeroValue195
  · exact Tryz.zeroValue202
  · exact Tryz.zeroValue204
  · exact Tryz.zeroValue205
  · exact Tryz.zeroValue209
  · exact Tryz.zeroValue211
def fldT24 : Nat → Option Nat
  | 0 => some 0
  | 1 => some 1
  | _ => none
def fldT28 : Nat → Option Nat
  | 0 => some 0
  | 1 => some 2
  | 2 => some 3
  | 3 => some 4
  | _ => none
def fldT32 : Nat → Option Nat
  | 0 => some 0
  | 1 => some 1
  | _ => none
def fldT40 : Nat → Option Nat
  | 0 => some 0
  | 1 => some 1
  | 2 => some 2
  | 3 => some 3
  | _ => none
def fldT50 : Nat → Option Nat
  | 0 => some 0
  | 1 => some 1
  | _ => none
def fldT56 : Nat → Option Nat
  | 0 => some 0
  | 1 => some 5
  | _ => none
def fldT62 : Nat → Option Nat
  | 0 => some 0
  | 1 => some 1
  | _ => none
def fldT64 : Nat → Option Nat
  | 0 => some 0
  | 1 => some 1
  | 2 => some 2
  | _ => none
def fldT67 : Nat → Option Nat
  | 0 => some 0
  | 1 => some 1
  | _ => none
def fldT72 : Nat → Option Nat
  | 0 => some 0
  | 1 => some 1
  | 2 => some 2
  | 3 => some 3
  | 4 => some 4
  | 5 => some 5
  | _ => none
def fldT86 : Nat → Option Nat
  | 0 => some 0
  | 1 => some 1
  | 2 => some 2
  | _ => none
def fldT101 : Nat → Option Nat
  | 0 => some 0
  | 1 => some 1
  | _ => none
def fldT104 : Nat → Option Nat
  | 0 => some 0
  | 1 => some 1
  | 2 => some 2
  | 3 => some 3
  | _ => none
def fldT109 : Nat → Option Nat
  | 0 => some 0
  | 1 => some 4
  | 2 => some 9
  | 3 => some 10
  | 4 => some 11
  | 5 => some 12
  | _ => none
def fldT111 : Nat → Option Nat
  | 0 => some 0
  | 1 => some 1
  | 2 => some 2
  | 3 => some 3
  | _ => none
def fldT119 : Nat → Option Nat
  | 0 => some 0
  | 1 => some 1
  | 2 => some 2
  | 3 => some 3
  | _ => none
def fldT123 : Nat → Option Nat
  | 0 => some 0
  | 1 => some 1
  | 2 => some 2
  | 3 => some 3
  | _ => none
def fldT127 : Nat → Option Nat
  | 0 => some 0
  | 1 => some 2
  | _ => none
def fldT132 : Nat → Option Nat
  | 0 => some 0
  | 1 => some 1
  | 2 => some 2
  | 3 => some 3
  | 4 => some 4
  | 5 => some 5
  | _ => none
def fldT142 : Nat → Option Nat
  | 0 => some 0
  | 1 => some 1
  | _ => none
def fldT158 : Nat → Option Nat
  | 0 => some 0
  | 1 => some 1
  | _ => none
def fldT168 : Nat → Option Nat
  | 0 => some 0
  | 1 => some 1
  | _ => none
def fldT180 : Nat → Option Nat
  | 0 => some 0
  | 1 => some 1
  | 2 => some 2
  | _ => none
def fldT182 : Nat → Option Nat
  | 0 => some 0
  | 1 => some 2
  | _ => none
def fldT186 : Nat → Option Nat
  | 0 => some 0
  | 1 => some 1
  | 2 => some 2
  | _ => none
def fldT188 : Nat → Option Nat
  | 0 => some 0
  | 1 => some 3
  | _ => none
def fldT : Nat → Nat → Option Nat
  | 24, j => fldT24 j
  | 28, j => fldT28 j
  | 32, j => fldT32 j
  | 40, j => fldT40 j
  | 50, j => fldT50 j
  | 56, j => fldT56 j
  | 62, j => fldT62 j
  | 64, j => fldT64 j
  | 67, j => fldT67 j
  | 72, j => fldT72 j
  | 86, j => fldT86 j
  | 101, j => fldT101 j
  | 104, j => fldT104 j
  | 109, j => fldT109 j
  | 111, j => fldT111 j
  | 119, j => fldT119 j
  | 123, j => fldT123 j
  | 127, j => fldT127 j
  | 132, j => fldT132 j
  | 142, j => fldT142 j
  | 158, j => fldT158 j
  | 168, j => fldT168 j
  | 180, j => fldT180 j
  | 182, j => fldT182 j
  | 186, j => fldT186 j
  | 188, j => fldT188 j
  | _, _ => none
theorem fld_24_0 : ∀ b o w, (Instr.fieldAt 24 (.pointer (some ⟨b, o, none⟩)) 0).run Tryz.prog w = .ok (.pointer (some ⟨b, o + 0, none⟩)) w := fieldAt_run Tryz.runUnderlying24 rfl Tryz.sizeOf3 rfl rfl
theorem fld_24_1 : ∀ b o w, (Instr.fieldAt 24 (.pointer (some ⟨b, o, none⟩)) 1).run Tryz.prog w = .ok (.pointer (some ⟨b, o + 1, none⟩)) w := fieldAt_run Tryz.runUnderlying24 rfl Tryz.sizeOf22 rfl rfl
theorem fld_28_0 : ∀ b o w, (Instr.fieldAt 28 (.pointer (some ⟨b, o, none⟩)) 0).run Tryz.prog w = .ok (.pointer (some ⟨b, o + 0, none⟩)) w := fieldAt_run Tryz.runUnderlying28 rfl Tryz.sizeOf24 rfl rfl
theorem fld_28_1 : ∀ b o w, (Instr.fieldAt 28 (.pointer (some ⟨b, o, none⟩)) 1).run Tryz.prog w = .ok (.pointer (some ⟨b, o + 2, none⟩)) w := fieldAt_run Tryz.runUnderlying28 rfl Tryz.sizeOf25 rfl rfl
theorem fld_28_2 : ∀ b o w, (Instr.fieldAt 28 (.pointer (some ⟨b, o, none⟩)) 2).run Tryz.prog w = .ok (.pointer (some ⟨b, o + 3, none⟩)) w := fieldAt_run Tryz.runUnderlying28 rfl Tryz.sizeOf26 rfl rfl
theorem fld_28_3 : ∀ b o w, (Instr.fieldAt 28 (.pointer (some ⟨b, o, none⟩)) 3).run Tryz.prog w = .ok (.pointer (some ⟨b, o + 4, none⟩)) w := fieldAt_run Tryz.runUnderlying28 rfl Tryz.sizeOf3 rfl rfl
theorem fld_32_0 : ∀ b o w, (Instr.fieldAt 32 (.pointer (some ⟨b, o, none⟩)) 0).run Tryz.prog w = .ok (.pointer (some ⟨b, o + 0, none⟩)) w := fieldAt_run Tryz.runUnderlying32 rfl Tryz.sizeOf29 rfl rfl
theorem fld_32_1 : ∀ b o w, (Instr.fieldAt 32 (.pointer (some ⟨b, o, none⟩)) 1).run Tryz.prog w = .ok (.pointer (some ⟨b, o + 1, none⟩)) w := fieldAt_run Tryz.runUnderlying32 rfl Tryz.sizeOf30 rfl rfl
theorem fld_40_0 : ∀ b o w, (Instr.fieldAt 40 (.pointer (some ⟨b, o, none⟩)) 0).run Tryz.prog w = .ok (.pointer (some ⟨b, o + 0, none⟩)) w := fieldAt_run Tryz.runUnderlying40 rfl Tryz.sizeOf3 rfl rfl
theorem fld_40_1 : ∀ b o w, (Instr.fieldAt 40 (.pointer (some ⟨b, o, none⟩)) 1).run Tryz.prog w = .ok (.pointer (some ⟨b, o + 1, none⟩)) w := fieldAt_run Tryz.runUnderlying40 rfl Tryz.sizeOf3 rfl rfl
theorem fld_40_2 : ∀ b o w, (Instr.fieldAt 40 (.pointer (some ⟨b, o, none⟩)) 2).run Tryz.prog w = .ok (.pointer (some ⟨b, o + 2, none⟩)) w := fieldAt_run Tryz.runUnderlying40 rfl Tryz.sizeOf30 rfl rfl
theorem fld_40_3 : ∀ b o w, (Instr.fieldAt 40 (.pointer (some ⟨b, o, none⟩)) 3).run Tryz.prog w = .ok (.pointer (some ⟨b, o + 3, none⟩)) w := fieldAt_run Tryz.runUnderlying40 rfl Tryz.sizeOf30 rfl rfl
theorem fld_50_0 : ∀ b o w, (Instr.fieldAt 50 (.pointer (some ⟨b, o, none⟩)) 0).run Tryz.prog w = .ok (.pointer (some ⟨b, o + 0, none⟩)) w := fieldAt_run Tryz.runUnderlying50 rfl Tryz.sizeOf3 rfl rfl
theorem fld_50_1 : ∀ b o w, (Instr.fieldAt 50 (.pointer (some ⟨b, o, none⟩)) 1).run Tryz.prog w = .ok (.pointer (some ⟨b, o + 1, none⟩)) w := fieldAt_run Tryz.runUnderlying50 rfl Tryz.sizeOf30 rfl rfl
theorem fld_56_0 : ∀ b o w, (Instr.fieldAt 56 (.pointer (some ⟨b, o, none⟩)) 0).run Tryz.prog w = .ok (.pointer (some ⟨b, o + 0, none⟩)) w := fieldAt_run Tryz.runUnderlying56 rfl Tryz.sizeOf28 rfl rfl
theorem fld_56_1 : ∀ b o w, (Instr.fieldAt 56 (.pointer (some ⟨b, o, none⟩)) 1).run Tryz.prog w = .ok (.pointer (some ⟨b, o + 5, none⟩)) w := fieldAt_run Tryz.runUnderlying56 rfl Tryz.sizeOf54 rfl rfl
theorem fld_62_0 : ∀ b o w, (Instr.fieldAt 62 (.pointer (some ⟨b, o, none⟩)) 0).run Tryz.prog w = .ok (.pointer (some ⟨b, o + 0, none⟩)) w := fieldAt_run Tryz.runUnderlying62 rfl Tryz.sizeOf3 rfl rfl
theorem fld_62_1 : ∀ b o w, (Instr.fieldAt 62 (.pointer (some ⟨b, o, none⟩)) 1).run Tryz.prog w = .ok (.pointer (some ⟨b, o + 1, none⟩)) w := fieldAt_run Tryz.runUnderlying62 rfl Tryz.sizeOf3 rfl rfl
theorem fld_64_0 : ∀ b o w, (Instr.fieldAt 64 (.pointer (some ⟨b, o, none⟩)) 0).run Tryz.prog w = .ok (.pointer (some ⟨b, o + 0, none⟩)) w := fieldAt_run Tryz.runUnderlying64 rfl Tryz.sizeOf3 rfl rfl
theorem fld_64_1 : ∀ b o w, (Instr.fieldAt 64 (.pointer (some ⟨b, o, none⟩)) 1).run Tryz.prog w = .ok (.pointer (some ⟨b, o + 1, none⟩)) w := fieldAt_run Tryz.runUnderlying64 rfl Tryz.sizeOf3 rfl rfl
theorem fld_64_2 : ∀ b o w, (Instr.fieldAt 64 (.pointer (some ⟨b, o, none⟩)) 2).run Tryz.prog w = .ok (.pointer (some ⟨b, o + 2, none⟩)) w := fieldAt_run Tryz.runUnderlying64 rfl Tryz.sizeOf62 rfl rfl
theorem fld_67_0 : ∀ b o w, (Instr.fieldAt 67 (.pointer (some ⟨b, o, none⟩)) 0).run Tryz.prog w = .ok (.pointer (some ⟨b, o + 0, none⟩)) w := fieldAt_run Tryz.runUnderlying67 rfl Tryz.sizeOf3 rfl rfl
theorem fld_67_1 : ∀ b o w, (Instr.fieldAt 67 (.pointer (some ⟨b, o, none⟩)) 1).run Tryz.prog w = .ok (.pointer (some ⟨b, o + 1, none⟩)) w := fieldAt_run Tryz.runUnderlying67 rfl Tryz.sizeOf3 rfl rfl
theorem fld_72_0 : ∀ b o w, (Instr.fieldAt 72 (.pointer (some ⟨b, o, none⟩)) 0).run Tryz.prog w = .ok (.pointer (some ⟨b, o + 0, none⟩)) w := fieldAt_run Tryz.runUnderlying72 rfl Tryz.sizeOf26 rfl rfl
theorem fld_72_1 : ∀ b o w, (Instr.fieldAt 72 (.pointer (some ⟨b, o, none⟩)) 1).run Tryz.prog w = .ok (.pointer (some ⟨b, o + 1, none⟩)) w := fieldAt_run Tryz.runUnderlying72 rfl Tryz.sizeOf26 rfl rfl
theorem fld_72_2 : ∀ b o w, (Instr.fieldAt 72 (.pointer (some ⟨b, o, none⟩)) 2).run Tryz.prog w = .ok (.pointer (some ⟨b, o + 2, none⟩)) w := fieldAt_run Tryz.runUnderlying72 rfl Tryz.sizeOf70 rfl rfl
theorem fld_72_3 : ∀ b o w, (Instr.fieldAt 72 (.pointer (some ⟨b, o, none⟩)) 3).run Tryz.prog w = .ok (.pointer (some ⟨b, o + 3, none⟩)) w := fieldAt_run Tryz.runUnderlying72 rfl Tryz.sizeOf3 rfl rfl
theorem fld_72_4 : ∀ b o w, (Instr.fieldAt 72 (.pointer (some ⟨b, o, none⟩)) 4).run Tryz.prog w = .ok (.pointer (some ⟨b, o + 4, none⟩)) w := fieldAt_run Tryz.runUnderlying72 rfl Tryz.sizeOf3 rfl rfl
theorem fld_72_5 : ∀ b o w, (Instr.fieldAt 72 (.pointer (some ⟨b, o, none⟩)) 5).run Tryz.prog w = .ok (.pointer (some ⟨b, o + 5, none⟩)) w := fieldAt_run Tryz.runUnderlying72 rfl Tryz.sizeOf3 rfl rfl
theorem fld_86_0 : ∀ b o w, (Instr.fieldAt 86 (.pointer (some ⟨b, o, none⟩)) 0).run Tryz.prog w = .ok (.pointer (some ⟨b, o + 0, none⟩)) w := fieldAt_run Tryz.runUnderlying86 rfl Tryz.sizeOf3 rfl rfl
theorem fld_86_1 : ∀ b o w, (Instr.fieldAt 86 (.pointer (some ⟨b, o, none⟩)) 1).run Tryz.prog w = .ok (.pointer (some ⟨b, o + 1, none⟩)) w := fieldAt_run Tryz.runUnderlying86 rfl Tryz.sizeOf3 rfl rfl
theorem fld_86_2 : ∀ b o w, (Instr.fieldAt 86 (.pointer (some ⟨b, o, none⟩)) 2).run Tryz.prog w = .ok (.pointer (some ⟨b, o + 2, none⟩)) w := fieldAt_run Tryz.runUnderlying86 rfl Tryz.sizeOf3 rfl rfl
theorem fld_101_0 : ∀ b o w, (Instr.fieldAt 101 (.pointer (some ⟨b, o, none⟩)) 0).run Tryz.prog w = .ok (.pointer (some ⟨b, o + 0, none⟩)) w := fieldAt_run Tryz.runUnderlying101 rfl Tryz.sizeOf3 rfl rfl
theorem fld_101_1 : ∀ b o w, (Instr.fieldAt 101 (.pointer (some ⟨b, o, none⟩)) 1).run Tryz.prog w = .ok (.pointer (some ⟨b, o + 1, none⟩)) w := fieldAt_run Tryz.runUnderlying101 rfl Tryz.sizeOf99 rfl rfl
theorem fld_104_0 : ∀ b o w, (Instr.fieldAt 104 (.pointer (some ⟨b, o, none⟩)) 0).run Tryz.prog w = .ok (.pointer (some ⟨b, o + 0, none⟩)) w := fieldAt_run Tryz.runUnderlying104 rfl Tryz.sizeOf3 rfl rfl
theorem fld_104_1 : ∀ b o w, (Instr.fieldAt 104 (.pointer (some ⟨b, o, none⟩)) 1).run Tryz.prog w = .ok (.pointer (some ⟨b, o + 1, none⟩)) w := fieldAt_run Tryz.runUnderlying104 rfl Tryz.sizeOf3 rfl rfl
theorem fld_104_2 : ∀ b o w, (Instr.fieldAt 104 (.pointer (some ⟨b, o, none⟩)) 2).run Tryz.prog w = .ok (.pointer (some ⟨b, o + 2, none⟩)) w := fieldAt_run Tryz.runUnderlying104 rfl Tryz.sizeOf30 rfl rfl
theorem fld_104_3 : ∀ b o w, (Instr.fieldAt 104 (.pointer (some ⟨b, o, none⟩)) 3).run Tryz.prog w = .ok (.pointer (some ⟨b, o + 3, none⟩)) w := fieldAt_run Tryz.runUnderlying104 rfl Tryz.sizeOf30 rfl rfl
theorem fld_109_0 : ∀ b o w, (Instr.fieldAt 109 (.pointer (some ⟨b, o, none⟩)) 0).run Tryz.prog w = .ok (.pointer (some ⟨b, o + 0, none⟩)) w := fieldAt_run Tryz.runUnderlying109 rfl Tryz.sizeOf64 rfl rfl
theorem fld_109_1 : ∀ b o w, (Instr.fieldAt 109 (.pointer (some ⟨b, o, none⟩)) 1).run Tryz.prog w = .ok (.pointer (some ⟨b, o + 4, none⟩)) w := fieldAt_run Tryz.runUnderlying109 rfl Tryz.sizeOf28 rfl rfl
theorem fld_109_2 : ∀ b o w, (Instr.fieldAt 109 (.pointer (some ⟨b, o, none⟩)) 2).run Tryz.prog w = .ok (.pointer (some ⟨b, o + 9, none⟩)) w := fieldAt_run Tryz.runUnderlying109 rfl Tryz.sizeOf3 rfl rfl
theorem fld_109_3 : ∀ b o w, (Instr.fieldAt 109 (.pointer (some ⟨b, o, none⟩)) 3).run Tryz.prog w = .ok (.pointer (some ⟨b, o + 10, none⟩)) w := fieldAt_run Tryz.runUnderlying109 rfl Tryz.sizeOf3 rfl rfl
theorem fld_109_4 : ∀ b o w, (Instr.fieldAt 109 (.pointer (some ⟨b, o, none⟩)) 4).run Tryz.prog w = .ok (.pointer (some ⟨b, o + 11, none⟩)) w := fieldAt_run Tryz.runUnderlying109 rfl Tryz.sizeOf3 rfl rfl
theorem fld_109_5 : ∀ b o w, (Instr.fieldAt 109 (.pointer (some ⟨b, o, none⟩)) 5).run Tryz.prog w = .ok (.pointer (some ⟨b, o + 12, none⟩)) w := fieldAt_run Tryz.runUnderlying109 rfl Tryz.sizeOf3 rfl rfl
theorem fld_111_0 : ∀ b o w, (Instr.fieldAt 111 (.pointer (some ⟨b, o, none⟩)) 0).run Tryz.prog w = .ok (.pointer (some ⟨b, o + 0, none⟩)) w := fieldAt_run Tryz.runUnderlying111 rfl Tryz.sizeOf3 rfl rfl
theorem fld_111_1 : ∀ b o w, (Instr.fieldAt 111 (.pointer (some ⟨b, o, none⟩)) 1).run Tryz.prog w = .ok (.pointer (some ⟨b, o + 1, none⟩)) w := fieldAt_run Tryz.runUnderlying111 rfl Tryz.sizeOf3 rfl rfl
theorem fld_111_2 : ∀ b o w, (Instr.fieldAt 111 (.pointer (some ⟨b, o, none⟩)) 2).run Tryz.prog w = .ok (.pointer (some ⟨b, o + 2, none⟩)) w := fieldAt_run Tryz.runUnderlying111 rfl Tryz.sizeOf3 rfl rfl
theorem fld_111_3 : ∀ b o w, (Instr.fieldAt 111 (.pointer (some ⟨b, o, none⟩)) 3).run Tryz.prog w = .ok (.pointer (some ⟨b, o + 3, none⟩)) w := fieldAt_run Tryz.runUnderlying111 rfl Tryz.sizeOf3 rfl rfl
theorem fld_119_0 : ∀ b o w, (Instr.fieldAt 119 (.pointer (some ⟨b, o, none⟩)) 0).run Tryz.prog w = .ok (.pointer (some ⟨b, o + 0, none⟩)) w := fieldAt_run Tryz.runUnderlying119 rfl Tryz.sizeOf30 rfl rfl
theorem fld_119_1 : ∀ b o w, (Instr.fieldAt 119 (.pointer (some ⟨b, o, none⟩)) 1).run Tryz.prog w = .ok (.pointer (some ⟨b, o + 1, none⟩)) w := fieldAt_run Tryz.runUnderlying119 rfl Tryz.sizeOf3 rfl rfl
theorem fld_119_2 : ∀ b o w, (Instr.fieldAt 119 (.pointer (some ⟨b, o, none⟩)) 2).run Tryz.prog w = .ok (.pointer (some ⟨b, o + 2, none⟩)) w := fieldAt_run Tryz.runUnderlying119 rfl Tryz.sizeOf3 rfl rfl
theorem fld_119_3 : ∀ b o w, (Instr.fieldAt 119 (.pointer (some ⟨b, o, none⟩)) 3).run Tryz.prog w = .ok (.pointer (some ⟨b, o + 3, none⟩)) w := fieldAt_run Tryz.runUnderlying119 rfl Tryz.sizeOf4 rfl rfl
theorem fld_123_0 : ∀ b o w, (Instr.fieldAt 123 (.pointer (some ⟨b, o, none⟩)) 0).run Tryz.prog w = .ok (.pointer (some ⟨b, o + 0, none⟩)) w := fieldAt_run Tryz.runUnderlying123 rfl Tryz.sizeOf3 rfl rfl
theorem fld_123_1 : ∀ b o w, (Instr.fieldAt 123 (.pointer (some ⟨b, o, none⟩)) 1).run Tryz.prog w = .ok (.pointer (some ⟨b, o + 1, none⟩)) w := fieldAt_run Tryz.runUnderlying123 rfl Tryz.sizeOf3 rfl rfl
theorem fld_123_2 : ∀ b o w, (Instr.fieldAt 123 (.pointer (some ⟨b, o, none⟩)) 2).run Tryz.prog w = .ok (.pointer (some ⟨b, o + 2, none⟩)) w := fieldAt_run Tryz.runUnderlying123 rfl Tryz.sizeOf3 rfl rfl
theorem fld_123_3 : ∀ b o w, (Instr.fieldAt 123 (.pointer (some ⟨b, o, none⟩)) 3).run Tryz.prog w = .ok (.pointer (some ⟨b, o + 3, none⟩)) w := fieldAt_run Tryz.runUnderlying123 rfl Tryz.sizeOf3 rfl rfl
theorem fld_127_0 : ∀ b o w, (Instr.fieldAt 127 (.pointer (some ⟨b, o, none⟩)) 0).run Tryz.prog w = .ok (.pointer (some ⟨b, o + 0, none⟩)) w := fieldAt_run Tryz.runUnderlying127 rfl Tryz.sizeOf101 rfl rfl
theorem fld_127_1 : ∀ b o w, (Instr.fieldAt 127 (.pointer (some ⟨b, o, none⟩)) 1).run Tryz.prog w = .ok (.pointer (some ⟨b, o + 2, none⟩)) w := fieldAt_run Tryz.runUnderlying127 rfl Tryz.sizeOf30 rfl rfl
theorem fld_132_0 : ∀ b o w, (Instr.fieldAt 132 (.pointer (some ⟨b, o, none⟩)) 0).run Tryz.prog w = .ok (.pointer (some ⟨b, o + 0, none⟩)) w := fieldAt_run Tryz.runUnderlying132 rfl Tryz.sizeOf3 rfl rfl
theorem fld_132_1 : ∀ b o w, (Instr.fieldAt 132 (.pointer (some ⟨b, o, none⟩)) 1).run Tryz.prog w = .ok (.pointer (some ⟨b, o + 1, none⟩)) w := fieldAt_run Tryz.runUnderlying132 rfl Tryz.sizeOf3 rfl rfl
theorem fld_132_2 : ∀ b o w, (Instr.fieldAt 132 (.pointer (some ⟨b, o, none⟩)) 2).run Tryz.prog w = .ok (.pointer (some ⟨b, o + 2, none⟩)) w := fieldAt_run Tryz.runUnderlying132 rfl Tryz.sizeOf3 rfl rfl
theorem fld_132_3 : ∀ b o w, (Instr.fieldAt 132 (.pointer (some ⟨b, o, none⟩)) 3).run Tryz.prog w = .ok (.pointer (some ⟨b, o + 3, none⟩)) w := fieldAt_run Tryz.runUnderlying132 rfl Tryz.sizeOf4 rfl rfl
theorem fld_132_4 : ∀ b o w, (Instr.fieldAt 132 (.pointer (some ⟨b, o, none⟩)) 4).run Tryz.prog w = .ok (.pointer (some ⟨b, o + 4, none⟩)) w := fieldAt_run Tryz.runUnderlying132 rfl Tryz.sizeOf4 rfl rfl
theorem fld_132_5 : ∀ b o w, (Instr.fieldAt 132 (.pointer (some ⟨b, o, none⟩)) 5).run Tryz.prog w = .ok (.pointer (some ⟨b, o + 5, none⟩)) w := fieldAt_run Tryz.runUnderlying132 rfl Tryz.sizeOf3 rfl rfl
theorem fld_142_0 : ∀ b o w, (Instr.fieldAt 142 (.pointer (some ⟨b, o, none⟩)) 0).run Tryz.prog w = .ok (.pointer (some ⟨b, o + 0, none⟩)) w := fieldAt_run Tryz.runUnderlying142 rfl Tryz.sizeOf3 rfl rfl
theorem fld_142_1 : ∀ b o w, (Instr.fieldAt 142 (.pointer (some ⟨b, o, none⟩)) 1).run Tryz.prog w = .ok (.pointer (some ⟨b, o + 1, none⟩)) w := fieldAt_run Tryz.runUnderlying142 rfl Tryz.sizeOf3 rfl rfl
theorem fld_158_0 : ∀ b o w, (Instr.fieldAt 158 (.pointer (some ⟨b, o, none⟩)) 0).run Tryz.prog w = .ok (.pointer (some ⟨b, o + 0, none⟩)) w := fieldAt_run Tryz.runUnderlying158 rfl Tryz.sizeOf3 rfl rfl
theorem fld_158_1 : ∀ b o w, (Instr.fieldAt 158 (.pointer (some ⟨b, o, none⟩)) 1).run Tryz.prog w = .ok (.pointer (some ⟨b, o + 1, none⟩)) w := fieldAt_run Tryz.runUnderlying158 rfl Tryz.sizeOf3 rfl rfl
theorem fld_168_0 : ∀ b o w, (Instr.fieldAt 168 (.pointer (some ⟨b, o, none⟩)) 0).run Tryz.prog w = .ok (.pointer (some ⟨b, o + 0, none⟩)) w := fieldAt_run Tryz.runUnderlying168 rfl Tryz.sizeOf3 rfl rfl
theorem fld_168_1 : ∀ b o w, (Instr.fieldAt 168 (.pointer (some ⟨b, o, none⟩)) 1).run Tryz.prog w = .ok (.pointer (some ⟨b, o + 1, none⟩)) w := fieldAt_run Tryz.runUnderlying168 rfl Tryz.sizeOf142 rfl rfl
theorem fld_180_0 : ∀ b o w, (Instr.fieldAt 180 (.pointer (some ⟨b, o, none⟩)) 0).run Tryz.prog w = .ok (.pointer (some ⟨b, o + 0, none⟩)) w := fieldAt_run Tryz.runUnderlying180 rfl Tryz.sizeOf159 rfl rfl
theorem fld_180_1 : ∀ b o w, (Instr.fieldAt 180 (.pointer (some ⟨b, o, none⟩)) 1).run Tryz.prog w = .ok (.pointer (some ⟨b, o + 1, none⟩)) w := fieldAt_run Tryz.runUnderlying180 rfl Tryz.sizeOf178 rfl rfl
theorem fld_180_2 : ∀ b o w, (Instr.fieldAt 180 (.pointer (some ⟨b, o, none⟩)) 2).run Tryz.prog w = .ok (.pointer (some ⟨b, o + 2, none⟩)) w := fieldAt_run Tryz.runUnderlying180 rfl Tryz.sizeOf3 rfl rfl
theorem fld_182_0 : ∀ b o w, (Instr.fieldAt 182 (.pointer (some ⟨b, o, none⟩)) 0).run Tryz.prog w = .ok (.pointer (some ⟨b, o + 0, none⟩)) w := fieldAt_run Tryz.runUnderlying182 rfl Tryz.sizeOf158 rfl rfl
theorem fld_182_1 : ∀ b o w, (Instr.fieldAt 182 (.pointer (some ⟨b, o, none⟩)) 1).run Tryz.prog w = .ok (.pointer (some ⟨b, o + 2, none⟩)) w := fieldAt_run Tryz.runUnderlying182 rfl Tryz.sizeOf3 rfl rfl
theorem fld_186_0 : ∀ b o w, (Instr.fieldAt 186 (.pointer (some ⟨b, o, none⟩)) 0).run Tryz.prog w = .ok (.pointer (some ⟨b, o + 0, none⟩)) w := fieldAt_run Tryz.runUnderlying186 rfl Tryz.sizeOf170 rfl rfl
theorem fld_186_1 : ∀ b o w, (Instr.fieldAt 186 (.pointer (some ⟨b, o, none⟩)) 1).run Tryz.prog w = .ok (.pointer (some ⟨b, o + 1, none⟩)) w := fieldAt_run Tryz.runUnderlying186 rfl Tryz.sizeOf184 rfl rfl
theorem fld_186_2 : ∀ b o w, (Instr.fieldAt 186 (.pointer (some ⟨b, o, none⟩)) 2).run Tryz.prog w = .ok (.pointer (some ⟨b, o + 2, none⟩)) w := fieldAt_run Tryz.runUnderlying186 rfl Tryz.sizeOf3 rfl rfl
theorem fld_188_0 : ∀ b o w, (Instr.fieldAt 188 (.pointer (some ⟨b, o, none⟩)) 0).run Tryz.prog w = .ok (.pointer (some ⟨b, o + 0, none⟩)) w := fieldAt_run Tryz.runUnderlying188 rfl Tryz.sizeOf168 rfl rfl
theorem fld_188_1 : ∀ b o w, (Instr.fieldAt 188 (.pointer (some ⟨b, o, none⟩)) 1).run Tryz.prog w = .ok (.pointer (some ⟨b, o + 3, none⟩)) w := fieldAt_run Tryz.runUnderlying188 rfl Tryz.sizeOf3 rfl rfl
theorem fldr_24 {k off : Nat} (h : fldT24 k = some off) : ∀ b o w, (Instr.fieldAt 24 (.pointer (some ⟨b, o, none⟩)) k).run Tryz.prog w = .ok (.pointer (some ⟨b, o + off, none⟩)) w := by
  unfold fldT24 at h
  split at h <;> (try cases h)
  · exact fld_24_0
  · exact fld_24_1
theorem fldr_28 {k off : Nat} (h : fldT28 k = some off) : ∀ b o w, (Instr.fieldAt 28 (.pointer (some ⟨b, o, none⟩)) k).run Tryz.prog w = .ok (.pointer (some ⟨b, o + off, none⟩)) w := by
  unfold fldT28 at h
  split at h <;> (try cases h)
  · exact fld_28_0
  · exact fld_28_1
  · exact fld_28_2
  · exact fld_28_3
theorem fldr_32 {k off : Nat} (h : fldT32 k = some off) : ∀ b o w, (Instr.fieldAt 32 (.pointer (some ⟨b, o, none⟩)) k).run Tryz.prog w = .ok (.pointer (some ⟨b, o + off, none⟩)) w := by
  unfold fldT32 at h
  split at h <;> (try cases h)
  · exact fld_32_0
  · exact fld_32_1
theorem fldr_40 {k off : Nat} (h : fldT40 k = some off) : ∀ b o w, (Instr.fieldAt 40 (.pointer (some ⟨b, o, none⟩)) k).run Tryz.prog w = .ok (.pointer (some ⟨b, o + off, none⟩)) w := by
  unfold fldT40 at h
  split at h <;> (try cases h)
  · exact fld_40_0
  · exact fld_40_1
  · exact fld_40_2
  · exact fld_40_3
theorem fldr_50 {k off : Nat} (h : fldT50 k = some off) : ∀ b o w, (Instr.fieldAt 50 (.pointer (some ⟨b, o, none⟩)) k).run Tryz.prog w = .ok (.pointer (some ⟨b, o + off, none⟩)) w := by
  unfold fldT50 at h
  split at h <;> (try cases h)
  · exact fld_50_0
  · exact fld_50_1
theorem fldr_56 {k off : Nat} (h : fldT56 k = some off) : ∀ b o w, (Instr.fieldAt 56 (.pointer (some ⟨b, o, none⟩)) k).run Tryz.prog w = .ok (.pointer (some ⟨b, o + off, none⟩)) w := by
  unfold fldT56 at h
  split at h <;> (try cases h)
  · exact fld_56_0
  · exact fld_56_1
theorem fldr_62 {k off : Nat} (h : fldT62 k = some off) : ∀ b o w, (Instr.fieldAt 62 (.pointer (some ⟨b, o, none⟩)) k).run Tryz.prog w = .ok (.pointer (some ⟨b, o + off, none⟩)) w := by
  unfold fldT62 at h
  split at h <;> (try cases h)
  · exact fld_62_0
  · exact fld_62_1
theorem fldr_64 {k off : Nat} (h : fldT64 k = some off) : ∀ b o w, (Instr.fieldAt 64 (.pointer (some ⟨b, o, none⟩)) k).run Tryz.prog w = .ok (.pointer (some ⟨b, o + off, none⟩)) w := by
  unfold fldT64 at h
  split at h <;> (try cases h)
  · exact fld_64_0
  · exact fld_64_1
  · exact fld_64_2
theorem fldr_67 {k off : Nat} (h : fldT67 k = some off) : ∀ b o w, (Instr.fieldAt 67 (.pointer (some ⟨b, o, none⟩)) k).run Tryz.prog w = .ok (.pointer (some ⟨b, o + off, none⟩)) w := by
  unfold fldT67 at h
  split at h <;> (try cases h)
  · exact fld_67_0
  · exact fld_67_1
theorem fldr_72 {k off : Nat} (h : fldT72 k = some off) : ∀ b o w, (Instr.fieldAt 72 (.pointer (some ⟨b, o, none⟩)) k).run Tryz.prog w = .ok (.pointer (some ⟨b, o + off, none⟩)) w := by
  unfold fldT72 at h
  split at h <;> (try cases h)
  · exact fld_72_0
  · exact fld_72_1
  · exact fld_72_2
  · exact fld_72_3
  · exact fld_72_4
  · exact fld_72_5
theorem fldr_86 {k off : Nat} (h : fldT86 k = some off) : ∀ b o w, (Instr.fieldAt 86 (.pointer (some ⟨b, o, none⟩)) k).run Tryz.prog w = .ok (.pointer (some ⟨b, o + off, none⟩)) w := by
  unfold fldT86 at h
  split at h <;> (try cases h)
  · exact fld_86_0
  · exact fld_86_1
  · exact fld_86_2
theorem fldr_101 {k off : Nat} (h : fldT101 k = some off) : ∀ b o w, (Instr.fieldAt 101 (.pointer (some ⟨b, o, none⟩)) k).run Tryz.prog w = .ok (.pointer (some ⟨b, o + off, none⟩)) w := by
  unfold fldT101 at h
  split at h <;> (try cases h)
  · exact fld_101_0
  · exact fld_101_1
theorem fldr_104 {k off : Nat} (h : fldT104 k = some off) : ∀ b o w, (Instr.fieldAt 104 (.pointer (some ⟨b, o, none⟩)) k).run Tryz.prog w = .ok (.pointer (some ⟨b, o + off, none⟩)) w := by
  unfold fldT104 at h
  split at h <;> (try cases h)
  · exact fld_104_0
  · exact fld_104_1
  · exact fld_104_2
  · exact fld_104_3
theorem fldr_109 {k off : Nat} (h : fldT109 k = some off) : ∀ b o w, (Instr.fieldAt 109 (.pointer (some ⟨b, o, none⟩)) k).run Tryz.prog w = .ok (.pointer (some ⟨b, o + off, none⟩)) w := by
  unfold fldT109 at h
  split at h <;> (try cases h)
  · exact fld_109_0
  · exact fld_109_1
  · exact fld_109_2
  · exact fld_109_3
  · exact fld_109_4
  · exact fld_109_5
theorem fldr_111 {k off : Nat} (h : fldT111 k = some off) : ∀ b o w, (Instr.fieldAt 111 (.pointer (some ⟨b, o, none⟩)) k).run Tryz.prog w = .ok (.pointer (some ⟨b, o + off, none⟩)) w := by
  unfold fldT111 at h
  split at h <;> (try cases h)
  · exact fld_111_0
  · exact fld_111_1
  · exact fld_111_2
  · exact fld_111_3
theorem fldr_119 {k off : Nat} (h : fldT119 k = some off) : ∀ b o w, (Instr.fieldAt 119 (.pointer (some ⟨b, o, none⟩)) k).run Tryz.prog w = .ok (.pointer (some ⟨b, o + off, none⟩)) w := by
  unfold fldT119 at h
  split at h <;> (try cases h)
  · exact fld_119_0
  · exact fld_119_1
  · exact fld_119_2
  · exact fld_119_3
theorem fldr_123 {k off : Nat} (h : fldT123 k = some off) : ∀ b o w, (Instr.fieldAt 123 (.pointer (some ⟨b, o, none⟩)) k).run Tryz.prog w = .ok (.pointer (some ⟨b, o + off, none⟩)) w := by
  unfold fldT123 at h
  split at h <;> (try cases h)
  · exact fld_123_0
  · exact fld_123_1
  · exact fld_123_2
  · exact fld_123_3
theorem fldr_127 {k off : Nat} (h : fldT127 k = some off) : ∀ b o w, (Instr.fieldAt 127 (.pointer (some ⟨b, o, none⟩)) k).run Tryz.prog w = .ok (.pointer (some ⟨b, o + off, none⟩)) w := by
  unfold fldT127 at h
  split at h <;> (try cases h)
  · exact fld_127_0
  · exact fld_127_1
theorem fldr_132 {k off : Nat} (h : fldT132 k = some off) : ∀ b o w, (Instr.fieldAt 132 (.pointer (some ⟨b, o, none⟩)) k).run Tryz.prog w = .ok (.pointer (some ⟨b, o + off, none⟩)) w := by
  unfold fldT132 at h
  split at h <;> (try cases h)
  · exact fld_132_0
  · exact fld_132_1
  · exact fld_132_2
  · exact fld_132_3
  · exact fld_132_4
  · exact fld_132_5
theorem fldr_142 {k off : Nat} (h : fldT142 k = some off) : ∀ b o w, (Instr.fieldAt 142 (.pointer (some ⟨b, o, none⟩)) k).run Tryz.prog w = .ok (.pointer (some ⟨b, o + off, none⟩)) w := by
  unfold fldT142 at h
  split at h <;> (try cases h)
  · exact fld_142_0
  · exact fld_142_1
theorem fldr_158 {k off : Nat} (h : fldT158 k = some off) : ∀ b o w, (Instr.fieldAt 158 (.pointer (some ⟨b, o, none⟩)) k).run Tryz.prog w = .ok (.pointer (some ⟨b, o + off, none⟩)) w := by
  unfold fldT158 at h
  split at h <;> (try cases h)
  · exact fld_158_0
  · exact fld_158_1
theorem fldr_168 {k off : Nat} (h : fldT168 k = some off) : ∀ b o w, (Instr.fieldAt 168 (.pointer (some ⟨b, o, none⟩)) k).run Tryz.prog w = .ok (.pointer (some ⟨b, o + off, none⟩)) w := by
  unfold fldT168 at h
  split at h <;> (try cases h)
  · exact fld_168_0
  · exact fld_168_1
theorem fldr_180 {k off : Nat} (h : fldT180 k = some off) : ∀ b o w, (Instr.fieldAt 180 (.pointer (some ⟨b, o, none⟩)) k).run Tryz.prog w = .ok (.pointer (some ⟨b, o + off, none⟩)) w := by
  unfold fldT180 at h
  split at h <;> (try cases h)
  · exact fld_180_0
  · exact fld_180_1
  · exact fld_180_2
theorem fldr_182 {k off : Nat} (h : fldT182 k = some off) : ∀ b o w, (Instr.fieldAt 182 (.pointer (some ⟨b, o, none⟩)) k).run Tryz.prog w = .ok (.pointer (some ⟨b, o + off, none⟩)) w := by
  unfold fldT182 at h
  split at h <;> (try cases h)
  · exact fld_182_0
  · exact fld_182_1
theorem fldr_186 {k off : Nat} (h : fldT186 k = some off) : ∀ b o w, (Instr.fieldAt 186 (.pointer (some ⟨b, o, none⟩)) k).run Tryz.prog w = .ok (.pointer (some ⟨b, o + off, none⟩)) w := by
  unfold fldT186 at h
  split at h <;> (try cases h)
  · exact fld_186_0
  · exact fld_186_1
  · exact fld_186_2
theorem fldr_188 {k off : Nat} (h : fldT188 k = some off) : ∀ b o w, (Instr.fieldAt 188 (.pointer (some ⟨b, o, none⟩)) k).run Tryz.prog w = .ok (.pointer (some ⟨b, o + off, none⟩)) w := by
  unfold fldT188 at h
  split at h <;> (try cases h)
  · exact fld_188_0
  · exact fld_188_1
set_option maxHeartbeats 2000000 in
theorem fld_run {s k off : Nat} (h : fldT s k = some off) : ∀ b o w, (Instr.fieldAt s (.pointer (some ⟨b, o, none⟩)) k).run Tryz.prog w = .ok (.pointer (some ⟨b, o + off, none⟩)) w := by
  unfold fldT at h
  split at h
  · exact fldr_24 h
  · exact fldr_28 h
  · exact fldr_32 h
  · exact fldr_40 h
  · exact fldr_50 h
  · exact fldr_56 h
  · exact fldr_62 h
  · exact fldr_64 h
  · exact fldr_67 h
  · exact fldr_72 h
  · exact fldr_86 h
  · exact fldr_101 h
  · exact fldr_104 h
  · exact fldr_109 h
  · exact fldr_111 h
  · exact fldr_119 h
  · exact fldr_123 h
  · exact fldr_127 h
  · exact fldr_132 h
  · exact fldr_142 h
  · exact fldr_158 h
  · exact fldr_168 h
  · exact fldr_180 h
  · exact fldr_182 h
  · exact fldr_186 h
  · exact fldr_188 h
  · cases h
theorem sl_22 : SlFact Tryz.prog 22 86 3 24 [.int .i64 0, .int .i64 0, .int .i64 0] := SlFact.mk' (z := .agg #[.int .i64 0, .int .i64 0, .int .i64 0]) Tryz.underlying22 (by kernel_rfl) rfl rfl (by decide)
theorem sl_25 : SlFact Tryz.prog 25 64 4 32 [.int .i64 0, .int .i64 0, .int .i64 0, .int .i64 0] := SlFact.mk' (z := .agg #[.int .i64 0, .int .i64 0, .int .i64 0, .int .i64 0]) Tryz.underlying25 (by kernel_rfl) rfl rfl (by decide)
theorem sl_26 : SlFact Tryz.prog 26 67 2 16 [.int .i64 0, .int .i64 0] := SlFact.mk' (z := .agg #[.int .i64 0, .int .i64 0]) Tryz.underlying26 (by kernel_rfl) rfl rfl (by decide)
theorem sl_29 : SlFact Tryz.prog 29 50 2 32 [.int .i64 0, .slice none 0 0] := SlFact.mk' (z := .agg #[.int .i64 0, .slice none 0 0]) Tryz.underlying29 (by kernel_rfl) rfl rfl (by decide)
theorem sl_30 : SlFact Tryz.prog 30 3 1 8 [.int .i64 0] := SlFact.mk' (z := .int .i64 0) Tryz.underlying30 (by kernel_rfl) rfl rfl (by decide)
theorem sl_45 : SlFact Tryz.prog 45 32 2 48 [.slice none 0 0, .slice none 0 0] := SlFact.mk' (z := .agg #[.slice none 0 0, .slice none 0 0]) Tryz.underlying45 (by kernel_rfl) rfl rfl (by decide)
theorem sl_70 : SlFact Tryz.prog 70 30 1 24 [.slice none 0 0] := SlFact.mk' (z := .slice none 0 0) Tryz.underlying70 (by kernel_rfl) rfl rfl (by decide)
theorem sl_77 : SlFact Tryz.prog 77 111 4 32 [.int .i64 0, .int .i64 0, .int .i64 0, .int .i64 0] := SlFact.mk' (z := .agg #[.int .i64 0, .int .i64 0, .int .i64 0, .int .i64 0]) Tryz.underlying77 (by kernel_rfl) rfl rfl (by decide)
theorem sl_99 : SlFact Tryz.prog 99 123 4 32 [.int .i64 0, .int .i64 0, .int .i64 0, .int .i64 0] := SlFact.mk' (z := .agg #[.int .i64 0, .int .i64 0, .int .i64 0, .int .i64 0]) Tryz.underlying99 (by kernel_rfl) rfl rfl (by decide)
theorem sl_128 : SlFact Tryz.prog 128 132 6 40 [.int .i64 0, .int .i64 0, .int .i64 0, .bool false, .bool false, .int .i64 0] := SlFact.mk' (z := .agg #[.int .i64 0, .int .i64 0, .int .i64 0, .bool false, .bool false, .int .i64 0]) Tryz.underlying128 (by kernel_rfl) rfl rfl (by decide)
theorem sl_136 : SlFact Tryz.prog 136 142 2 16 [.int .i64 0, .int .i64 0] := SlFact.mk' (z := .agg #[.int .i64 0, .int .i64 0]) Tryz.underlying136 (by kernel_rfl) rfl rfl (by decide)
theorem sl_137 : SlFact Tryz.prog 137 4 1 1 [.bool false] := SlFact.mk' (z := .bool false) Tryz.underlying137 (by kernel_rfl) rfl rfl (by decide)
theorem sl_178 : SlFact Tryz.prog 178 182 3 24 [.int .i64 0, .int .i64 0, .int .i64 0] := SlFact.mk' (z := .agg #[.int .i64 0, .int .i64 0, .int .i64 0]) Tryz.underlying178 (by kernel_rfl) rfl rfl (by decide)
theorem sl_184 : SlFact Tryz.prog 184 188 4 32 [.int .i64 0, .int .i64 0, .int .i64 0, .int .i64 0] := SlFact.mk' (z := .agg #[.int .i64 0, .int .i64 0, .int .i64 0, .int .i64 0]) Tryz.underlying184 (by kernel_rfl) rfl rfl (by decide)
def slT : Nat → Option (Nat × Nat × Nat × List Value)
  | 22 => some (86, 3, 24, [.int .i64 0, .int .i64 0, .int .i64 0])
  | 25 => some (64, 4, 32, [.int .i64 0, .int .i64 0, .int .i64 0, .int .i64 0])
  | 26 => some (67, 2, 16, [.int .i64 0, .int .i64 0])
  | 29 => some (50, 2, 32, [.int .i64 0, .slice none 0 0])
  | 30 => some (3, 1, 8, [.int .i64 0])
  | 45 => some (32, 2, 48, [.slice none 0 0, .slice none 0 0])
  | 70 => some (30, 1, 24, [.slice none 0 0])
  | 77 => some (111, 4, 32, [.int .i64 0, .int .i64 0, .int .i64 0, .int .i64 0])
  | 99 => some (123, 4, 32, [.int .i64 0, .int .i64 0, .int .i64 0, .int .i64 0])
  | 128 => some (132, 6, 40, [.int .i64 0, .int .i64 0, .int .i64 0, .bool false, .bool false, .int .i64 0])
  | 136 => some (142, 2, 16, [.int .i64 0, .int .i64 0])
  | 137 => some (4, 1, 1, [.bool false])
  | 178 => some (182, 3, 24, [.int .i64 0, .int .i64 0, .int .i64 0])
  | 184 => some (188, 4, 32, [.int .i64 0, .int .i64 0, .int .i64 0, .int .i64 0])
  | _ => none
theorem sl_run {t el sz bt : Nat} {zs : List Value} (h : slT t = some (el, sz, bt, zs)) : SlFact Tryz.prog t el sz bt zs := by
  unfold slT at h
  split at h <;> (try cases h)
  · exact sl_22
  · exact sl_25
  · exact sl_26
  · exact sl_29
  · exact sl_30
  · exact sl_45
  · exact sl_70
  · exact sl_77
  · exact sl_99
  · exact sl_128
  · exact sl_136
  · exact sl_137
  · exact sl_178
  · exact sl_184
set_option maxHeartbeats 1000000 in
theorem bld_24_0_1 {e : Env} {x0 x1 : Operand} {n0 : Int} {A1 : Option Addr} {l1 c1 : Nat} (h0 : ev e x0 = .int .i64 n0) (h1 : ev e x1 = .slice A1 l1 c1) : ∀ w, (Instr.build 24 #[(0, ev e x0), (1, ev e x1)]).run Tryz.prog w = .ok (.agg #[.int .i64 n0, .slice A1 l1 c1]) w := by
  intro w
  rw [h0, h1]
  simp [Instr.build, go_sem]
set_option maxHeartbeats 1000000 in
theorem bld_28_0_2_3 {e : Env} {x0 x1 x2 : Operand} {v0_0 v0_1 : Value} {A1 : Option Addr} {l1 c1 : Nat} {n2 : Int} (h0 : ev e x0 = .agg #[v0_0, v0_1]) (h1 : ev e x1 = .slice A1 l1 c1) (h2 : ev e x2 = .int .i64 n2) : ∀ w, (Instr.build 28 #[(0, ev e x0), (2, ev e x1), (3, ev e x2)]).run Tryz.prog w = .ok (.agg #[v0_0, v0_1, .slice none 0 0, .slice A1 l1 c1, .int .i64 n2]) w := by
  intro w
  rw [h0, h1, h2]
  simp [Instr.build, go_sem]
set_option maxHeartbeats 1000000 in
theorem bld_32_ {e : Env}   : ∀ w, (Instr.build 32 #[]).run Tryz.prog w = .ok (.agg #[.slice none 0 0, .slice none 0 0]) w := by
  intro w
  simp [Instr.build, go_sem]
set_option maxHeartbeats 1000000 in
theorem bld_40_ {e : Env}   : ∀ w, (Instr.build 40 #[]).run Tryz.prog w = .ok (.agg #[.int .i64 0, .int .i64 0, .slice none 0 0, .slice none 0 0]) w := by
  intro w
  simp [Instr.build, go_sem]
set_option maxHeartbeats 1000000 in
theorem bld_40_1_0 {e : Env} {x0 x1 : Operand} {n0 : Int} {n1 : Int} (h0 : ev e x0 = .int .i64 n0) (h1 : ev e x1 = .int .i64 n1) : ∀ w, (Instr.build 40 #[(1, ev e x0), (0, ev e x1)]).run Tryz.prog w = .ok (.agg #[.int .i64 n1, .int .i64 n0, .slice none 0 0, .slice none 0 0]) w := by
  intro w
  rw [h0, h1]
  simp [Instr.build, go_sem]
set_option maxHeartbeats 1000000 in
theorem bld_50_ {e : Env}   : ∀ w, (Instr.build 50 #[]).run Tryz.prog w = .ok (.agg #[.int .i64 0, .slice none 0 0]) w := by
  intro w
  simp [Instr.build, go_sem]
set_option maxHeartbeats 1000000 in
theorem bld_50_0 {e : Env} {x0 : Operand} {n0 : Int} (h0 : ev e x0 = .int .i64 n0) : ∀ w, (Instr.build 50 #[(0, ev e x0)]).run Tryz.prog w = .ok (.agg #[.int .i64 n0, .slice none 0 0]) w := by
  intro w
  rw [h0]
  simp [Instr.build, go_sem]
set_option maxHeartbeats 1000000 in
theorem bld_50_0_1 {e : Env} {x0 x1 : Operand} {n0 : Int} {A1 : Option Addr} {l1 c1 : Nat} (h0 : ev e x0 = .int .i64 n0) (h1 : ev e x1 = .slice A1 l1 c1) : ∀ w, (Instr.build 50 #[(0, ev e x0), (1, ev e x1)]).run Tryz.prog w = .ok (.agg #[.int .i64 n0, .slice A1 l1 c1]) w := by
  intro w
  rw [h0, h1]
  simp [Instr.build, go_sem]
set_option maxHeartbeats 1000000 in
theorem bld_56_0 {e : Env} {x0 : Operand} {v0_0 v0_1 v0_2 v0_3 v0_4 : Value} (h0 : ev e x0 = .agg #[v0_0, v0_1, v0_2, v0_3, v0_4]) : ∀ w, (Instr.build 56 #[(0, ev e x0)]).run Tryz.prog w = .ok (.agg #[v0_0, v0_1, v0_2, v0_3, v0_4, .nilFunc]) w := by
  intro w
  rw [h0]
  simp [Instr.build, go_sem]
set_option maxHeartbeats 1000000 in
theorem bld_62_1 {e : Env} {x0 : Operand} {n0 : Int} (h0 : ev e x0 = .int .i64 n0) : ∀ w, (Instr.build 62 #[(1, ev e x0)]).run Tryz.prog w = .ok (.agg #[.int .i64 0, .int .i64 n0]) w := by
  intro w
  rw [h0]
  simp [Instr.build, go_sem]
set_option maxHeartbeats 1000000 in
theorem bld_64_1_2 {e : Env} {x0 x1 : Operand} {n0 : Int} {v1_0 v1_1 : Value} (h0 : ev e x0 = .int .i64 n0) (h1 : ev e x1 = .agg #[v1_0, v1_1]) : ∀ w, (Instr.build 64 #[(1, ev e x0), (2, ev e x1)]).run Tryz.prog w = .ok (.agg #[.int .i64 0, .int .i64 n0, v1_0, v1_1]) w := by
  intro w
  rw [h0, h1]
  simp [Instr.build, go_sem]
set_option maxHeartbeats 1000000 in
theorem bld_67_0_1 {e : Env} {x0 x1 : Operand} {n0 : Int} {n1 : Int} (h0 : ev e x0 = .int .i64 n0) (h1 : ev e x1 = .int .i64 n1) : ∀ w, (Instr.build 67 #[(0, ev e x0), (1, ev e x1)]).run Tryz.prog w = .ok (.agg #[.int .i64 n0, .int .i64 n1]) w := by
  intro w
  rw [h0, h1]
  simp [Instr.build, go_sem]
set_option maxHeartbeats 1000000 in
theorem bld_72_ {e : Env}   : ∀ w, (Instr.build 72 #[]).run Tryz.prog w = .ok (.agg #[.slice none 0 0, .slice none 0 0, .slice none 0 0, .int .i64 0, .int .i64 0, .int .i64 0]) w := by
  intro w
  simp [Instr.build, go_sem]
set_option maxHeartbeats 1000000 in
theorem bld_86_0_1_2 {e : Env} {x0 x1 x2 : Operand} {n0 : Int} {n1 : Int} {n2 : Int} (h0 : ev e x0 = .int .i64 n0) (h1 : ev e x1 = .int .i64 n1) (h2 : ev e x2 = .int .i64 n2) : ∀ w, (Instr.build 86 #[(0, ev e x0), (1, ev e x1), (2, ev e x2)]).run Tryz.prog w = .ok (.agg #[.int .i64 n0, .int .i64 n1, .int .i64 n2]) w := by
  intro w
  rw [h0, h1, h2]
  simp [Instr.build, go_sem]
set_option maxHeartbeats 1000000 in
theorem bld_101_0 {e : Env} {x0 : Operand} {n0 : Int} (h0 : ev e x0 = .int .i64 n0) : ∀ w, (Instr.build 101 #[(0, ev e x0)]).run Tryz.prog w = .ok (.agg #[.int .i64 n0, .slice none 0 0]) w := by
  intro w
  rw [h0]
  simp [Instr.build, go_sem]
set_option maxHeartbeats 1000000 in
theorem bld_104_ {e : Env}   : ∀ w, (Instr.build 104 #[]).run Tryz.prog w = .ok (.agg #[.int .i64 0, .int .i64 0, .slice none 0 0, .slice none 0 0]) w := by
  intro w
  simp [Instr.build, go_sem]
set_option maxHeartbeats 1000000 in
theorem bld_104_0_1_2_3 {e : Env} {x0 x1 x2 x3 : Operand} {n0 : Int} {n1 : Int} {A2 : Option Addr} {l2 c2 : Nat} {A3 : Option Addr} {l3 c3 : Nat} (h0 : ev e x0 = .int .i64 n0) (h1 : ev e x1 = .int .i64 n1) (h2 : ev e x2 = .slice A2 l2 c2) (h3 : ev e x3 = .slice A3 l3 c3) : ∀ w, (Instr.build 104 #[(0, ev e x0), (1, ev e x1), (2, ev e x2), (3, ev e x3)]).run Tryz.prog w = .ok (.agg #[.int .i64 n0, .int .i64 n1, .slice A2 l2 c2, .slice A3 l3 c3]) w := by
  intro w
  rw [h0, h1, h2, h3]
  simp [Instr.build, go_sem]
set_option maxHeartbeats 1000000 in
theorem bld_109_0_1 {e : Env} {x0 x1 : Operand} {v0_0 v0_1 v0_2 v0_3 : Value} {v1_0 v1_1 v1_2 v1_3 v1_4 : Value} (h0 : ev e x0 = .agg #[v0_0, v0_1, v0_2, v0_3]) (h1 : ev e x1 = .agg #[v1_0, v1_1, v1_2, v1_3, v1_4]) : ∀ w, (Instr.build 109 #[(0, ev e x0), (1, ev e x1)]).run Tryz.prog w = .ok (.agg #[v0_0, v0_1, v0_2, v0_3, v1_0, v1_1, v1_2, v1_3, v1_4, .int .i64 0, .int .i64 0, .int .i64 0, .int .i64 0]) w := by
  intro w
  rw [h0, h1]
  simp [Instr.build, go_sem]
set_option maxHeartbeats 1000000 in
theorem bld_111_ {e : Env}   : ∀ w, (Instr.build 111 #[]).run Tryz.prog w = .ok (.agg #[.int .i64 0, .int .i64 0, .int .i64 0, .int .i64 0]) w := by
  intro w
  simp [Instr.build, go_sem]
set_option maxHeartbeats 1000000 in
theorem bld_111_0_1 {e : Env} {x0 x1 : Operand} {n0 : Int} {n1 : Int} (h0 : ev e x0 = .int .i64 n0) (h1 : ev e x1 = .int .i64 n1) : ∀ w, (Instr.build 111 #[(0, ev e x0), (1, ev e x1)]).run Tryz.prog w = .ok (.agg #[.int .i64 n0, .int .i64 n1, .int .i64 0, .int .i64 0]) w := by
  intro w
  rw [h0, h1]
  simp [Instr.build, go_sem]
set_option maxHeartbeats 1000000 in
theorem bld_119_0_1_2_3 {e : Env} {x0 x1 x2 x3 : Operand} {A0 : Option Addr} {l0 c0 : Nat} {n1 : Int} {n2 : Int} {b3 : Bool} (h0 : ev e x0 = .slice A0 l0 c0) (h1 : ev e x1 = .int .i64 n1) (h2 : ev e x2 = .int .i64 n2) (h3 : ev e x3 = .bool b3) : ∀ w, (Instr.build 119 #[(0, ev e x0), (1, ev e x1), (2, ev e x2), (3, ev e x3)]).run Tryz.prog w = .ok (.agg #[.slice A0 l0 c0, .int .i64 n1, .int .i64 n2, .bool b3]) w := by
  intro w
  rw [h0, h1, h2, h3]
  simp [Instr.build, go_sem]
set_option maxHeartbeats 1000000 in
theorem bld_123_0_1_2_3 {e : Env} {x0 x1 x2 x3 : Operand} {n0 : Int} {n1 : Int} {n2 : Int} {n3 : Int} (h0 : ev e x0 = .int .i64 n0) (h1 : ev e x1 = .int .i64 n1) (h2 : ev e x2 = .int .i64 n2) (h3 : ev e x3 = .int .i64 n3) : ∀ w, (Instr.build 123 #[(0, ev e x0), (1, ev e x1), (2, ev e x2), (3, ev e x3)]).run Tryz.prog w = .ok (.agg #[.int .i64 n0, .int .i64 n1, .int .i64 n2, .int .i64 n3]) w := by
  intro w
  rw [h0, h1, h2, h3]
  simp [Instr.build, go_sem]
set_option maxHeartbeats 1000000 in
theorem bld_127_0_1 {e : Env} {x0 x1 : Operand} {v0_0 v0_1 : Value} {A1 : Option Addr} {l1 c1 : Nat} (h0 : ev e x0 = .agg #[v0_0, v0_1]) (h1 : ev e x1 = .slice A1 l1 c1) : ∀ w, (Instr.build 127 #[(0, ev e x0), (1, ev e x1)]).run Tryz.prog w = .ok (.agg #[v0_0, v0_1, .slice A1 l1 c1]) w := by
  intro w
  rw [h0, h1]
  simp [Instr.build, go_sem]
set_option maxHeartbeats 1000000 in
theorem bld_132_0_1_2_3_4 {e : Env} {x0 x1 x2 x3 x4 : Operand} {n0 : Int} {n1 : Int} {n2 : Int} {b3 : Bool} {b4 : Bool} (h0 : ev e x0 = .int .i64 n0) (h1 : ev e x1 = .int .i64 n1) (h2 : ev e x2 = .int .i64 n2) (h3 : ev e x3 = .bool b3) (h4 : ev e x4 = .bool b4) : ∀ w, (Instr.build 132 #[(0, ev e x0), (1, ev e x1), (2, ev e x2), (3, ev e x3), (4, ev e x4)]).run Tryz.prog w = .ok (.agg #[.int .i64 n0, .int .i64 n1, .int .i64 n2, .bool b3, .bool b4, .int .i64 0]) w := by
  intro w
  rw [h0, h1, h2, h3, h4]
  simp [Instr.build, go_sem]
set_option maxHeartbeats 1000000 in
theorem bld_132_0_1_2_3_4_5 {e : Env} {x0 x1 x2 x3 x4 x5 : Operand} {n0 : Int} {n1 : Int} {n2 : Int} {b3 : Bool} {b4 : Bool} {n5 : Int} (h0 : ev e x0 = .int .i64 n0) (h1 : ev e x1 = .int .i64 n1) (h2 : ev e x2 = .int .i64 n2) (h3 : ev e x3 = .bool b3) (h4 : ev e x4 = .bool b4) (h5 : ev e x5 = .int .i64 n5) : ∀ w, (Instr.build 132 #[(0, ev e x0), (1, ev e x1), (2, ev e x2), (3, ev e x3), (4, ev e x4), (5, ev e x5)]).run Tryz.prog w = .ok (.agg #[.int .i64 n0, .int .i64 n1, .int .i64 n2, .bool b3, .bool b4, .int .i64 n5]) w := by
  intro w
  rw [h0, h1, h2, h3, h4, h5]
  simp [Instr.build, go_sem]
set_option maxHeartbeats 1000000 in
theorem bld_132_0_1_4 {e : Env} {x0 x1 x2 : Operand} {n0 : Int} {n1 : Int} {b2 : Bool} (h0 : ev e x0 = .int .i64 n0) (h1 : ev e x1 = .int .i64 n1) (h2 : ev e x2 = .bool b2) : ∀ w, (Instr.build 132 #[(0, ev e x0), (1, ev e x1), (4, ev e x2)]).run Tryz.prog w = .ok (.agg #[.int .i64 n0, .int .i64 n1, .int .i64 0, .bool false, .bool b2, .int .i64 0]) w := by
  intro w
  rw [h0, h1, h2]
  simp [Instr.build, go_sem]
set_option maxHeartbeats 1000000 in
theorem bld_142_0_1 {e : Env} {x0 x1 : Operand} {n0 : Int} {n1 : Int} (h0 : ev e x0 = .int .i64 n0) (h1 : ev e x1 = .int .i64 n1) : ∀ w, (Instr.build 142 #[(0, ev e x0), (1, ev e x1)]).run Tryz.prog w = .ok (.agg #[.int .i64 n0, .int .i64 n1]) w := by
  intro w
  rw [h0, h1]
  simp [Instr.build, go_sem]
set_option maxHeartbeats 1000000 in
theorem bld_158_0 {e : Env} {x0 : Operand} {n0 : Int} (h0 : ev e x0 = .int .i64 n0) : ∀ w, (Instr.build 158 #[(0, ev e x0)]).run Tryz.prog w = .ok (.agg #[.int .i64 n0, .int .i64 0]) w := by
  intro w
  rw [h0]
  simp [Instr.build, go_sem]
set_option maxHeartbeats 1000000 in
theorem bld_158_0_1 {e : Env} {x0 x1 : Operand} {n0 : Int} {n1 : Int} (h0 : ev e x0 = .int .i64 n0) (h1 : ev e x1 = .int .i64 n1) : ∀ w, (Instr.build 158 #[(0, ev e x0), (1, ev e x1)]).run Tryz.prog w = .ok (.agg #[.int .i64 n0, .int .i64 n1]) w := by
  intro w
  rw [h0, h1]
  simp [Instr.build, go_sem]
set_option maxHeartbeats 1000000 in
theorem bld_168_0 {e : Env} {x0 : Operand} {n0 : Int} (h0 : ev e x0 = .int .i64 n0) : ∀ w, (Instr.build 168 #[(0, ev e x0)]).run Tryz.prog w = .ok (.agg #[.int .i64 n0, .int .i64 0, .int .i64 0]) w := by
  intro w
  rw [h0]
  simp [Instr.build, go_sem]
set_option maxHeartbeats 1000000 in
theorem bld_168_0_1 {e : Env} {x0 x1 : Operand} {n0 : Int} {v1_0 v1_1 : Value} (h0 : ev e x0 = .int .i64 n0) (h1 : ev e x1 = .agg #[v1_0, v1_1]) : ∀ w, (Instr.build 168 #[(0, ev e x0), (1, ev e x1)]).run Tryz.prog w = .ok (.agg #[.int .i64 n0, v1_0, v1_1]) w := by
  intro w
  rw [h0, h1]
  simp [Instr.build, go_sem]
set_option maxHeartbeats 1000000 in
theorem bld_180_0 {e : Env} {x0 : Operand} {fn0 : Fn} {fa0 fb0 : Array Value} (h0 : ev e x0 = .func fn0 fa0 fb0) : ∀ w, (Instr.build 180 #[(0, ev e x0)]).run Tryz.prog w = .ok (.agg #[.func fn0 fa0 fb0, .slice none 0 0, .int .i64 0]) w := by
  intro w
  rw [h0]
  simp [Instr.build, go_sem]
set_option maxHeartbeats 1000000 in
theorem bld_182_0_1 {e : Env} {x0 x1 : Operand} {v0_0 v0_1 : Value} {n1 : Int} (h0 : ev e x0 = .agg #[v0_0, v0_1]) (h1 : ev e x1 = .int .i64 n1) : ∀ w, (Instr.build 182 #[(0, ev e x0), (1, ev e x1)]).run Tryz.prog w = .ok (.agg #[v0_0, v0_1, .int .i64 n1]) w := by
  intro w
  rw [h0, h1]
  simp [Instr.build, go_sem]
set_option maxHeartbeats 1000000 in
theorem bld_186_0 {e : Env} {x0 : Operand} {fn0 : Fn} {fa0 fb0 : Array Value} (h0 : ev e x0 = .func fn0 fa0 fb0) : ∀ w, (Instr.build 186 #[(0, ev e x0)]).run Tryz.prog w = .ok (.agg #[.func fn0 fa0 fb0, .slice none 0 0, .int .i64 0]) w := by
  intro w
  rw [h0]
  simp [Instr.build, go_sem]
set_option maxHeartbeats 1000000 in
theorem bld_188_0_1 {e : Env} {x0 x1 : Operand} {v0_0 v0_1 v0_2 : Value} {n1 : Int} (h0 : ev e x0 = .agg #[v0_0, v0_1, v0_2]) (h1 : ev e x1 = .int .i64 n1) : ∀ w, (Instr.build 188 #[(0, ev e x0), (1, ev e x1)]).run Tryz.prog w = .ok (.agg #[v0_0, v0_1, v0_2, .int .i64 n1]) w := by
  intro w
  rw [h0, h1]
  simp [Instr.build, go_sem]
set_option maxHeartbeats 1000000 in
theorem bsl_22_3_0_1_2 {e : Env} {x0 x1 x2 : Operand} {v0_0 v0_1 v0_2 : Value} {v1_0 v1_1 v1_2 : Value} {v2_0 v2_1 v2_2 : Value} (h0 : ev e x0 = .agg #[v0_0, v0_1, v0_2]) (h1 : ev e x1 = .agg #[v1_0, v1_1, v1_2]) (h2 : ev e x2 = .agg #[v2_0, v2_1, v2_2]) : ∀ w, (Instr.buildSlice 22 3 #[(0, ev e x0), (1, ev e x1), (2, ev e x2)]).run Tryz.prog w = .ok (.slice (some ⟨w.heap.size, 0, none⟩) 3 3) (w.alloc (.cells ([v0_0, v0_1, v0_2, v1_0, v1_1, v1_2, v2_0, v2_1, v2_2] : List Value).toArray 86)) := by
  intro w
  rw [h0, h1, h2]
  simp [Instr.buildSlice, go_sem]
set_option maxHeartbeats 1000000 in
theorem bsl_25_1_0 {e : Env} {x0 : Operand} {v0_0 v0_1 v0_2 v0_3 : Value} (h0 : ev e x0 = .agg #[v0_0, v0_1, v0_2, v0_3]) : ∀ w, (Instr.buildSlice 25 1 #[(0, ev e x0)]).run Tryz.prog w = .ok (.slice (some ⟨w.heap.size, 0, none⟩) 1 1) (w.alloc (.cells ([v0_0, v0_1, v0_2, v0_3] : List Value).toArray 64)) := by
  intro w
  rw [h0]
  simp [Instr.buildSlice, go_sem]
set_option maxHeartbeats 1000000 in
theorem bsl_26_1_0 {e : Env} {x0 : Operand} {v0_0 v0_1 : Value} (h0 : ev e x0 = .agg #[v0_0, v0_1]) : ∀ w, (Instr.buildSlice 26 1 #[(0, ev e x0)]).run Tryz.prog w = .ok (.slice (some ⟨w.heap.size, 0, none⟩) 1 1) (w.alloc (.cells ([v0_0, v0_1] : List Value).toArray 67)) := by
  intro w
  rw [h0]
  simp [Instr.buildSlice, go_sem]
set_option maxHeartbeats 1000000 in
theorem bsl_26_2_0_1 {e : Env} {x0 x1 : Operand} {v0_0 v0_1 : Value} {v1_0 v1_1 : Value} (h0 : ev e x0 = .agg #[v0_0, v0_1]) (h1 : ev e x1 = .agg #[v1_0, v1_1]) : ∀ w, (Instr.buildSlice 26 2 #[(0, ev e x0), (1, ev e x1)]).run Tryz.prog w = .ok (.slice (some ⟨w.heap.size, 0, none⟩) 2 2) (w.alloc (.cells ([v0_0, v0_1, v1_0, v1_1] : List Value).toArray 67)) := by
  intro w
  rw [h0, h1]
  simp [Instr.buildSlice, go_sem]
set_option maxHeartbeats 1000000 in
theorem bsl_29_1_0 {e : Env} {x0 : Operand} {v0_0 v0_1 : Value} (h0 : ev e x0 = .agg #[v0_0, v0_1]) : ∀ w, (Instr.buildSlice 29 1 #[(0, ev e x0)]).run Tryz.prog w = .ok (.slice (some ⟨w.heap.size, 0, none⟩) 1 1) (w.alloc (.cells ([v0_0, v0_1] : List Value).toArray 50)) := by
  intro w
  rw [h0]
  simp [Instr.buildSlice, go_sem]
set_option maxHeartbeats 1000000 in
theorem bsl_30_0_ {e : Env}   : ∀ w, (Instr.buildSlice 30 0 #[]).run Tryz.prog w = .ok (.slice (some ⟨w.heap.size, 0, none⟩) 0 0) (w.alloc (.cells ([] : List Value).toArray 3)) := by
  intro w
  simp [Instr.buildSlice, go_sem]
set_option maxHeartbeats 1000000 in
theorem bsl_30_1_0 {e : Env} {x0 : Operand} {n0 : Int} (h0 : ev e x0 = .int .i64 n0) : ∀ w, (Instr.buildSlice 30 1 #[(0, ev e x0)]).run Tryz.prog w = .ok (.slice (some ⟨w.heap.size, 0, none⟩) 1 1) (w.alloc (.cells ([.int .i64 n0] : List Value).toArray 3)) := by
  intro w
  rw [h0]
  simp [Instr.buildSlice, go_sem]
set_option maxHeartbeats 1000000 in
theorem bsl_30_3_0_1_2 {e : Env} {x0 x1 x2 : Operand} {n0 : Int} {n1 : Int} {n2 : Int} (h0 : ev e x0 = .int .i64 n0) (h1 : ev e x1 = .int .i64 n1) (h2 : ev e x2 = .int .i64 n2) : ∀ w, (Instr.buildSlice 30 3 #[(0, ev e x0), (1, ev e x1), (2, ev e x2)]).run Tryz.prog w = .ok (.slice (some ⟨w.heap.size, 0, none⟩) 3 3) (w.alloc (.cells ([.int .i64 n0, .int .i64 n1, .int .i64 n2] : List Value).toArray 3)) := by
  intro w
  rw [h0, h1, h2]
  simp [Instr.buildSlice, go_sem]
set_option maxHeartbeats 1000000 in
theorem bsl_45_2_0_1 {e : Env} {x0 x1 : Operand} {v0_0 v0_1 : Value} {v1_0 v1_1 : Value} (h0 : ev e x0 = .agg #[v0_0, v0_1]) (h1 : ev e x1 = .agg #[v1_0, v1_1]) : ∀ w, (Instr.buildSlice 45 2 #[(0, ev e x0), (1, ev e x1)]).run Tryz.prog w = .ok (.slice (some ⟨w.heap.size, 0, none⟩) 2 2) (w.alloc (.cells ([v0_0, v0_1, v1_0, v1_1] : List Value).toArray 32)) := by
  intro w
  rw [h0, h1]
  simp [Instr.buildSlice, go_sem]
set_option maxHeartbeats 1000000 in
theorem bsl_70_1_0 {e : Env} {x0 : Operand} {A0 : Option Addr} {l0 c0 : Nat} (h0 : ev e x0 = .slice A0 l0 c0) : ∀ w, (Instr.buildSlice 70 1 #[(0, ev e x0)]).run Tryz.prog w = .ok (.slice (some ⟨w.heap.size, 0, none⟩) 1 1) (w.alloc (.cells ([.slice A0 l0 c0] : List Value).toArray 30)) := by
  intro w
  rw [h0]
  simp [Instr.buildSlice, go_sem]
set_option maxHeartbeats 1000000 in
theorem bsl_77_1_0 {e : Env} {x0 : Operand} {v0_0 v0_1 v0_2 v0_3 : Value} (h0 : ev e x0 = .agg #[v0_0, v0_1, v0_2, v0_3]) : ∀ w, (Instr.buildSlice 77 1 #[(0, ev e x0)]).run Tryz.prog w = .ok (.slice (some ⟨w.heap.size, 0, none⟩) 1 1) (w.alloc (.cells ([v0_0, v0_1, v0_2, v0_3] : List Value).toArray 111)) := by
  intro w
  rw [h0]
  simp [Instr.buildSlice, go_sem]
set_option maxHeartbeats 1000000 in
theorem bsl_99_1_0 {e : Env} {x0 : Operand} {v0_0 v0_1 v0_2 v0_3 : Value} (h0 : ev e x0 = .agg #[v0_0, v0_1, v0_2, v0_3]) : ∀ w, (Instr.buildSlice 99 1 #[(0, ev e x0)]).run Tryz.prog w = .ok (.slice (some ⟨w.heap.size, 0, none⟩) 1 1) (w.alloc (.cells ([v0_0, v0_1, v0_2, v0_3] : List Value).toArray 123)) := by
  intro w
  rw [h0]
  simp [Instr.buildSlice, go_sem]
set_option maxHeartbeats 1000000 in
theorem bsl_178_1_0 {e : Env} {x0 : Operand} {v0_0 v0_1 v0_2 : Value} (h0 : ev e x0 = .agg #[v0_0, v0_1, v0_2]) : ∀ w, (Instr.buildSlice 178 1 #[(0, ev e x0)]).run Tryz.prog w = .ok (.slice (some ⟨w.heap.size, 0, none⟩) 1 1) (w.alloc (.cells ([v0_0, v0_1, v0_2] : List Value).toArray 182)) := by
  intro w
  rw [h0]
  simp [Instr.buildSlice, go_sem]
set_option maxHeartbeats 1000000 in
theorem bsl_184_1_0 {e : Env} {x0 : Operand} {v0_0 v0_1 v0_2 v0_3 : Value} (h0 : ev e x0 = .agg #[v0_0, v0_1, v0_2, v0_3]) : ∀ w, (Instr.buildSlice 184 1 #[(0, ev e x0)]).run Tryz.prog w = .ok (.slice (some ⟨w.heap.size, 0, none⟩) 1 1) (w.alloc (.cells ([v0_0, v0_1, v0_2, v0_3] : List Value).toArray 188)) := by
  intro w
  rw [h0]
  simp [Instr.buildSlice, go_sem]
def funT : Nat → Bool
  | 3 => true
  | 4 => true
  | 5 => true
  | 6 => true
  | 7 => true
  | 8 => true
  | 9 => true
  | 10 => true
  | 11 => true
  | 12 => true
  | 13 => true
  | 14 => true
  | 15 => true
  | 16 => true
  | 17 => true
  | 18 => true
  | 19 => true
  | 20 => true
  | 21 => true
  | 22 => true
  | 23 => true
  | 24 => true
  | 25 => true
  | 26 => true
  | 27 => true
  | 28 => true
  | 29 => true
  | 30 => true
  | 31 => true
  | 32 => true
  | 33 => true
  | 34 => true
  | 35 => true
  | 36 => true
  | 37 => true
  | 38 => true
  | 39 => true
  | 40 => true
  | 41 => true
  | 42 => true
  | 43 => true
  | 44 => true
  | 45 => true
  | 46 => true
  | 47 => true
  | 48 => true
  | 49 => true
  | 50 => true
  | 51 => true
  | 52 => true
  | 53 => true
  | 54 => true
  | 55 => true
  | 56 => true
  | 57 => true
  | 58 => true
  | 59 => true
  | 60 => true
  | 61 => true
  | 62 => true
  | 63 => true
  | 64 => true
  | 65 => true
  | 66 => true
  | 67 => true
  | 68 => true
  | 69 => true
  | 70 => true
  | 71 => true
  | 72 => true
  | 73 => true
  | 74 => true
  | 75 => true
  | 76 => true
  | 77 => true
  | 78 => true
  | 79 => true
  | 80 => true
  | 81 => true
  | 82 => true
  | 83 => true
  | 84 => true
  | 85 => true
  | 86 => true
  | 87 => true
  | 88 => true
  | 89 => true
  | 90 => true
  | 91 => true
  | 92 => true
  | 93 => true
  | 94 => true
  | 95 => true
  | 96 => true
  | 97 => true
  | 98 => true
  | 99 => true
  | 100 => true
  | 101 => true
  | 102 => true
  | 103 => true
  | 104 => true
  | 105 => true
  | 106 => true
  | 107 => true
  | 108 => true
  | 109 => true
  | 110 => true
  | 111 => true
  | 112 => true
  | 113 => true
  | 114 => true
  | 115 => true
  | 116 => true
  | 118 => true
  | 119 => true
  | 120 => true
  | _ => false
set_option maxHeartbeats 2000000 in
theorem fun_run {f : Nat} (h : funT f = true) : ∀ (args : Array Value) (w : World), (callFunc f args).run Tryz.prog w = .ok (.enter f args) w := by
  unfold funT at h
  split at h <;> (try cases h)
  · exact Tryz.call3
  · exact Tryz.call4
  · exact Tryz.call5
  · exact Tryz.call6
  · exact Tryz.call7
  · exact Tryz.call8
  · exact Tryz.call9
  · exact Tryz.call10
  · exact Tryz.call11
  · exact Tryz.call12
  · exact Tryz.call13
  · exact Tryz.call14
  · exact Tryz.call15
  · exact Tryz.call16
  · exact Tryz.call17
  · exact Tryz.call18
  · exact Tryz.call19
  · exact Tryz.call20
  · exact Tryz.call21
  · exact Tryz.call22
  · exact Tryz.call23
  · exact Tryz.call24
  · exact Tryz.call25
  · exact Tryz.call26
  · exact Tryz.call27
  · exact Tryz.call28
  · exact Tryz.call29
  · exact Tryz.call30
  · exact Tryz.call31
  · exact Tryz.call32
  · exact Tryz.call33
  · exact Tryz.call34
  · exact Tryz.call35
  · exact Tryz.call36
  · exact Tryz.call37
  · exact Tryz.call38
  · exact Tryz.call39
  · exact Tryz.call40
  · exact Tryz.call41
  · exact Tryz.call42
  · exact Tryz.call43
  · exact Tryz.call44
  · exact Tryz.call45
  · exact Tryz.call46
  · exact Tryz.call47
  · exact Tryz.call48
  · exact Tryz.call49
  · exact Tryz.call50
  · exact Tryz.call51
  · exact Tryz.call52
  · exact Tryz.call53
  · exact Tryz.call54
  · exact Tryz.call55
  · exact Tryz.call56
  · exact Tryz.call57
  · exact Tryz.call58
  · exact Tryz.call59
  · exact Tryz.call60
  · exact Tryz.call61
  · exact Tryz.call62
  · exact Tryz.call63
  · exact Tryz.call64
  · exact Tryz.call65
  · exact Tryz.call66
  · exact Tryz.call67
  · exact Tryz.call68
  · exact Tryz.call69
  · exact Tryz.call70
  · exact Tryz.call71
  · exact Tryz.call72
  · exact Tryz.call73
  · exact Tryz.call74
  · exact Tryz.call75
  · exact Tryz.call76
  · exact Tryz.call77
  · exact Tryz.call78
  · exact Tryz.call79
  · exact Tryz.call80
  · exact Tryz.call81
  · exact Tryz.call82
  · exact Tryz.call83
  · exact Tryz.call84
  · exact Tryz.call85
  · exact Tryz.call86
  · exact Tryz.call87
  · exact Tryz.call88
  · exact Tryz.call89
  · exact Tryz.call90
  · exact Tryz.call91
  · exact Tryz.call92
  · exact Tryz.call93
  · exact Tryz.call94
  · exact Tryz.call95
  · exact Tryz.call96
  · exact Tryz.call97
  · exact Tryz.call98
  · exact Tryz.call99
  · exact Tryz.call100
  · exact Tryz.call101
  · exact Tryz.call102
  · exact Tryz.call103
  · exact Tryz.call104
  · exact Tryz.call105
  · exact Tryz.call106
  · exact Tryz.call107
  · exact Tryz.call108
  · exact Tryz.call109
  · exact Tryz.call110
  · exact Tryz.call111
  · exact Tryz.call112
  · exact Tryz.call113
  · exact Tryz.call114
  · exact Tryz.call115
  · exact Tryz.call116
  · exact Tryz.call118
  · exact Tryz.call119
  · exact Tryz.call120
theorem mixed : Tryz.prog.follows .mixedOrders = true := by kernel_rfl
end Go.Proofs.YthobaaefdehoiaaGreat

/-
 Regions whose order is open and that make memory in more than one place: quiet operations are taken first, over the others it is branched.
-/
set_option linter.all false
namespace Go.W
open Go.RowKit
structure OPH (P : Program) (N : Nat) (ops : Array Oper) (K : Env → World → Prop) (w0 : World) (S : List Nat) (L : List Blk) (fuel : Nat) (listed : Array Bool) (e : Env) (w : World) : Prop where
 run : ∀ a : Act, envOf a = e → a.tmps.size = N → a.defers = [] → wpAnyH P .any ops (post N K NoX NoR) (fun w' => SH w0 S w' L) fuel listed a w
section
variable {P : Program} {N : Nat} {ops : Array Oper} {K : Env → World → Prop} {Kn : Env → World → Prop} {Kx : Nat → Env → World → Prop} {Kr : Env → World → Prop} {e : Env} {w w0 : World} {S : List Nat} {L : List Blk} {fuel : Nat} {listed : Array Bool}
theorem WP.rheld {id : Nat} (hm : P.follows .mixedOrders = true) (H : SH w0 S w L) (h : ∀ w', Below w.heap.size w w' → SH w0 S w' L → OPH P N ops Kn w0 S L ops.size (Array.replicate ops.size false) e w') : WP P N (.region id ops true) Kn Kx Kr e w :=
 ⟨fun a h1 h2 h3 => Code.wp_mono post_up (wp_region_held (S := fun w' => SH w0 S w' L) hm ((h { w with drawn := w.drawn + 1 } ⟨rfl, rfl, rfl, Nat.le_refl _, fun _ _ => rfl⟩ H.drew).run a h1 h2 h3))⟩
theorem WP.rheldC {id : Nat} (M : List Nat) (I : Env → World → Prop) (hm : P.follows .mixedOrders = true) (H : SH w0 S w L)
  (h : ∀ w', Below w.heap.size w w' → SH w0 S w' L → OPH P N ops (fun e' w' => Agree M e' e ∧ I e' w') w0 S L ops.size (Array.replicate ops.size false) e w') (hk : ∀ u w', I u w' → Kn (W.mix M u e) w') : WP P N (.region id ops true) Kn Kx Kr e w :=
 WP.mono (WP.rheld (Kn := fun e' w' => Agree M e' e ∧ I e' w') (Kx := Kx) (Kr := Kr) hm H h) (fun e' w' hh => by rw [hh.1.eq]; exact hk e' w' hh.2) (fun _ _ _ h => h) (fun _ _ h => h)
theorem OPH.take (i : Nat) {oi : Oper} {d : Nat} {v : Value} {f : Nat} (hi : ops[i]? = some oi) (hg : oi.guard = none) (hd : oi.dst = some d) (hN : Nat.blt d N = true) (hs : Region.noSelect ops = true) (hf : Region.free .any ops listed i = true)
  (hr : (Region.ready .any ops listed).contains i = true) (hfu : fuel = f + 1) (H : SH w0 S w L) (hE : ∀ w', SH w0 S w' L → Ev P e w' oi.type oi.op v)
  (h : OPH P N ops K w0 S L f (listed.setIfInBounds i true) (upd e d v) w) : OPH P N ops K w0 S L fuel listed e w :=
 ⟨fun a h1 h2 h3 => by
  subst hfu
  have hn := h.run (a.put (some d) v) (by rw [envOf_put v h2 hN, h1]) (by rw [size_put]; exact h2) (by rw [defers_put]; exact h3)
  refine wpAnyH_take hi hs hf hr (fun c a w hh => by simp only [post] at hh) (v := v) (.inl ⟨wanted_none hg _, fun w' hw' => ?_⟩) H (by rw [hd]; exact hn)
  have := (hE w' hw').run w' (Below.refl _ _) oi rfl rfl
  rw [eval_eq, h1]; exact this⟩
theorem OPH.all (rs : List Nat) {f : Nat} (hr : Region.ready .any ops listed = rs) (hne : rs ≠ []) (hfu : fuel = f + 1)
  (h : ∀ i ∈ rs, ∃ o, ops[i]? = some o ∧ OPS P N .plain ops (fun e' w' => SH w0 S w' L ∧ OPH P N ops K w0 S L f (listed.setIfInBounds i true) e' w') [o] e w) : OPH P N ops K w0 S L fuel listed e w :=
 ⟨fun a h1 h2 h3 => by
  subst hfu
  refine wpAnyH_all hr hne fun i hi => ?_
  obtain ⟨o, ho, hO⟩ := h i hi
  have hl := hO.run a h1 h2 h3
  simp only at hl
  unfold wpList at hl
  unfold wpOp
  simp only [ho]
  split
  ·rename_i hw
   rw [if_pos hw] at hl
   rcases hl with hl | ⟨_, _, _, hl⟩
   ·refine .inl ?_
    unfold Oper.wp at hl ⊢
    generalize (execOp a.eval o).run P w = r at hl ⊢
    have key : ∀ a' w', wpList P ops (post N (fun e' w' => SH w0 S w' L ∧ OPH P N ops K w0 S L f (listed.setIfInBounds i true) e' w') NoX NoR) [] a' w' → SH w0 S w' L ∧ wpAnyH P .any ops (post N K NoX NoR) (fun w' => SH w0 S w' L) f (listed.setIfInBounds i true) a' w' := by
     intro a' w' hh
     have hh : a'.tmps.size = N ∧ a'.defers = [] ∧ _ := hh
     exact ⟨hh.2.2.1, hh.2.2.2.run a' rfl hh.1 hh.2.1⟩
    cases r with
    | ok n w' =>
     cases n <;> simp only [Oper.upon] at hl ⊢
     case value u => exact key _ _ hl
     case skip => exact key _ _ hl
     case defer d => exact key _ _ hl
     case enter g args =>
      refine Calls.mono hl ?_
      intro e' w'' he
      cases e' with
      | returned u => exact key _ _ he
      | panicked c => simp only [post] at he
      | outgrown => obtain ⟨_, _, he⟩ := he; simp only [post] at he
     case row row args => exact Rows.mono hl fun u w'' he => key _ _ he
    | halt x w' =>
     cases x <;> simp only [Oper.upon] at hl ⊢
     case panic u => simp only [post] at hl
   ·simp only [post] at hl
  ·rename_i hw
   rw [if_neg hw] at hl
   have hl : (a.put o.dst undef).tmps.size = N ∧ (a.put o.dst undef).defers = [] ∧ _ := hl
   exact ⟨hl.2.2.1, hl.2.2.2.run _ rfl hl.1 hl.2.1⟩⟩
theorem OPH.done (hr : Region.ready .any ops listed = []) (h : K e w) : OPH P N ops K w0 S L fuel listed e w := ⟨fun _ h1 h2 h3 => wpAnyH_done hr ⟨h2, h3, h1 ▸ h⟩ fuel⟩
end
end Go.W

/-
 Words for what arguments read as: lists of one-cell elements, lists of elements of several cells.
-/
set_option linter.all false
namespace Go.W
open Go.RowKit
abbrev I (n : Int) : Value := .int .i64 n
abbrev Bo (b : Bool) : Value := .bool b
def OnesAt {α : Type} (enc : α → Value) (w : World) (A : Option Addr) (l : List α) : Prop := ∀ k (hk : k < l.length), ∃ b o, A = some ⟨b, o, none⟩ ∧ w.cell? ⟨b, o + k, none⟩ = some (enc (l[k]'hk))
theorem OnesAt.below {α : Type} {enc : α → Value} {w w' : World} {A : Option Addr} {l : List α} (h : OnesAt enc w A l) (hb : Below w.heap.size w w') : OnesAt enc w' A l := fun k hk => by
 obtain ⟨b, o, h1, h2⟩ := h k hk
 exact ⟨b, o, h1, cell_below hb h2⟩
theorem OnesAt.sh {α : Type} {enc : α → Value} {w0 w : World} {L : List Blk} {A : Option Addr} {l : List α} (h : OnesAt enc w0 A l) (H : SH w0 [] w L) : OnesAt enc w A l := fun k hk => by
 obtain ⟨b, o, h1, h2⟩ := h k hk
 exact ⟨b, o, h1, H.ld0 h2⟩
theorem OnesAt.nil {α : Type} {enc : α → Value} {w : World} {A : Option Addr} : OnesAt enc w A [] := fun k hk => absurd hk (by simp)
theorem OnesAt.own {α : Type} {enc : α → Value} {w0 w : World} {S : List Nat} {L : List Blk} (H : SH w0 S w L) (i : Nat) {b : Blk} (hi : L[i]? = some b) {l : List α} {post : List Value} (hc : b.cs = l.map enc ++ post) :
  OnesAt enc w (some ⟨b.g, 0, none⟩) l := fun k hk => ⟨b.g, 0, rfl, by
 have h1 : b.cs[k]? = some (enc (l[k]'hk)) := by
  rw [hc, List.getElem?_append_left (by simpa using hk), List.getElem?_map, List.getElem?_eq_getElem hk]; rfl
 rw [Nat.zero_add]
 exact H.ldL i hi k h1⟩
abbrev IntsAt := OnesAt I
def RowsAt {α : Type} (sz : Nat) (enc : α → List Value) (w : World) (A : Option Addr) (l : List α) : Prop := ∀ k (hk : k < l.length), ∃ b o, A = some ⟨b, o, none⟩ ∧ cellsAt w b (o + k * sz) (enc (l[k]'hk))
theorem RowsAt.below {α : Type} {sz : Nat} {enc : α → List Value} {w w' : World} {A : Option Addr} {l : List α} (h : RowsAt sz enc w A l) (hb : Below w.heap.size w w') : RowsAt sz enc w' A l := fun k hk => by
 obtain ⟨b, o, h1, h2⟩ := h k hk
 exact ⟨b, o, h1, cellsAt_below hb h2⟩
theorem cellsAt_sh {w0 w : World} {L : List Blk} (H : SH w0 [] w L) {b : Nat} : ∀ {vs : List Value} {o : Nat}, cellsAt w0 b o vs → cellsAt w b o vs
 | [], _, _ => trivial
 | _ :: _, _, h => ⟨H.ld0 h.1, cellsAt_sh H h.2⟩
theorem RowsAt.sh {α : Type} {sz : Nat} {enc : α → List Value} {w0 w : World} {L : List Blk} {A : Option Addr} {l : List α} (h : RowsAt sz enc w0 A l) (H : SH w0 [] w L) : RowsAt sz enc w A l := fun k hk => by
 obtain ⟨b, o, h1, h2⟩ := h k hk
 exact ⟨b, o, h1, cellsAt_sh H h2⟩
theorem RowsAt.nil {α : Type} {sz : Nat} {enc : α → List Value} {w : World} {A : Option Addr} : RowsAt sz enc w A [] := fun k hk => absurd hk (by simp)
theorem SH.ldS {w0 w : World} {S : List Nat} {L : List Blk} (h : SH w0 S w L) {a : Addr} {v : Value} (hc : w0.cell? a = some v) (hS : a.block ∉ S) : w.cell? a = some v :=
 (World.cell?_of_block (w := w0) (h.low a.block (cell_lt hc) hS)).trans hc
def Off (A : Option Addr) (S : List Nat) : Prop := ∀ b o, A = some ⟨b, o, none⟩ → b ∉ S
theorem Off.nil {A : Option Addr} : Off A [] := fun _ _ _ => by simp
theorem OnesAt.shS {α : Type} {enc : α → Value} {w0 w : World} {S : List Nat} {L : List Blk} {A : Option Addr} {l : List α} (h : OnesAt enc w0 A l) (hS : Off A S) (H : SH w0 S w L) : OnesAt enc w A l := fun k hk => by
 obtain ⟨b, o, h1, h2⟩ := h k hk
 exact ⟨b, o, h1, H.ldS h2 (hS b o h1)⟩
theorem cellsAt_shS {w0 w : World} {S : List Nat} {L : List Blk} (H : SH w0 S w L) {b : Nat} (hS : b ∉ S) : ∀ {vs : List Value} {o : Nat}, cellsAt w0 b o vs → cellsAt w b o vs
 | [], _, _ => trivial
 | _ :: _, _, h => ⟨H.ldS h.1 hS, cellsAt_shS H hS h.2⟩
theorem RowsAt.shS {α : Type} {sz : Nat} {enc : α → List Value} {w0 w : World} {S : List Nat} {L : List Blk} {A : Option Addr} {l : List α} (h : RowsAt sz enc w0 A l) (hS : Off A S) (H : SH w0 S w L) : RowsAt sz enc w A l := fun k hk => by
 obtain ⟨b, o, h1, h2⟩ := h k hk
 exact ⟨b, o, h1, cellsAt_shS H (hS b o h1) h2⟩
theorem SH.restart {w0 w : World} {S : List Nat} {L Lv : List Blk} (H : SH w0 S w L) (hs : Lv.Sublist L) : SH w (Lv.map (·.g)) w Lv :=
 ⟨rfl, rfl, rfl, Nat.le_refl _, fun _ _ _ => rfl, fun b hb => H.own b (hs.subset hb), fun b hb => .inr (List.mem_map_of_mem hb), (hs.map _).nodup H.nodup⟩
theorem SH.call {w0 w w' : World} {S : List Nat} {L1 Lv Lv' : List Blk} (H : SH w0 S w (L1 ++ Lv)) (Hc : SH w (Lv.map (·.g)) w' Lv') : SH w0 S w' (L1 ++ Lv') where
 os := Hc.os.trans H.os
 tape := Hc.tape.trans H.tape
 output := Hc.output.trans H.output
 size := Nat.le_trans H.size Hc.size
 low k hk hS := by
  rw [Hc.low k (Nat.lt_of_lt_of_le hk H.size) (fun hm => ?_)]
  ·exact H.low k hk hS
  ·obtain ⟨b, hb, rfl⟩ := List.mem_map.1 hm
   rcases H.may b (List.mem_append_right _ hb) with h | h
   ·omega
   ·exact hS h
 own b hb := by
  rcases List.mem_append.1 hb with h | h
  ·rw [Hc.low b.g (H.lt (List.mem_append_left _ h)) (fun hm => ?_)]
   ·exact H.own b (List.mem_append_left _ h)
   ·have hn := H.nodup
    rw [List.map_append, List.nodup_append] at hn
    exact hn.2.2 b.g (List.mem_map_of_mem h) b.g hm rfl
  ·exact Hc.own b h
 may b hb := by
  rcases List.mem_append.1 hb with h | h
  ·exact H.may b (List.mem_append_left _ h)
  ·rcases Hc.may b h with h2 | h2
   ·exact .inl (Nat.le_trans H.size h2)
   ·obtain ⟨c, hc, he⟩ := List.mem_map.1 h2
    rw [← he]; exact H.may c (List.mem_append_right _ hc)
 nodup := by
  have hn := H.nodup
  rw [List.map_append, List.nodup_append] at hn ⊢
  refine ⟨hn.1, Hc.nodup, fun a ha b hb he => ?_⟩
  subst he
  obtain ⟨c, hc, rfl⟩ := List.mem_map.1 ha
  obtain ⟨d, hd, hde⟩ := List.mem_map.1 hb
  rcases Hc.may d hd with h2 | h2
  ·have := H.lt (List.mem_append_left _ hc); omega
  ·rw [hde] at h2
   exact hn.2.2 c.g (List.mem_map_of_mem hc) c.g h2 rfl
theorem SH.fresh {w0 w : World} {L : List Blk} (H : SH w0 [] w L) : ∀ g ∈ L.map (·.g), w0.heap.size ≤ g := fun g hg => by
 obtain ⟨b, hb, rfl⟩ := List.mem_map.1 hg
 rcases H.may b hb with h | h
 ·exact h
 ·simp at h
theorem OnesAt.off {α : Type} {enc : α → Value} {w0 : World} {A : Option Addr} {l : List α} {gs : List Nat} (h : OnesAt enc w0 A l) (hg : ∀ g ∈ gs, w0.heap.size ≤ g) : l ≠ [] → Off A gs := fun hl b o he hm => by
 subst he
 obtain ⟨b', o', h1, h2⟩ := h 0 (List.length_pos_iff.2 hl)
 cases h1
 have h3 := cell_lt h2
 have h3 : b < w0.heap.size := h3
 have := hg b hm
 omega
theorem RowsAt.off {α : Type} {sz : Nat} {enc : α → List Value} {w0 : World} {A : Option Addr} {l : List α} {gs : List Nat} (h : RowsAt sz enc w0 A l) (hne : ∀ x, enc x ≠ []) (hg : ∀ g ∈ gs, w0.heap.size ≤ g) : l ≠ [] → Off A gs := fun hl b o he hm => by
 subst he
 obtain ⟨b', o', h1, h2⟩ := h 0 (List.length_pos_iff.2 hl)
 cases h1
 have hgb := hg b hm
 generalize hx : enc (l[0]'(List.length_pos_iff.2 hl)) = vs at h2
 match vs, h2 with
 | [], _ => exact hne _ hx
 | v :: vs, h2 =>
  have h3 : b < w0.heap.size := cell_lt h2.1
  omega
theorem SH.reidx {w0 w : World} {S : List Nat} {L L' : List Blk} (H : SH w0 S w L) (idx : List Nat) (hn : idx.Nodup) (hi : idx.map (fun i => L[i]?) = L'.map some) : SH w0 S w L' := by
 have hlen : idx.length = L'.length := by have := congrArg List.length hi; simpa using this
 have hat : ∀ p (h : p < L'.length), L[idx[p]'(by omega)]? = some L'[p] := by
  intro p h
  have := congrArg (fun l => l[p]?) hi
  simp only [List.getElem?_map] at this
  rw [List.getElem?_eq_getElem (by omega), List.getElem?_eq_getElem h] at this
  simpa using this
 have hmem : ∀ b ∈ L', b ∈ L := by
  intro b hb
  obtain ⟨p, hp, rfl⟩ := List.mem_iff_getElem.1 hb
  exact List.mem_of_getElem? (hat p hp)
 refine ⟨H.os, H.tape, H.output, H.size, H.low, fun b hb => H.own b (hmem b hb), fun b hb => H.may b (hmem b hb), ?_⟩
 rw [List.nodup_iff_pairwise_ne, List.pairwise_iff_getElem]
 intro p q hp hq hpq
 simp only [List.length_map] at hp hq
 have h1 := hat p hp
 have h2 := hat q hq
 have hne : idx[p]'(by omega) ≠ idx[q]'(by omega) := by
  rw [List.nodup_iff_pairwise_ne, List.pairwise_iff_getElem] at hn
  exact hn p q (by omega) (by omega) hpq
 generalize idx[p]'(by omega) = i at *
 generalize idx[q]'(by omega) = j at *
 obtain ⟨hi1, hi2⟩ := List.getElem?_eq_some_iff.1 h1
 obtain ⟨hj1, hj2⟩ := List.getElem?_eq_some_iff.1 h2
 have hd := H.nodup
 rw [List.nodup_iff_pairwise_ne, List.pairwise_iff_getElem] at hd
 simp only [List.getElem_map]
 rcases Nat.lt_or_gt_of_ne hne with h | h
 ·have := hd i j (by simpa) (by simpa) h
  simpa [hi2, hj2] using this
 ·have := hd j i (by simpa) (by simpa) h
  simp [hi2, hj2] at this
  exact fun he => this he.symm
theorem Off.later {α : Type} {enc : α → Value} {w0 w : World} {gs : List Nat} {L : List Blk} {A : Option Addr} {l : List α} (h : OnesAt enc w0 A l) (hg : l ≠ [] → Off A gs) (H : SH w0 gs w L) : l ≠ [] → Off A (L.map (·.g)) := fun hl b o he hm => by
 have hoff := hg hl b o he
 subst he
 obtain ⟨b', o', h1, h2⟩ := h 0 (List.length_pos_iff.2 hl)
 cases h1
 have h3 : b < w0.heap.size := cell_lt h2
 obtain ⟨c, hc, rfl⟩ := List.mem_map.1 hm
 rcases H.may c hc with h4 | h4
 ·omega
 ·exact hoff h4
end Go.W

/-
 Own blocks that hold rows of several cells: reading and writing an element.
-/
set_option linter.all false
namespace Go.W
open Go.RowKit
section
variable {α : Type} {enc : α → List Value} {sz : Nat}
theorem rows_length (hsz : ∀ x, (enc x).length = sz) (l : List α) : (l.flatMap enc).length = l.length * sz := by
 induction l with
 | nil => simp
 | cons x l ih => simp only [List.flatMap_cons, List.length_append, hsz, ih, List.length_cons, Nat.succ_mul]; omega
theorem rows_get (hsz : ∀ x, (enc x).length = sz) : ∀ (l : List α) (k j : Nat) (hk : k < l.length), j < sz → (l.flatMap enc)[k * sz + j]? = (enc (l[k]'hk))[j]?
 | [], _, _, hk, _ => by simp at hk
 | x :: l, 0, j, _, hj => by
  simp only [List.flatMap_cons, Nat.zero_mul, Nat.zero_add, List.getElem_cons_zero]
  rw [List.getElem?_append_left (by rw [hsz]; exact hj)]
 | x :: l, k + 1, j, hk, hj => by
  simp only [List.flatMap_cons, List.getElem_cons_succ]
  rw [List.getElem?_append_right (by rw [hsz, Nat.succ_mul]; omega), hsz, show (k + 1) * sz + j - sz = k * sz + j by rw [Nat.succ_mul]; omega]
  exact rows_get hsz l k j (by simpa using hk) hj
theorem putL_append_right (pre : List Value) : ∀ (vs cs : List Value) (k : Nat), putL (pre ++ cs) (pre.length + k) vs = pre ++ putL cs k vs
 | [], _, _ => rfl
 | v :: vs, cs, k => by
  rw [putL, putL, List.set_append_right _ _ (by omega), show pre.length + k - pre.length = k by omega, show pre.length + k + 1 = pre.length + (k + 1) by omega]
  exact putL_append_right pre vs _ _
theorem putL_whole : ∀ (vs old : List Value) (post : List Value), old.length = vs.length → putL (old ++ post) 0 vs = vs ++ post
 | [], [], _, _ => rfl
 | v :: vs, u :: old, post, h => by
  rw [putL]
  have := putL_append_right [v] vs (old ++ post) 0
  simp only [List.cons_append, List.set_cons_zero, List.nil_append, List.length_cons, List.length_nil, Nat.zero_add, Nat.add_zero] at this ⊢
  rw [this, putL_whole vs old post (by simpa using h)]
 | [], _ :: _, _, h => by simp at h
 | _ :: _, [], _, h => by simp at h
theorem putL_rows (hsz : ∀ x, (enc x).length = sz) : ∀ (l : List α) (k : Nat) (x : α), k < l.length → putL (l.flatMap enc) (k * sz) (enc x) = (l.set k x).flatMap enc
 | [], _, _, h => by simp at h
 | y :: l, 0, x, _ => by
  simp only [List.flatMap_cons, Nat.zero_mul, List.set_cons_zero]
  exact putL_whole _ _ _ (by rw [hsz, hsz])
 | y :: l, k + 1, x, h => by
  simp only [List.flatMap_cons, List.set_cons_succ]
  rw [show (k + 1) * sz = (enc y).length + k * sz by rw [hsz, Nat.succ_mul]; omega, putL_append_right, putL_rows hsz l k x (by simpa using h)]
theorem rowsOwn {w0 w : World} {S : List Nat} {L : List Blk} (hsz : ∀ x, (enc x).length = sz) (H : SH w0 S w L) (i : Nat) {g : Nat} {T : TypeId} {l : List α} {post : List Value} (hi : L[i]? = some ⟨g, T, l.flatMap enc ++ post⟩) :
  RowsAt sz enc w (some ⟨g, 0, none⟩) l := fun k hk => ⟨g, 0, rfl, by
 refine cellsAt_own H i hi _ _ fun j hj => ?_
 rw [hsz] at hj
 have hlen := rows_length hsz l
 have hkk : k * sz + sz ≤ l.length * sz := by rw [← Nat.succ_mul]; exact Nat.mul_le_mul_right _ hk
 rw [Nat.zero_add, List.getElem?_append_left (by rw [hlen]; omega), rows_get hsz l k j hk hj, List.getElem?_eq_getElem]⟩
theorem rowsOwn' {w0 w : World} {S : List Nat} {L : List Blk} (hsz : ∀ x, (enc x).length = sz) (H : SH w0 S w L) (i : Nat) {g : Nat} {T : TypeId} {l : List α} (hi : L[i]? = some ⟨g, T, l.flatMap enc⟩) :
  RowsAt sz enc w (some ⟨g, 0, none⟩) l := rowsOwn (post := []) hsz H i (by simpa using hi)
theorem mkL_rows (n : Nat) (x : α) : mkL n (enc x) = (List.replicate n x).flatMap enc := by
 induction n with
 | zero => rfl
 | succ n ih => simp only [mkL, List.replicate_succ, List.flatten_cons, List.flatMap_cons] at ih ⊢; rw [ih]
theorem mkL_ones {enc1 : α → Value} (n : Nat) (x : α) : mkL n [enc1 x] = (List.replicate n x).map enc1 := by rw [mkL_one]; simp
end
theorem OwnS.rows {α : Type} {enc : α → List Value} {sz : Nat} (hsz : ∀ x, (enc x).length = sz) (hp : 0 < sz) {w0 w : World} {S : List Nat} {A : Option Addr} {cap n el : Nat} {l : List α} {R Lo : List Blk} (h : OwnS A cap n (l.flatMap enc) el sz Lo) (H : SH w0 S w (R ++ Lo)) :
  RowsAt sz enc w A l ∧ l.length = n := by
 have hl : l.length = n := by
  have := h.len
  rw [rows_length hsz] at this
  exact Nat.eq_of_mul_eq_mul_right hp this
 refine ⟨?_, hl⟩
 rcases h.form with ⟨rfl, h0, _, _⟩ | ⟨g, sp, rfl, rfl, _⟩
 ·intro k hk; omega
 ·exact rowsOwn (T := el) (post := sp) hsz H R.length (by simp)
theorem OwnS.ones {α : Type} {enc : α → Value} {w0 w : World} {S : List Nat} {A : Option Addr} {cap n el : Nat} {l : List α} {R Lo : List Blk} (h : OwnS A cap n (l.map enc) el 1 Lo) (H : SH w0 S w (R ++ Lo)) :
  OnesAt enc w A l ∧ l.length = n := by
 have hl : l.length = n := by simpa using h.len
 refine ⟨?_, hl⟩
 rcases h.form with ⟨rfl, h0, _, _⟩ | ⟨g, sp, rfl, rfl, _⟩
 ·intro k hk; omega
 ·exact OnesAt.own (b := ⟨g, el, l.map enc ++ sp⟩) H R.length (by simp) (post := sp) rfl
theorem onesOwn {α : Type} {enc : α → Value} {w0 w : World} {S : List Nat} {L : List Blk} (H : SH w0 S w L) (i : Nat) {g : Nat} {T : TypeId} {l : List α} (hi : L[i]? = some ⟨g, T, l.map enc⟩) : OnesAt enc w (some ⟨g, 0, none⟩) l :=
 OnesAt.own (b := ⟨g, T, l.map enc⟩) H i hi (post := []) (by simp)
theorem putL_ones {α : Type} {enc : α → Value} (l : List α) (k : Nat) (x : α) : putL (l.map enc) k [enc x] = (l.set k x).map enc := by simp [putL, List.map_set]
end Go.W

/-
 More rules: copy.
-/
set_option linter.all false
namespace Go.W
open Go.RowKit
section
variable {P : Program} {N : Nat} {ops : Array Oper} {K : Env → World → Prop} {e : Env} {w w0 : World} {S : List Nat} {L : List Blk} {rest : List Oper} {o : Oper} {t : TypeId} {x y : Operand}
theorem OPS.copy {d el n sb so c c' : Nat} {b : Blk} {vs : List Value} (i k : Nat) (hg : o.guard = none) (hd : o.dst = some d) (hN : Nat.blt d N = true)
  (hop : o.op = .call { callee := .builtin .copy, args := #[x, y], argTypes := #[t, t] }) (hU : ∀ w, (underlying t).run P w = .ok (.slice el) w) (hs : ∀ w, (Go.sizeOf el).run P w = .ok 1 w)
  (hx : ev e x = .slice (some ⟨b.g, k, none⟩) n c) (hy : ev e y = .slice (some ⟨sb, so, none⟩) n c') (hn : vs.length = n) (hsrc : cellsAt w sb so vs) (h1 : (vs.all (·.oneCell')) = true)
  (H : SH w0 S w L) (hi : L[i]? = some b) (hk : k + n ≤ b.cs.length)
  (h : ∀ w', SH w0 S w' (L.set i ⟨b.g, b.T, putL b.cs k vs⟩) → OPS P N .plain ops K rest (upd e d (.int .i64 n)) w') : OPS P N .plain ops K (o :: rest) e w := by
 obtain ⟨w', hr, H'⟩ := store_run (P := P) vs w L b k 0 H hi (by omega) h1
 refine OPS.act (v := .int .i64 n) (w' := w') hg hd hN ?_ (h w' H')
 unfold execOp; rw [hop]
 have hl := loadCells_at (P := P) vs hsrc
 rw [hn] at hl
 simp [resolve, invoke, builtin, hx, hy, Builtin.copy_, hU, hs, Builtin.lenOf, Builtin.firstCells, hl, hr, goInt]
end
section
variable {P : Program} {e : Env} {w : World} {ty t : TypeId} {x y : Operand}
end
theorem intCell {w0 w : World} {S : List Nat} {L : List Blk} (H : SH w0 S w L) (i : Nat) {g : Nat} {T : TypeId} {ms : List Int} (hi : L[i]? = some ⟨g, T, ms.map fun n => Value.int .i64 n⟩) (k : Nat) (hk : k < ms.length) : w.cell? ⟨g, k, none⟩ = some (.int .i64 (ms.getD k 0)) :=
 H.ldL i hi k (by simp [hk])
def openN (l : List Bool) : Nat := (l.filter (fun b => !b)).length
theorem openN_set : ∀ (l : List Bool) (k : Nat), k < l.length → l.getD k false = false → openN (l.set k true) < openN l
 | [], _, h, _ => by simp at h
 | b :: l, 0, _, hb => by
  simp at hb; subst hb
  simp [openN]
 | b :: l, k + 1, h, hb => by
  have := openN_set l k (by simpa using h) (by simpa using hb)
  cases b <;> simpa [openN] using this
end Go.W

/-
 Arguments, read: what the cells of a datum are, type by type.
-/
set_option linter.all false
namespace Go.W
open Go.RowKit Go.Deep
theorem exists_list {α : Type} {p : Nat → α → Prop} : ∀ (n : Nat), (∀ i, i < n → ∃ a, p i a) → ∃ l : List α, l.length = n ∧ ∀ i (h : i < l.length), p i l[i]
 | 0, _ => ⟨[], rfl, fun i h => absurd h (by simp)⟩
 | n + 1, h => by
  obtain ⟨l, h1, h2⟩ := exists_list (p := p) n fun i hi => h i (by omega)
  obtain ⟨a, ha⟩ := h n (by omega)
  refine ⟨l ++ [a], by simp [h1], fun i hi => ?_⟩
  by_cases hl : i < l.length
  ·rw [List.getElem_append_left hl]; exact h2 i hl
  ·simp only [List.length_append, List.length_cons, List.length_nil] at hi
   obtain rfl : i = n := by omega
   rw [List.getElem_append_right (by omega)]
   simpa [h1] using ha
section
variable {H : Type} {enc : TypeId × Value → H} {P : Program} {w : World} {base : Nat} {spare : Nat → Bool} {held : Bool}
structure Rd (enc : TypeId × Value → H) (P : Program) (w : World) (base : Nat) (spare : Nat → Bool) (held : Bool) (t : TypeId) {α : Type} (cells : α → List Value) (G : α → Prop) : Prop where
 out : ∀ fuel cs x, DataW.trod enc P w base spare held fuel t cs = some x → ∃ a, cs = cells a ∧ G a
theorem Rd.int {t : TypeId} {k : IntKind} (ht : P.underlying t = some (.int k)) : Rd enc P w base spare held t (fun n : Int => [.int k n]) (fun n => (Lit.int k n).wf = true) :=
 ⟨fun _ _ _ h => by obtain ⟨n, h1, _, h2⟩ := DataW.trod_int ht h; exact ⟨n, h1, h2⟩⟩
theorem Rd.bool {t : TypeId} (ht : P.underlying t = some .bool) : Rd enc P w base spare held t (fun b : Bool => [.bool b]) (fun _ => True) :=
 ⟨fun _ _ _ h => by obtain ⟨n, h1, _⟩ := DataW.trod_bool ht h; exact ⟨n, h1, trivial⟩⟩
theorem Rd.mono {t : TypeId} {α : Type} {cells : α → List Value} {G G' : α → Prop} (h : Rd enc P w base spare held t cells G) (hG : ∀ a, G a → G' a) : Rd enc P w base spare held t cells G' :=
 ⟨fun f cs x hx => by obtain ⟨a, h1, h2⟩ := h.out f cs x hx; exact ⟨a, h1, hG a h2⟩⟩
structure SlA (α : Type) where
 A : Option Addr
 cap : Nat
 l : List α
def slCells {α : Type} (s : SlA α) : List Value := [.slice s.A s.l.length s.cap]
structure SlG {α : Type} (w : World) (sz : Nat) (cells : α → List Value) (G : α → Prop) (s : SlA α) : Prop where
 rows : RowsAt sz cells w s.A s.l
 len : s.l.length ≤ maxLen
 all : ∀ a ∈ s.l, G a
 le : s.l.length ≤ s.cap
theorem cellsAt_of {b : Nat} : ∀ (vs : List Value) (o : Nat), (∀ j (h : j < vs.length), w.cell? ⟨b, o + j, none⟩ = some vs[j]) → cellsAt w b o vs
 | [], _, _ => trivial
 | v :: vs, o, h => ⟨h 0 (by simp), cellsAt_of vs (o + 1) fun j hj => by
   have := h (j + 1) (by simpa using hj)
   rw [show o + 1 + j = o + (j + 1) by omega]; exact this⟩
theorem Rd.slice {t e : TypeId} {sz : Nat} {α : Type} {cells : α → List Value} {G : α → Prop} (ht : P.underlying t = some (.slice e)) (hs : P.cellsOf e = sz) (h0 : 0 < sz) (he : Rd enc P w base spare held e cells G) :
  Rd enc P w base spare held t (slCells (α := α)) (SlG w sz cells G) := ⟨fun fuel cs x h => by
 rcases open_slice ht h with ⟨h1, _⟩ | ⟨a, len, cap, m, n, D, Pl, rfl, hb, hl, hm, hmm, _, hx⟩
 ·exact ⟨⟨none, 0, []⟩, h1, ⟨RowsAt.nil, by simp, by simp, by simp⟩⟩
 ·rw [hs] at hx
  have hlm : len ≤ m := by rw [hmm]; split <;> omega
  obtain ⟨l, h1, h2⟩ := exists_list (p := fun i (q : α) => G q ∧ w.cells? base (a.add (i * sz)) sz = some (cells q)) len fun i hi => by
   obtain ⟨cs', c1, c2⟩ := hx i (by omega)
   obtain ⟨q, rfl, hq⟩ := he.out _ _ _ c2
   exact ⟨q, hq, c1⟩
  refine ⟨⟨some a, cap, l⟩, by simp [slCells, h1], ⟨fun k hk => ?_, ?_, fun q hq => ?_, by show l.length ≤ cap; omega⟩⟩
  ·have hk : k < l.length := hk
   obtain ⟨b, o, spot⟩ := a
   have hspot : spot = none := by
    obtain ⟨_, hlen, hc⟩ := World.cells?_some (h2 0 (by omega)).2
    have h3 := hc 0 h0
    rw [List.getElem?_eq_getElem (by omega)] at h3
    simpa [Addr.add] using World.cell?_spot h3
   subst hspot
   refine ⟨b, o, rfl, ?_⟩
   obtain ⟨_, hlen, hc⟩ := World.cells?_some (h2 k hk).2
   refine cellsAt_of _ _ fun j hj => ?_
   have hj : j < (cells l[k]).length := hj
   have h3 := hc j (by omega)
   rw [addr_add, addr_add] at h3
   rw [h3]; exact List.getElem?_eq_getElem hj
  ·show l.length ≤ maxLen; omega
  ·obtain ⟨i, hi, rfl⟩ := List.mem_iff_getElem.1 hq
   exact (h2 i hi).1⟩
theorem RowsAt.ones {α : Type} {f : α → Value} {A : Option Addr} {l : List α} (h : RowsAt 1 (fun a => [f a]) w A l) : OnesAt f w A l := fun k hk => by
 obtain ⟨b, o, h1, h2⟩ := h k hk
 exact ⟨b, o, h1, by simpa using h2.1⟩
structure RdF (enc : TypeId × Value → H) (P : Program) (w : World) (base : Nat) (spare : Nat → Bool) (held : Bool) (fs : List Field) (off tot : Nat) {α : Type} (cells : α → List Value) (G : α → Prop) : Prop where
 out : ∀ cs : List Value, cs.length = tot → (∀ (i : Nat) (f : Field), fs[i]? = some f → ∃ n x, DataW.trod enc P w base spare held n f.type ((cs.drop f.offset).take (P.cellsOf f.type)) = some x) → ∃ a, cs.drop off = cells a ∧ G a
theorem RdF.nil {off : Nat} : RdF enc P w base spare held [] off off (fun _ : Unit => []) (fun _ => True) := ⟨fun cs h _ => ⟨(), by rw [List.drop_eq_nil_of_le (by omega)], trivial⟩⟩
theorem RdF.cons {f : Field} {fs : List Field} {off tot sz : Nat} {α β : Type} {cA : α → List Value} {cB : β → List Value} {GA : α → Prop} {GB : β → Prop} {T : TypeId} (hA : Rd enc P w base spare held T cA GA) (hT : f.type = T) (ho : f.offset = off) (hs : P.cellsOf T = sz)
  (hB : RdF enc P w base spare held fs (off + sz) tot cB GB) : RdF enc P w base spare held (f :: fs) off tot (fun p : α × β => cA p.1 ++ cB p.2) (fun p => GA p.1 ∧ GB p.2) := ⟨fun cs hl h => by
 subst hT
 obtain ⟨n, x, hx⟩ := h 0 f rfl
 obtain ⟨a, ha, ga⟩ := hA.out _ _ _ hx
 obtain ⟨b, hb, gb⟩ := hB.out cs hl fun i f' hf => h (i + 1) f' (by simpa using hf)
 refine ⟨(a, b), ?_, ga, gb⟩
 rw [ho, hs] at ha
 simp only
 rw [← ha, ← hb, ← List.drop_drop, List.take_append_drop]⟩
theorem Rd.struct {t : TypeId} {fs : List Field} {tot : Nat} {α : Type} {cells : α → List Value} {G : α → Prop} (ht : P.underlying t = some (.struct fs.toArray)) (hs : P.cellsOf t = tot) (hF : RdF enc P w base spare held fs 0 tot cells G) : Rd enc P w base spare held t cells G := ⟨fun fuel cs x h => by
 obtain ⟨xs, n, _, _, hl, hxl, hx⟩ := DataW.trod_struct ht h
 obtain ⟨a, h1, h2⟩ := hF.out cs (by omega) fun i f hf => by
  have h3 := hx i f (by simpa using hf)
  have hi : i < fs.length := (List.getElem?_eq_some_iff.1 hf).1
  rw [List.getElem?_eq_getElem (by simp at hxl; omega)] at h3
  exact ⟨n, _, h3⟩
 exact ⟨a, by simpa using h1, h2⟩⟩
theorem Rd.conv {t : TypeId} {α β : Type} {cells : α → List Value} {G : α → Prop} (h : Rd enc P w base spare held t cells G) (f : α → β) {cells' : β → List Value} {G' : β → Prop} (hc : ∀ a, cells a = cells' (f a)) (hG : ∀ a, G a → G' (f a)) : Rd enc P w base spare held t cells' G' :=
 ⟨fun fu cs x hx => by obtain ⟨a, h1, h2⟩ := h.out fu cs x hx; exact ⟨f a, h1.trans (hc a), hG a h2⟩⟩
theorem Rd.argN {t : TypeId} {α : Type} {cells : α → List Value} {G : α → Prop} {vs : Array Value} {d : DataW H} {p : List MemPlace} (h : Rd enc P w base spare held t cells G) (ht : DataW.Trod enc P w base spare held t (.agg vs) d p) : ∃ a, vs = (cells a).toArray ∧ G a := by
 obtain ⟨fuel, hf⟩ := ht
 obtain ⟨a, h1, h2⟩ := h.out _ _ _ hf
 refine ⟨a, ?_, h2⟩
 have : vs.toList = cells a := by simpa [Value.cells] using h1
 rw [← this]
end
end Go.W

/-
 Lists that are being written, element by element.
-/
set_option linter.all false
namespace Go.W
open Go.RowKit
def mixL {α : Type} (l m : List α) (j : Nat) : List α := l.take j ++ m.drop j
theorem mixL_length {α : Type} {l m : List α} {j : Nat} (h : l.length = m.length) (hj : j ≤ l.length) : (mixL l m j).length = l.length := by simp [mixL]; omega
theorem mixL_zero {α : Type} (l m : List α) : mixL l m 0 = m := by simp [mixL]
theorem mixL_all {α : Type} {l m : List α} (h : l.length = m.length) : mixL l m l.length = l := by
 unfold mixL
 rw [List.take_length, List.drop_eq_nil_of_le (by omega), List.append_nil]
theorem mixL_get {α : Type} {l m : List α} {j : Nat} (h : l.length = m.length) (hj : j < l.length) : (mixL l m j)[j]? = m[j]? := by
 have e1 : (l.take j).length = j := by simp; omega
 unfold mixL
 rw [List.getElem?_append_right (by omega), e1]
 simp
theorem mixL_set {α : Type} {l m : List α} {j : Nat} (h : l.length = m.length) (hj : j < l.length) : (mixL l m j).set j (l[j]) = mixL l m (j + 1) := by
 have e1 : (l.take j).length = j := by simp; omega
 unfold mixL
 rw [List.set_append_right _ _ (by omega), e1, Nat.sub_self, List.drop_eq_getElem_cons (show j < m.length by omega), List.set_cons_zero, ← List.take_append_getElem hj, List.append_assoc]
 rfl
theorem OnesAt.atK {α : Type} {enc : α → Value} {w : World} {b o : Nat} {l : List α} (h : OnesAt enc w (some ⟨b, o, none⟩) l) {k : Nat} (hk : k < l.length) : w.cell? ⟨b, o + k, none⟩ = some (enc (l[k]'hk)) := by
 obtain ⟨b', o', h1, h2⟩ := h k hk
 cases h1; exact h2
theorem OnesAt.cells {α : Type} {enc : α → Value} {w : World} {b : Nat} : ∀ {o : Nat} {l : List α}, OnesAt enc w (some ⟨b, o, none⟩) l → cellsAt w b o (l.map enc)
 | _, [], _ => trivial
 | o, a :: l, h => ⟨h.atK (k := 0) (Nat.zero_lt_succ _), OnesAt.cells fun k hk => ⟨b, o + 1, rfl, by
   have := h.atK (k := k + 1) (by simpa using hk)
   rw [show o + 1 + k = o + (k + 1) by omega]; exact this⟩⟩
theorem putL_pre {α : Type} {enc : α → Value} (l : List α) (post : List Value) (k : Nat) (x : α) (hk : k < l.length) : putL (l.map enc ++ post) k [enc x] = (l.set k x).map enc ++ post := by
 simp only [putL]
 rw [List.set_append_left _ _ (by simpa using hk), List.map_set]
end Go.W

/-
 Guards within guards.
-/
set_option linter.all false
namespace Go.W
open Go.RowKit
structure GB (v : Value) (want q : Bool) : Prop where
 out : v = .bool want ↔ q = true
theorem GB.b {v : Value} {b want : Bool} (h : v = .bool b) : GB v want (b == want) := ⟨by subst h; cases b <;> cases want <;> simp⟩
theorem GB.g {v : Value} {b1 w1 b2 want : Bool} (h : v = gv b1 w1 (.bool b2)) : GB v want ((b1 == w1) && (b2 == want)) := ⟨by
 subst h
 by_cases h1 : b1 = w1
 ·subst h1; cases b2 <;> cases want <;> simp [gv]
 ·simp [gv, h1, undef]⟩
section
variable {P : Program} {N : Nat} {m : Md} {ops : Array Oper} {K : Env → World → Prop} {e : Env} {w : World} {rest : List Oper} {o : Oper}
theorem yielded_gb {a : Act} {j dj : Nat} {want q : Bool} (hj : ops[j]?.bind (·.dst) = some dj) (h : GB (envOf a dj) want q) : (yielded ops a.tmps j == some want) = q := by
 have h2 := h.out
 unfold yielded
 simp only [envOf, undef] at h2
 rw [hj]
 simp only [Option.bind_some]
 cases ht : a.tmps[dj]? with
 | none =>
  simp only [Array.getD_eq_getD_getElem?, ht, Option.getD_none] at h2
  cases q with
  | true => simp at h2
  | false => rfl
 | some u =>
  simp only [Array.getD_eq_getD_getElem?, ht, Option.getD_some] at h2
  cases u with
  | bool x =>
   cases q with
   | true =>
    have := h2.2 rfl
    cases this; simp
   | false =>
    have hne : x ≠ want := fun e => by subst e; have := h2.1 rfl; cases this
    simp [hne]
  | _ =>
   cases q with
   | true => have := h2.2 rfl; cases this
   | false => rfl
theorem OPS.gvalN {d j dj : Nat} {want q : Bool} {v : Value} (hg : o.guard = some (j, want)) (hj : ops[j]?.bind (·.dst) = some dj) (hb : GB (e dj) want q) (hd : o.dst = some d) (hN : Nat.blt d N = true)
  (hE : q = true → Ev P e w o.type o.op v) (h : OPS P N m ops K rest (upd e d (gv q true v)) w) : OPS P N m ops K (o :: rest) e w :=
 ⟨fun a h1 h2 h3 => by
  have hn := h.run (a.put (some d) (gv q true v)) (by rw [envOf_put _ h2 hN, h1]) (by rw [size_put]; exact h2) (by rw [defers_put]; exact h3)
  have hy := yielded_gb (a := a) (want := want) (q := q) hj (h1 ▸ hb)
  have hwt : Region.wanted o (yielded ops a.tmps) = q := by simp only [Region.wanted, hg]; exact hy
  cases q with
  | true =>
   have hr := fun w' hb => (hE rfl).run w' hb o rfl rfl
   rw [← h1, ← eval_eq] at hr
   have hgv : gv true true v = v := by simp [gv]
   rw [hgv] at hn
   cases m with
   | plain =>
    simp only at hn ⊢
    unfold wpList
    rw [if_pos hwt]
    refine .inl ?_
    unfold Oper.wp
    rw [hr w (Below.refl _ _)]
    simp only [Oper.upon, hd]
    exact hn
   | still =>
    simp only at hn ⊢
    unfold wpStill
    rw [if_pos hwt]
    unfold Oper.still
    rw [hr w (Below.refl _ _)]
    simp only [Oper.stillUpon, hd]
    exact ⟨trivial, hn⟩
   | quiet =>
    simp only at hn ⊢
    unfold wpQuiet
    rw [if_pos hwt]
    refine ⟨v, fun w' hb => ?_, by rw [hd]; exact hn⟩
    unfold Oper.quietAt
    rw [hr w' hb]
    exact ⟨rfl, rfl⟩
  | false =>
   have hgv : gv false true v = undef := by simp [gv]
   rw [hgv] at hn
   cases m with
   | plain => simp only at hn ⊢; unfold wpList; rw [hwt, hd]; exact hn
   | still => simp only at hn ⊢; unfold wpStill; rw [hwt, hd]; exact hn
   | quiet => simp only at hn ⊢; unfold wpQuiet; rw [hwt, hd]; exact hn⟩
theorem OPS.gcallN {α : Type} [Inhabited α] (val : α → Value) (R : α → World → Prop) {d j dj : Nat} {want q : Bool} {f : FuncId} {args : List Value}
  (hC : q = true → Calls P f args.toArray w fun e' w' => ∃ x, e' = .returned (val x) ∧ R x w' ∧ Below w.heap.size w w') (hg : o.guard = some (j, want)) (hj : ops[j]?.bind (·.dst) = some dj) (hb : GB (e dj) want q) (hd : o.dst = some d) (hN : Nat.blt d N = true)
  (hE : q = true → EvC P e o.op f args)
  (h : ∀ x w', (q = true → R x w') → Below w.heap.size w w' → OPS P N .plain ops K rest (upd e d (gv q true (val x))) w') : OPS P N .plain ops K (o :: rest) e w :=
 ⟨fun a h1 h2 h3 => by
  have hy := yielded_gb (a := a) (want := want) (q := q) hj (h1 ▸ hb)
  have hwt : Region.wanted o (yielded ops a.tmps) = q := by simp only [Region.wanted, hg]; exact hy
  simp only
  unfold wpList
  cases q with
  | true =>
   rw [if_pos hwt]
   refine .inl ?_
   unfold Oper.wp
   have hr := (hE rfl).run w o rfl
   rw [← h1, ← eval_eq] at hr
   rw [hr]
   refine (hC rfl).mono fun e' w' ⟨x, he, hR, hb2⟩ => ?_
   subst he
   have hn := (h x w' (fun _ => hR) hb2).run (a.put (some d) (gv true true (val x))) (by rw [envOf_put _ h2 hN, h1]) (by rw [size_put]; exact h2) (by rw [defers_put]; exact h3)
   have hgv : gv true true (val x) = val x := by simp [gv]
   rw [hgv] at hn
   rw [hd]
   exact hn
  | false =>
   have hn := (h default w (fun hx => by cases hx) (Below.refl _ _)).run (a.put (some d) (gv false true (val default))) (by rw [envOf_put _ h2 hN, h1]) (by rw [size_put]; exact h2) (by rw [defers_put]; exact h3)
   have hgv : gv false true (val default) = undef := by simp [gv]
   rw [hgv] at hn
   rw [hwt, hd]; exact hn⟩
end
section
variable {P : Program} {e : Env} {w : World} {ty : TypeId} {x y c : Operand}
theorem Ev.pickAnd2 {q b u : Bool} (hg : q = true) (hc : ev e c = .bool b) (hx : ev e x = gv (q && (b == true)) true (.bool u)) (hy : ev e y = .bool false) : Ev P e w ty (.pick c x y) (.bool (b && u)) := by
 have := Ev.pick (P := P) (w := w) (ty := ty) (x := x) (y := y) hc
 cases b <;> simpa [hx, hy, gv, hg] using this
theorem Ev.pickOr2 {q b u : Bool} (hg : q = true) (hc : ev e c = .bool b) (hx : ev e x = .bool true) (hy : ev e y = gv (q && (b == false)) true (.bool u)) : Ev P e w ty (.pick c x y) (.bool (b || u)) := by
 have := Ev.pick (P := P) (w := w) (ty := ty) (x := x) (y := y) hc
 cases b <;> simpa [hx, hy, gv, hg] using this
end
section
variable {P : Program} {N : Nat} {Kn : Env → World → Prop} {Kx : Nat → Env → World → Prop} {Kr : Env → World → Prop} {e : Env} {w : World}
theorem WP.cut {c : Code} (M : List Nat) (I : Env → World → Prop) (h : WP P N c (fun e' w' => Agree M e' e ∧ I e' w') Kx Kr e w) (hk : ∀ u w', I u w' → Kn (W.mix M u e) w') : WP P N c Kn Kx Kr e w :=
 WP.mono h (fun e' w' hh => by rw [hh.1.eq]; exact hk e' w' hh.2) (fun _ _ _ h => h) (fun _ _ h => h)
end
theorem beqT {b want : Bool} (h : b = want) : (b == want) = true := by simp [h]
end Go.W
