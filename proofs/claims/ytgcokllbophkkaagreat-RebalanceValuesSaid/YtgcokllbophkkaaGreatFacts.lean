/-
  The types and functions of this seat, as the walk wants them (written by a program from the translation).
-/
import Derived.Test.YtgcokllbophkkaaGreatProg
import Derived.Test.YtgcokllbophkkaaGreatEng
import Derived.OrdersHeld
import Derived.Laws.CopyRow
import Derived.Deep.Slices
import Derived.ChangeOld
import Derived.ProofKit
import Derived.OpenShut
set_option linter.all false
set_option maxHeartbeats 4000000
namespace Go.Proofs.YtgcokllbophkkaaGreat
open Go Go.W
def jjj : Nat → Option Bool
  | 2 => some false
  | 3 => some false
  | 4 => some false
  | 5 => some false
  | 6 => some false
  | 21 => some false
  | 22 => some false
  | 23 => some true
  | 24 => some true
  | 25 => some false
  | 26 => some false
  | 27 => some true
  | 28 => some true
  | 31 => some false
  | 32 => some false
  | 33 => some true
  | 34 => some true
  | 35 => some false
  | 48 => some true
  | 49 => some true
  | 50 => some false
  | 56 => some false
  | 57 => some true
  | 58 => some true
  | 61 => some false
  | 67 => some true
  | 68 => some true
  | 70 => some true
  | 71 => some true
  | 74 => some false
  | 78 => some true
  | 79 => some true
  | 80 => some true
  | 81 => some true
  | 82 => some true
  | 83 => some true
  | 84 => some true
  | 85 => some true
  | 89 => some false
  | 90 => some false
  | 100 => some false
  | 107 => some true
  | 108 => some true
  | 117 => some true
  | 118 => some true
  | 121 => some false
  | 122 => some true
  | 123 => some true
  | 126 => some true
  | 127 => some true
  | 135 => some true
  | 136 => some true
  | 150 => some true
  | 151 => some true
  | 153 => some false
  | 154 => some false
  | 157 => some false
  | 158 => some true
  | 159 => some true
  | 161 => some false
  | 162 => some false
  | 166 => some false
  | 171 => some false
  | 173 => some true
  | 174 => some true
  | 175 => some false
  | 178 => some true
  | 179 => some true
  | 186 => some false
  | 188 => some true
  | 189 => some true
  | 191 => some false
  | 198 => some false
  | 200 => some true
  | 201 => some true
  | 202 => some false
  | 207 => some false
  | 209 => some false
  | 210 => some true
  | 211 => some true
  | 212 => some true
  | 213 => some true
  | 218 => some false
  | 221 => some false
  | 222 => some true
  | 223 => some true
  | 224 => some true
  | 225 => some true
  | 228 => some false
  | 236 => some false
  | 238 => some false
  | 239 => some false
  | 243 => some false
  | 245 => some false
  | _ => none
theorem j6 {t : Nat} {v : _} (h : jjj t = some v) : ∀ w, (isAgg t).run Tryz.prog w = .ok v w := by
  unfold jjj at h
  split at h <;> (try cases h)
  · exact Tryz.isAgg2
  · exact Tryz.isAgg3
  · exact Tryz.isAgg4
  · exact Tryz.isAgg5
  · exact Tryz.isAgg6
  · exact Tryz.isAgg21
  · exact Tryz.isAgg22
  · exact Tryz.isAgg23
  · exact Tryz.isAgg24
  · exact Tryz.isAgg25
  · exact Tryz.isAgg26
  · exact Tryz.isAgg27
  · exact Tryz.isAgg28
  · exact Tryz.isAgg31
  · exact Tryz.isAgg32
  · exact Tryz.isAgg33
  · exact Tryz.isAgg34
  · exact Tryz.isAgg35
  · exact Tryz.isAgg48
  · exact Tryz.isAgg49
  · exact Tryz.isAgg50
  · exact Tryz.isAgg56
  · exact Tryz.isAgg57
  · exact Tryz.isAgg58
  · exact Tryz.isAgg61
  · exact Tryz.isAgg67
  · exact Tryz.isAgg68
  · exact Tryz.isAgg70
  · exact Tryz.isAgg71
  · exact Tryz.isAgg74
  · exact Tryz.isAgg78
  · exact Tryz.isAgg79
  · exact Tryz.isAgg80
  · exact Tryz.isAgg81
  · exact Tryz.isAgg82
  · exact Tryz.isAgg83
  · exact Tryz.isAgg84
  · exact Tryz.isAgg85
  · exact Tryz.isAgg89
  · exact Tryz.isAgg90
  · exact Tryz.isAgg100
  · exact Tryz.isAgg107
  · exact Tryz.isAgg108
  · exact Tryz.isAgg117
  · exact Tryz.isAgg118
  · exact Tryz.isAgg121
  · exact Tryz.isAgg122
  · exact Tryz.isAgg123
  · exact Tryz.isAgg126
  · exact Tryz.isAgg127
  · exact Tryz.isAgg135
  · exact Tryz.isAgg136
  · exact Tryz.isAgg150
  · exact Tryz.isAgg151
  · exact Tryz.isAgg153
  · exact Tryz.isAgg154
  · exact Tryz.isAgg157
  · exact Tryz.isAgg158
  · exact Tryz.isAgg159
  · exact Tryz.isAgg161
  · exact Tryz.isAgg162
  · exact Tryz.isAgg166
  · exact Tryz.isAgg171
  · exact Tryz.isAgg173
  · exact Tryz.isAgg174
  · exact Tryz.isAgg175
  · exact Tryz.isAgg178
  · exact Tryz.isAgg179
  · exact Tryz.isAgg186
  · exact Tryz.isAgg188
  · exact Tryz.isAgg189
  · exact Tryz.isAgg191
  · exact Tryz.isAgg198
  · exact Tryz.isAgg200
  · exact Tryz.isAgg201
  · exact Tryz.isAgg202
  · exact Tryz.isAgg207
  · exact Tryz.isAgg209
  · exact Tryz.isAgg210
  · exact Tryz.isAgg211
  · exact Tryz.isAgg212
  · exact Tryz.isAgg213
  · exact Tryz.isAgg218
  · exact Tryz.isAgg221
  · exact Tryz.isAgg222
  · exact Tryz.isAgg223
  · exact Tryz.isAgg224
  · exact Tryz.isAgg225
  · exact Tryz.isAgg228
  · exact Tryz.isAgg236
  · exact Tryz.isAgg238
  · exact Tryz.isAgg239
  · exact Tryz.isAgg243
  · exact Tryz.isAgg245
def jfw : Nat → Option Nat
  | 2 => some 1
  | 3 => some 1
  | 4 => some 1
  | 5 => some 1
  | 6 => some 1
  | 21 => some 1
  | 22 => some 1
  | 23 => some 2
  | 24 => some 2
  | 25 => some 1
  | 26 => some 1
  | 27 => some 5
  | 28 => some 5
  | 31 => some 1
  | 32 => some 1
  | 33 => some 2
  | 34 => some 2
  | 35 => some 1
  | 48 => some 2
  | 49 => some 2
  | 50 => some 1
  | 56 => some 1
  | 57 => some 6
  | 58 => some 6
  | 61 => some 1
  | 67 => some 2
  | 68 => some 2
  | 70 => some 4
  | 71 => some 4
  | 74 => some 1
  | 78 => some 2
  | 79 => some 2
  | 80 => some 4
  | 81 => some 4
  | 82 => some 13
  | 83 => some 13
  | 84 => some 3
  | 85 => some 3
  | 89 => some 1
  | 90 => some 1
  | 100 => some 1
  | 107 => some 6
  | 108 => some 6
  | 117 => some 4
  | 118 => some 4
  | 121 => some 1
  | 122 => some 2
  | 123 => some 2
  | 126 => some 4
  | 127 => some 4
  | 135 => some 4
  | 136 => some 4
  | 150 => some 4
  | 151 => some 4
  | 153 => some 1
  | 154 => some 1
  | 157 => some 1
  | 158 => some 2
  | 159 => some 2
  | 161 => some 1
  | 162 => some 1
  | 166 => some 1
  | 171 => some 1
  | 173 => some 3
  | 174 => some 3
  | 175 => some 1
  | 178 => some 6
  | 179 => some 6
  | 186 => some 1
  | 188 => some 3
  | 189 => some 3
  | 191 => some 1
  | 198 => some 1
  | 200 => some 2
  | 201 => some 2
  | 202 => some 1
  | 207 => some 1
  | 209 => some 1
  | 210 => some 3
  | 211 => some 3
  | 212 => some 4
  | 213 => some 4
  | 218 => some 1
  | 221 => some 1
  | 222 => some 3
  | 223 => some 3
  | 224 => some 3
  | 225 => some 3
  | 228 => some 1
  | 236 => some 1
  | 238 => some 1
  | 239 => some 1
  | 243 => some 1
  | 245 => some 1
  | _ => none
theorem j4 {t : Nat} {v : _} (h : jfw t = some v) : ∀ w, (Go.sizeOf t).run Tryz.prog w = .ok v w := by
  unfold jfw at h
  split at h <;> (try cases h)
  · exact Tryz.sizeOf2
  · exact Tryz.sizeOf3
  · exact Tryz.sizeOf4
  · exact Tryz.sizeOf5
  · exact Tryz.sizeOf6
  · exact Tryz.sizeOf21
  · exact Tryz.sizeOf22
  · exact Tryz.sizeOf23
  · exact Tryz.sizeOf24
  · exact Tryz.sizeOf25
  · exact Tryz.sizeOf26
  · exact Tryz.sizeOf27
  · exact Tryz.sizeOf28
  · exact Tryz.sizeOf31
  · exact Tryz.sizeOf32
  · exact Tryz.sizeOf33
  · exact Tryz.sizeOf34
  · exact Tryz.sizeOf35
  · exact Tryz.sizeOf48
  · exact Tryz.sizeOf49
  · exact Tryz.sizeOf50
  · exact Tryz.sizeOf56
  · exact Tryz.sizeOf57
  · exact Tryz.sizeOf58
  · exact Tryz.sizeOf61
  · exact Tryz.sizeOf67
  · exact Tryz.sizeOf68
  · exact Tryz.sizeOf70
  · exact Tryz.sizeOf71
  · exact Tryz.sizeOf74
  · exact Tryz.sizeOf78
  · exact Tryz.sizeOf79
  · exact Tryz.sizeOf80
  · exact Tryz.sizeOf81
  · exact Tryz.sizeOf82
  · exact Tryz.sizeOf83
  · exact Tryz.sizeOf84
  · exact Tryz.sizeOf85
  · exact Tryz.sizeOf89
  · exact Tryz.sizeOf90
  · exact Tryz.sizeOf100
  · exact Tryz.sizeOf107
  · exact Tryz.sizeOf108
  · exact Tryz.sizeOf117
  · exact Tryz.sizeOf118
  · exact Tryz.sizeOf121
  · exact Tryz.sizeOf122
  · exact Tryz.sizeOf123
  · exact Tryz.sizeOf126
  · exact Tryz.sizeOf127
  · exact Tryz.sizeOf135
  · exact Tryz.sizeOf136
  · exact Tryz.sizeOf150
  · exact Tryz.sizeOf151
  · exact Tryz.sizeOf153
  · exact Tryz.sizeOf154
  · exact Tryz.sizeOf157
  · exact Tryz.sizeOf158
  · exact Tryz.sizeOf159
  · exact Tryz.sizeOf161
  · exact Tryz.sizeOf162
  · exact Tryz.sizeOf166
  · exact Tryz.sizeOf171
  · exact Tryz.sizeOf173
  · exact Tryz.sizeOf174
  · exact Tryz.sizeOf175
  · exact Tryz.sizeOf178
  · exact Tryz.sizeOf179
  · exact Tryz.sizeOf186
  · exact Tryz.sizeOf188
  · exact Tryz.sizeOf189
  · exact Tryz.sizeOf191
  · exact Tryz.sizeOf198
  · exact Tryz.sizeOf200
  · exact Tryz.sizeOf201
  · exact Tryz.sizeOf202
  · exact Tryz.sizeOf207
  · exact Tryz.sizeOf209
  · exact Tryz.sizeOf210
  · exact Tryz.sizeOf211
  · exact Tryz.sizeOf212
  · exact Tryz.sizeOf213
  · exact Tryz.sizeOf218
  · exact Tryz.sizeOf221
  · exact Tryz.sizeOf222
  · exact Tryz.sizeOf223
  · exact Tryz.sizeOf224
  · exact Tryz.sizeOf225
  · exact Tryz.sizeOf228
  · exact Tryz.sizeOf236
  · exact Tryz.sizeOf238
  · exact Tryz.sizeOf239
  · exact Tryz.sizeOf243
  · exact Tryz.sizeOf245
def elT : Nat → Option Nat
  | 22 => some 85
  | 25 => some 81
  | 26 => some 68
  | 31 => some 49
  | 32 => some 3
  | 50 => some 127
  | 100 => some 32
  | 121 => some 151
  | 153 => some 159
  | 154 => some 4
  | 175 => some 179
  | 209 => some 213
  | 221 => some 225
  | _ => none
theorem x7 {t : Nat} {v : _} (h : elT t = some v) : ∀ w, (underlying t).run Tryz.prog w = .ok (.slice v) w := by
  unfold elT at h
  split at h <;> (try cases h)
  · exact Tryz.runUnderlying22
  · exact Tryz.runUnderlying25
  · exact Tryz.runUnderlying26
  · exact Tryz.runUnderlying31
  · exact Tryz.runUnderlying32
  · exact Tryz.runUnderlying50
  · exact Tryz.runUnderlying100
  · exact Tryz.runUnderlying121
  · exact Tryz.runUnderlying153
  · exact Tryz.runUnderlying154
  · exact Tryz.runUnderlying175
  · exact Tryz.runUnderlying209
  · exact Tryz.runUnderlying221
def zeroT : Nat → Option Value
  | 2 => some (.int .i64 0)
  | 3 => some (.int .i64 0)
  | 4 => some (.bool false)
  | 5 => some (.int .u8 0)
  | 6 => some (.int .u8 0)
  | 21 => some (.int .i32 0)
  | 22 => some (.slice none 0 0)
  | 23 => some (.agg #[.int .i64 0, .slice none 0 0])
  | 24 => some (.agg #[.int .i64 0, .slice none 0 0])
  | 25 => some (.slice none 0 0)
  | 26 => some (.slice none 0 0)
  | 27 => some (.agg #[.int .i64 0, .slice none 0 0, .slice none 0 0, .slice none 0 0, .int .i64 0])
  | 28 => some (.agg #[.int .i64 0, .slice none 0 0, .slice none 0 0, .slice none 0 0, .int .i64 0])
  | 31 => some (.slice none 0 0)
  | 32 => some (.slice none 0 0)
  | 33 => some (.agg #[.slice none 0 0, .slice none 0 0])
  | 34 => some (.agg #[.slice none 0 0, .slice none 0 0])
  | 35 => some (.int .i64 0)
  | 48 => some (.agg #[.int .i64 0, .slice none 0 0])
  | 49 => some (.agg #[.int .i64 0, .slice none 0 0])
  | 50 => some (.slice none 0 0)
  | 56 => some (.nilFunc)
  | 57 => some (.agg #[.int .i64 0, .slice none 0 0, .slice none 0 0, .slice none 0 0, .int .i64 0, .nilFunc])
  | 58 => some (.agg #[.int .i64 0, .slice none 0 0, .slice none 0 0, .slice none 0 0, .int .i64 0, .nilFunc])
  | 61 => some (.nilFunc)
  | 67 => some (.agg #[.int .i64 0, .int .i64 0])
  | 68 => some (.agg #[.int .i64 0, .int .i64 0])
  | 70 => some (.agg #[.int .i64 0, .int .i64 0, .slice none 0 0, .slice none 0 0])
  | 71 => some (.agg #[.int .i64 0, .int .i64 0, .slice none 0 0, .slice none 0 0])
  | 74 => some (.pointer none)
  | 78 => some (.agg #[.int .i64 0, .int .i64 0])
  | 79 => some (.agg #[.int .i64 0, .int .i64 0])
  | 80 => some (.agg #[.int .i64 0, .int .i64 0, .int .i64 0, .int .i64 0])
  | 81 => some (.agg #[.int .i64 0, .int .i64 0, .int .i64 0, .int .i64 0])
  | 82 => some (.agg #[.int .i64 0, .int .i64 0, .int .i64 0, .int .i64 0, .int .i64 0, .slice none 0 0, .slice none 0 0, .slice none 0 0, .int .i64 0, .int .i64 0, .int .i64 0, .int .i64 0, .int .i64 0])
  | 83 => some (.agg #[.int .i64 0, .int .i64 0, .int .i64 0, .int .i64 0, .int .i64 0, .slice none 0 0, .slice none 0 0, .slice none 0 0, .int .i64 0, .int .i64 0, .int .i64 0, .int .i64 0, .int .i64 0])
  | 84 => some (.agg #[.int .i64 0, .int .i64 0, .int .i64 0])
  | 85 => some (.agg #[.int .i64 0, .int .i64 0, .int .i64 0])
  | 89 => some (.nilFunc)
  | 90 => some (.pointer none)
  | 100 => some (.slice none 0 0)
  | 107 => some (.agg #[.slice none 0 0, .slice none 0 0, .slice none 0 0, .int .i64 0, .int .i64 0, .int .i64 0])
  | 108 => some (.agg #[.slice none 0 0, .slice none 0 0, .slice none 0 0, .int .i64 0, .int .i64 0, .int .i64 0])
  | 117 => some (.agg #[.int .i64 0, .int .i64 0, .slice none 0 0, .slice none 0 0])
  | 118 => some (.agg #[.int .i64 0, .int .i64 0, .slice none 0 0, .slice none 0 0])
  | 121 => some (.slice none 0 0)
  | 122 => some (.agg #[.int .i64 0, .slice none 0 0])
  | 123 => some (.agg #[.int .i64 0, .slice none 0 0])
  | 126 => some (.agg #[.int .i64 0, .int .i64 0, .int .i64 0, .int .i64 0])
  | 127 => some (.agg #[.int .i64 0, .int .i64 0, .int .i64 0, .int .i64 0])
  | 135 => some (.agg #[.slice none 0 0, .int .i64 0, .int .i64 0, .bool false])
  | 136 => some (.agg #[.slice none 0 0, .int .i64 0, .int .i64 0, .bool false])
  | 150 => some (.agg #[.int .i64 0, .int .i64 0, .int .i64 0, .int .i64 0])
  | 151 => some (.agg #[.int .i64 0, .int .i64 0, .int .i64 0, .int .i64 0])
  | 153 => some (.slice none 0 0)
  | 154 => some (.slice none 0 0)
  | 157 => some (.nilFunc)
  | 158 => some (.agg #[.int .i64 0, .int .i64 0])
  | 159 => some (.agg #[.int .i64 0, .int .i64 0])
  | 161 => some (.nilFunc)
  | 162 => some (.nilFunc)
  | 166 => some (.nilFunc)
  | 171 => some (.nilFunc)
  | 173 => some (.agg #[.int .i64 0, .slice none 0 0, .slice none 0 0])
  | 174 => some (.agg #[.int .i64 0, .slice none 0 0, .slice none 0 0])
  | 175 => some (.slice none 0 0)
  | 178 => some (.agg #[.int .i64 0, .int .i64 0, .int .i64 0, .bool false, .bool false, .int .i64 0])
  | 179 => some (.agg #[.int .i64 0, .int .i64 0, .int .i64 0, .bool false, .bool false, .int .i64 0])
  | 186 => some (.pointer none)
  | 188 => some (.agg #[.int .i64 0, .int .i64 0, .int .i64 0])
  | 189 => some (.agg #[.int .i64 0, .int .i64 0, .int .i64 0])
  | 191 => some (.nilFunc)
  | 198 => some (.pointer none)
  | 200 => some (.agg #[.int .i64 0, .int .i64 0])
  | 201 => some (.agg #[.int .i64 0, .int .i64 0])
  | 202 => some (.nilFunc)
  | 207 => some (.nilFunc)
  | 209 => some (.slice none 0 0)
  | 210 => some (.agg #[.nilFunc, .slice none 0 0, .int .i64 0])
  | 211 => some (.agg #[.nilFunc, .slice none 0 0, .int .i64 0])
  | 212 => some (.agg #[.int .i64 0, .int .i64 0, .int .i64 0, .int .i64 0])
  | 213 => some (.agg #[.int .i64 0, .int .i64 0, .int .i64 0, .int .i64 0])
  | 218 => some (.int .u64 0)
  | 221 => some (.slice none 0 0)
  | 222 => some (.agg #[.nilFunc, .slice none 0 0, .int .i64 0])
  | 223 => some (.agg #[.nilFunc, .slice none 0 0, .int .i64 0])
  | 224 => some (.agg #[.int .i64 0, .int .i64 0, .int .i64 0])
  | 225 => some (.agg #[.int .i64 0, .int .i64 0, .int .i64 0])
  | 228 => some (.int .i64 0)
  | 236 => some (.int .u32 0)
  | 238 => some (.int .u64 0)
  | 239 => some (.int .u64 0)
  | 243 => some (.pointer none)
  | 245 => some (.pointer none)
  | _ => none
theorem jd7 {t : Nat} {v : _} (h : zeroT t = some v) : ∀ w, (zeroValue t).run Tryz.prog w = .ok v w := by
  unfold zeroT at h
  split at h <;> (try cases h)
  · exact Tryz.zeroValue2
  · exact Tryz.zeroValue3
  · exact Tryz.zeroValue4
  · exact Tryz.zeroValue5
  · exact Tryz.zeroValue6
  · exact Tryz.zeroValue21
  · exact Tryz.zeroValue22
  · exact Tryz.zeroValue23
  · exact Tryz.zeroValue24
  · exact Tryz.zeroValue25
  · exact Tryz.zeroValue26
  · exact Tryz.zeroValue27
  · exact Tryz.zeroValue28
  · exact Tryz.zeroValue31
  · exact Tryz.zeroValue32
  · exact Tryz.zeroValue33
  · exact Tryz.zeroValue34
  · exact Tryz.zeroValue35
  · exact Tryz.zeroValue48
  · exact Tryz.zeroValue49
  · exact Tryz.zeroValue50
  · exact Tryz.zeroValue56
  · exact Tryz.zeroValue57
  · exact Tryz.zeroValue58
  · exact Tryz.zeroValue61
  · exact Tryz.zeroValue67
  · exact Tryz.zeroValue68
  · exact Tryz.zeroValue70
  · exact Tryz.zeroValue71
  · exact Tryz.zeroValue74
  · exact Tryz.zeroValue78
  · exact Tryz.zeroValue79
  · exact Tryz.zeroValue80
  · exact Tryz.zeroValue81
  · exact Tryz.zeroValue82
  · exact Tryz.zeroValue83
  · exact Tryz.zeroValue84
  · exact Tryz.zeroValue85
  · exact Tryz.zeroValue89
  · exact Tryz.zeroValue90
  · exact Tryz.zeroValue100
  · exact Tryz.zeroValue107
  · exact Tryz.zeroValue108
  · exact Tryz.zeroValue117
  · exact Tryz.zeroValue118
  · exact Tryz.zeroValue121
  · exact Tryz.zeroValue122
  · exact Tryz.zeroValue123
  · exact Tryz.zeroValue126
  · exact Tryz.zeroValue127
  · exact Tryz.zeroValue135
  · exact Tryz.zeroValue136
  · exact Tryz.zeroValue150
  · exact Tryz.zeroValue151
  · exact Tryz.zeroValue153
  · exact Tryz.zeroValue154
  · exact Tryz.zeroValue157
  · exact Tryz.zeroValue158
  · exact Tryz.zeroValue159
  · exact Tryz.zeroValue161
  · exact Tryz.zeroValue162
  · exact Tryz.zeroValue166
  · exact Tryz.zeroValue171
  · exact Tryz.zeroValue173
  · exact Tryz.zeroValue174
  · exact Tryz.zeroValue175
  · exact Tryz.zeroValue178
  · exact Tryz.zeroValue179
  · exact Tryz.zeroValue186
  · exact Tryz.zeroValue188
  · exact Tryz.zeroValue189
  · exact Tryz.zeroValue191
  · exact Tryz.zeroValue198
  · exact Tryz.zeroValue200
  · exact Tryz.zeroValue201
  · exact Tryz.zeroValue202
  · exact Tryz.zeroValue207
  · exact Tryz.zeroValue209
  · exact Tryz.zeroValue210
  · exact Tryz.zeroValue211
  · exact Tryz.zeroValue212
  · exact Tryz.zeroValue213
  · exact Tryz.zeroValue218
  · exact Tryz.zeroValue221
  · exact Tryz.zeroValue222
  · exact Tryz.zeroValue223
  · exact Tryz.zeroValue224
  · exact Tryz.zeroValue225
  · exact Tryz.zeroValue228
  · exact Tryz.zeroValue236
  · exact Tryz.zeroValue238
  · exact Tryz.zeroValue239
  · exact Tryz.zeroValue243
  · exact Tryz.zeroValue245
def jkx : Nat → Option Nat
  | 0 => some 0
  | 1 => some 1
  | _ => none
def jkn : Nat → Option Nat
  | 0 => some 0
  | 1 => some 2
  | 2 => some 3
  | 3 => some 4
  | _ => none
def jky : Nat → Option Nat
  | 0 => some 0
  | 1 => some 1
  | _ => none
def jkB : Nat → Option Nat
  | 0 => some 0
  | 1 => some 1
  | _ => none
def jjZ : Nat → Option Nat
  | 0 => some 0
  | 1 => some 5
  | _ => none
def jjt : Nat → Option Nat
  | 0 => some 0
  | 1 => some 1
  | _ => none
def jj8 : Nat → Option Nat
  | 0 => some 0
  | 1 => some 1
  | 2 => some 2
  | 3 => some 3
  | _ => none
def jj9 : Nat → Option Nat
  | 0 => some 0
  | 1 => some 1
  | _ => none
def jk9 : Nat → Option Nat
  | 0 => some 0
  | 1 => some 1
  | 2 => some 2
  | _ => none
def jjS : Nat → Option Nat
  | 0 => some 0
  | 1 => some 4
  | 2 => some 9
  | 3 => some 10
  | 4 => some 11
  | 5 => some 12
  | _ => none
def jkQ : Nat → Option Nat
  | 0 => some 0
  | 1 => some 1
  | 2 => some 2
  | _ => none
def jhx : Nat → Option Nat
  | 0 => some 0
  | 1 => some 1
  | 2 => some 2
  | 3 => some 3
  | 4 => some 4
  | 5 => some 5
  | _ => none
def jhj : Nat → Option Nat
  | 0 => some 0
  | 1 => some 1
  | 2 => some 2
  | 3 => some 3
  | _ => none
def jhl : Nat → Option Nat
  | 0 => some 0
  | 1 => some 1
  | _ => none
def jhV : Nat → Option Nat
  | 0 => some 0
  | 1 => some 1
  | 2 => some 2
  | 3 => some 3
  | _ => none
def jhF : Nat → Option Nat
  | 0 => some 0
  | 1 => some 1
  | 2 => some 2
  | 3 => some 3
  | _ => none
def jg9 : Nat → Option Nat
  | 0 => some 0
  | 1 => some 1
  | 2 => some 2
  | 3 => some 3
  | _ => none
def jhQ : Nat → Option Nat
  | 0 => some 0
  | 1 => some 1
  | _ => none
def jhP : Nat → Option Nat
  | 0 => some 0
  | 1 => some 2
  | _ => none
def jhS : Nat → Option Nat
  | 0 => some 0
  | 1 => some 1
  | 2 => some 2
  | 3 => some 3
  | 4 => some 4
  | 5 => some 5
  | _ => none
def jhT : Nat → Option Nat
  | 0 => some 0
  | 1 => some 1
  | _ => none
def jha : Nat → Option Nat
  | 0 => some 0
  | 1 => some 1
  | _ => none
def jhM : Nat → Option Nat
  | 0 => some 0
  | 1 => some 1
  | 2 => some 2
  | _ => none
def jhs : Nat → Option Nat
  | 0 => some 0
  | 1 => some 3
  | _ => none
def jhH : Nat → Option Nat
  | 0 => some 0
  | 1 => some 1
  | 2 => some 2
  | _ => none
def jhZ : Nat → Option Nat
  | 0 => some 0
  | 1 => some 2
  | _ => none
def jnB : Nat → Nat → Option Nat
  | 24, j => jkx j
  | 28, j => jkn j
  | 34, j => jky j
  | 49, j => jkB j
  | 58, j => jjZ j
  | 68, j => jjt j
  | 71, j => jj8 j
  | 79, j => jj9 j
  | 81, j => jk9 j
  | 83, j => jjS j
  | 85, j => jkQ j
  | 108, j => jhx j
  | 118, j => jhj j
  | 123, j => jhl j
  | 127, j => jhV j
  | 136, j => jhF j
  | 151, j => jg9 j
  | 159, j => jhQ j
  | 174, j => jhP j
  | 179, j => jhS j
  | 189, j => jhT j
  | 201, j => jha j
  | 211, j => jhM j
  | 213, j => jhs j
  | 223, j => jhH j
  | 225, j => jhZ j
  | _, _ => none
theorem jmX : ∀ b o w, (Instr.fieldAt 24 (.pointer (some ⟨b, o, none⟩)) 0).run Tryz.prog w = .ok (.pointer (some ⟨b, o + 0, none⟩)) w := j7 Tryz.runUnderlying24 rfl Tryz.sizeOf3 rfl rfl
theorem jlK : ∀ b o w, (Instr.fieldAt 24 (.pointer (some ⟨b, o, none⟩)) 1).run Tryz.prog w = .ok (.pointer (some ⟨b, o + 1, none⟩)) w := j7 Tryz.runUnderlying24 rfl Tryz.sizeOf22 rfl rfl
theorem jmG : ∀ b o w, (Instr.fieldAt 28 (.pointer (some ⟨b, o, none⟩)) 0).run Tryz.prog w = .ok (.pointer (some ⟨b, o + 0, none⟩)) w := j7 Tryz.runUnderlying28 rfl Tryz.sizeOf24 rfl rfl
theorem jlZ : ∀ b o w, (Instr.fieldAt 28 (.pointer (some ⟨b, o, none⟩)) 1).run Tryz.prog w = .ok (.pointer (some ⟨b, o + 2, none⟩)) w := j7 Tryz.runUnderlying28 rfl Tryz.sizeOf25 rfl rfl
theorem jne : ∀ b o w, (Instr.fieldAt 28 (.pointer (some ⟨b, o, none⟩)) 2).run Tryz.prog w = .ok (.pointer (some ⟨b, o + 3, none⟩)) w := j7 Tryz.runUnderlying28 rfl Tryz.sizeOf26 rfl rfl
theorem jml : ∀ b o w, (Instr.fieldAt 28 (.pointer (some ⟨b, o, none⟩)) 3).run Tryz.prog w = .ok (.pointer (some ⟨b, o + 4, none⟩)) w := j7 Tryz.runUnderlying28 rfl Tryz.sizeOf3 rfl rfl
theorem jlF : ∀ b o w, (Instr.fieldAt 34 (.pointer (some ⟨b, o, none⟩)) 0).run Tryz.prog w = .ok (.pointer (some ⟨b, o + 0, none⟩)) w := j7 Tryz.runUnderlying34 rfl Tryz.sizeOf31 rfl rfl
theorem jmW : ∀ b o w, (Instr.fieldAt 34 (.pointer (some ⟨b, o, none⟩)) 1).run Tryz.prog w = .ok (.pointer (some ⟨b, o + 1, none⟩)) w := j7 Tryz.runUnderlying34 rfl Tryz.sizeOf32 rfl rfl
theorem jlQ : ∀ b o w, (Instr.fieldAt 49 (.pointer (some ⟨b, o, none⟩)) 0).run Tryz.prog w = .ok (.pointer (some ⟨b, o + 0, none⟩)) w := j7 Tryz.runUnderlying49 rfl Tryz.sizeOf3 rfl rfl
theorem jmC : ∀ b o w, (Instr.fieldAt 49 (.pointer (some ⟨b, o, none⟩)) 1).run Tryz.prog w = .ok (.pointer (some ⟨b, o + 1, none⟩)) w := j7 Tryz.runUnderlying49 rfl Tryz.sizeOf32 rfl rfl
theorem jmN : ∀ b o w, (Instr.fieldAt 58 (.pointer (some ⟨b, o, none⟩)) 0).run Tryz.prog w = .ok (.pointer (some ⟨b, o + 0, none⟩)) w := j7 Tryz.runUnderlying58 rfl Tryz.sizeOf28 rfl rfl
theorem jlU : ∀ b o w, (Instr.fieldAt 58 (.pointer (some ⟨b, o, none⟩)) 1).run Tryz.prog w = .ok (.pointer (some ⟨b, o + 5, none⟩)) w := j7 Tryz.runUnderlying58 rfl Tryz.sizeOf56 rfl rfl
theorem jmT : ∀ b o w, (Instr.fieldAt 68 (.pointer (some ⟨b, o, none⟩)) 0).run Tryz.prog w = .ok (.pointer (some ⟨b, o + 0, none⟩)) w := j7 Tryz.runUnderlying68 rfl Tryz.sizeOf3 rfl rfl
theorem jlE : ∀ b o w, (Instr.fieldAt 68 (.pointer (some ⟨b, o, none⟩)) 1).run Tryz.prog w = .ok (.pointer (some ⟨b, o + 1, none⟩)) w := j7 Tryz.runUnderlying68 rfl Tryz.sizeOf3 rfl rfl
theorem jlH : ∀ b o w, (Instr.fieldAt 71 (.pointer (some ⟨b, o, none⟩)) 0).run Tryz.prog w = .ok (.pointer (some ⟨b, o + 0, none⟩)) w := j7 Tryz.runUnderlying71 rfl Tryz.sizeOf3 rfl rfl
theorem jmr : ∀ b o w, (Instr.fieldAt 71 (.pointer (some ⟨b, o, none⟩)) 1).run Tryz.prog w = .ok (.pointer (some ⟨b, o + 1, none⟩)) w := j7 Tryz.runUnderlying71 rfl Tryz.sizeOf3 rfl rfl
theorem jnb : ∀ b o w, (Instr.fieldAt 71 (.pointer (some ⟨b, o, none⟩)) 2).run Tryz.prog w = .ok (.pointer (some ⟨b, o + 2, none⟩)) w := j7 Tryz.runUnderlying71 rfl Tryz.sizeOf32 rfl rfl
theorem jm9 : ∀ b o w, (Instr.fieldAt 71 (.pointer (some ⟨b, o, none⟩)) 3).run Tryz.prog w = .ok (.pointer (some ⟨b, o + 3, none⟩)) w := j7 Tryz.runUnderlying71 rfl Tryz.sizeOf32 rfl rfl
theorem jlW : ∀ b o w, (Instr.fieldAt 79 (.pointer (some ⟨b, o, none⟩)) 0).run Tryz.prog w = .ok (.pointer (some ⟨b, o + 0, none⟩)) w := j7 Tryz.runUnderlying79 rfl Tryz.sizeOf3 rfl rfl
theorem jmF : ∀ b o w, (Instr.fieldAt 79 (.pointer (some ⟨b, o, none⟩)) 1).run Tryz.prog w = .ok (.pointer (some ⟨b, o + 1, none⟩)) w := j7 Tryz.runUnderlying79 rfl Tryz.sizeOf3 rfl rfl
theorem jl4 : ∀ b o w, (Instr.fieldAt 81 (.pointer (some ⟨b, o, none⟩)) 0).run Tryz.prog w = .ok (.pointer (some ⟨b, o + 0, none⟩)) w := j7 Tryz.runUnderlying81 rfl Tryz.sizeOf3 rfl rfl
theorem jlD : ∀ b o w, (Instr.fieldAt 81 (.pointer (some ⟨b, o, none⟩)) 1).run Tryz.prog w = .ok (.pointer (some ⟨b, o + 1, none⟩)) w := j7 Tryz.runUnderlying81 rfl Tryz.sizeOf3 rfl rfl
theorem jmu : ∀ b o w, (Instr.fieldAt 81 (.pointer (some ⟨b, o, none⟩)) 2).run Tryz.prog w = .ok (.pointer (some ⟨b, o + 2, none⟩)) w := j7 Tryz.runUnderlying81 rfl Tryz.sizeOf79 rfl rfl
theorem jl1 : ∀ b o w, (Instr.fieldAt 83 (.pointer (some ⟨b, o, none⟩)) 0).run Tryz.prog w = .ok (.pointer (some ⟨b, o + 0, none⟩)) w := j7 Tryz.runUnderlying83 rfl Tryz.sizeOf81 rfl rfl
theorem jmo : ∀ b o w, (Instr.fieldAt 83 (.pointer (some ⟨b, o, none⟩)) 1).run Tryz.prog w = .ok (.pointer (some ⟨b, o + 4, none⟩)) w := j7 Tryz.runUnderlying83 rfl Tryz.sizeOf28 rfl rfl
theorem jmI : ∀ b o w, (Instr.fieldAt 83 (.pointer (some ⟨b, o, none⟩)) 2).run Tryz.prog w = .ok (.pointer (some ⟨b, o + 9, none⟩)) w := j7 Tryz.runUnderlying83 rfl Tryz.sizeOf3 rfl rfl
theorem jmz : ∀ b o w, (Instr.fieldAt 83 (.pointer (some ⟨b, o, none⟩)) 3).run Tryz.prog w = .ok (.pointer (some ⟨b, o + 10, none⟩)) w := j7 Tryz.runUnderlying83 rfl Tryz.sizeOf3 rfl rfl
theorem jmg : ∀ b o w, (Instr.fieldAt 83 (.pointer (some ⟨b, o, none⟩)) 4).run Tryz.prog w = .ok (.pointer (some ⟨b, o + 11, none⟩)) w := j7 Tryz.runUnderlying83 rfl Tryz.sizeOf3 rfl rfl
theorem jlM : ∀ b o w, (Instr.fieldAt 83 (.pointer (some ⟨b, o, none⟩)) 5).run Tryz.prog w = .ok (.pointer (some ⟨b, o + 12, none⟩)) w := j7 Tryz.runUnderlying83 rfl Tryz.sizeOf3 rfl rfl
theorem jm1 : ∀ b o w, (Instr.fieldAt 85 (.pointer (some ⟨b, o, none⟩)) 0).run Tryz.prog w = .ok (.pointer (some ⟨b, o + 0, none⟩)) w := j7 Tryz.runUnderlying85 rfl Tryz.sizeOf3 rfl rfl
theorem jmk : ∀ b o w, (Instr.fieldAt 85 (.pointer (some ⟨b, o, none⟩)) 1).run Tryz.prog w = .ok (.pointer (some ⟨b, o + 1, none⟩)) w := j7 Tryz.runUnderlying85 rfl Tryz.sizeOf3 rfl rfl
theorem jlG : ∀ b o w, (Instr.fieldAt 85 (.pointer (some ⟨b, o, none⟩)) 2).run Tryz.prog w = .ok (.pointer (some ⟨b, o + 2, none⟩)) w := j7 Tryz.runUnderlying85 rfl Tryz.sizeOf3 rfl rfl
theorem jjm : ∀ b o w, (Instr.fieldAt 108 (.pointer (some ⟨b, o, none⟩)) 0).run Tryz.prog w = .ok (.pointer (some ⟨b, o + 0, none⟩)) w := j7 Tryz.runUnderlying108 rfl Tryz.sizeOf26 rfl rfl
theorem jjQ : ∀ b o w, (Instr.fieldAt 108 (.pointer (some ⟨b, o, none⟩)) 1).run Tryz.prog w = .ok (.pointer (some ⟨b, o + 1, none⟩)) w := j7 Tryz.runUnderlying108 rfl Tryz.sizeOf26 rfl rfl
theorem jjR : ∀ b o w, (Instr.fieldAt 108 (.pointer (some ⟨b, o, none⟩)) 2).run Tryz.prog w = .ok (.pointer (some ⟨b, o + 2, none⟩)) w := j7 Tryz.runUnderlying108 rfl Tryz.sizeOf100 rfl rfl
theorem jkb : ∀ b o w, (Instr.fieldAt 108 (.pointer (some ⟨b, o, none⟩)) 3).run Tryz.prog w = .ok (.pointer (some ⟨b, o + 3, none⟩)) w := j7 Tryz.runUnderlying108 rfl Tryz.sizeOf3 rfl rfl
theorem jjC : ∀ b o w, (Instr.fieldAt 108 (.pointer (some ⟨b, o, none⟩)) 4).run Tryz.prog w = .ok (.pointer (some ⟨b, o + 4, none⟩)) w := j7 Tryz.runUnderlying108 rfl Tryz.sizeOf3 rfl rfl
theorem jlu : ∀ b o w, (Instr.fieldAt 108 (.pointer (some ⟨b, o, none⟩)) 5).run Tryz.prog w = .ok (.pointer (some ⟨b, o + 5, none⟩)) w := j7 Tryz.runUnderlying108 rfl Tryz.sizeOf3 rfl rfl
theorem jkK : ∀ b o w, (Instr.fieldAt 118 (.pointer (some ⟨b, o, none⟩)) 0).run Tryz.prog w = .ok (.pointer (some ⟨b, o + 0, none⟩)) w := j7 Tryz.runUnderlying118 rfl Tryz.sizeOf3 rfl rfl
theorem jlh : ∀ b o w, (Instr.fieldAt 118 (.pointer (some ⟨b, o, none⟩)) 1).run Tryz.prog w = .ok (.pointer (some ⟨b, o + 1, none⟩)) w := j7 Tryz.runUnderlying118 rfl Tryz.sizeOf3 rfl rfl
theorem jkq : ∀ b o w, (Instr.fieldAt 118 (.pointer (some ⟨b, o, none⟩)) 2).run Tryz.prog w = .ok (.pointer (some ⟨b, o + 2, none⟩)) w := j7 Tryz.runUnderlying118 rfl Tryz.sizeOf32 rfl rfl
theorem jkS : ∀ b o w, (Instr.fieldAt 118 (.pointer (some ⟨b, o, none⟩)) 3).run Tryz.prog w = .ok (.pointer (some ⟨b, o + 3, none⟩)) w := j7 Tryz.runUnderlying118 rfl Tryz.sizeOf32 rfl rfl
theorem jjw : ∀ b o w, (Instr.fieldAt 123 (.pointer (some ⟨b, o, none⟩)) 0).run Tryz.prog w = .ok (.pointer (some ⟨b, o + 0, none⟩)) w := j7 Tryz.runUnderlying123 rfl Tryz.sizeOf3 rfl rfl
theorem jj2 : ∀ b o w, (Instr.fieldAt 123 (.pointer (some ⟨b, o, none⟩)) 1).run Tryz.prog w = .ok (.pointer (some ⟨b, o + 1, none⟩)) w := j7 Tryz.runUnderlying123 rfl Tryz.sizeOf121 rfl rfl
theorem jjo : ∀ b o w, (Instr.fieldAt 127 (.pointer (some ⟨b, o, none⟩)) 0).run Tryz.prog w = .ok (.pointer (some ⟨b, o + 0, none⟩)) w := j7 Tryz.runUnderlying127 rfl Tryz.sizeOf3 rfl rfl
theorem jjY : ∀ b o w, (Instr.fieldAt 127 (.pointer (some ⟨b, o, none⟩)) 1).run Tryz.prog w = .ok (.pointer (some ⟨b, o + 1, none⟩)) w := j7 Tryz.runUnderlying127 rfl Tryz.sizeOf3 rfl rfl
theorem jjX : ∀ b o w, (Instr.fieldAt 127 (.pointer (some ⟨b, o, none⟩)) 2).run Tryz.prog w = .ok (.pointer (some ⟨b, o + 2, none⟩)) w := j7 Tryz.runUnderlying127 rfl Tryz.sizeOf3 rfl rfl
theorem jjU : ∀ b o w, (Instr.fieldAt 127 (.pointer (some ⟨b, o, none⟩)) 3).run Tryz.prog w = .ok (.pointer (some ⟨b, o + 3, none⟩)) w := j7 Tryz.runUnderlying127 rfl Tryz.sizeOf3 rfl rfl
theorem jly : ∀ b o w, (Instr.fieldAt 136 (.pointer (some ⟨b, o, none⟩)) 0).run Tryz.prog w = .ok (.pointer (some ⟨b, o + 0, none⟩)) w := j7 Tryz.runUnderlying136 rfl Tryz.sizeOf32 rfl rfl
theorem jj5 : ∀ b o w, (Instr.fieldAt 136 (.pointer (some ⟨b, o, none⟩)) 1).run Tryz.prog w = .ok (.pointer (some ⟨b, o + 1, none⟩)) w := j7 Tryz.runUnderlying136 rfl Tryz.sizeOf3 rfl rfl
theorem jjB : ∀ b o w, (Instr.fieldAt 136 (.pointer (some ⟨b, o, none⟩)) 2).run Tryz.prog w = .ok (.pointer (some ⟨b, o + 2, none⟩)) w := j7 Tryz.runUnderlying136 rfl Tryz.sizeOf3 rfl rfl
theorem jla : ∀ b o w, (Instr.fieldAt 136 (.pointer (some ⟨b, o, none⟩)) 3).run Tryz.prog w = .ok (.pointer (some ⟨b, o + 3, none⟩)) w := j7 Tryz.runUnderlying136 rfl Tryz.sizeOf4 rfl rfl
theorem jkg : ∀ b o w, (Instr.fieldAt 151 (.pointer (some ⟨b, o, none⟩)) 0).run Tryz.prog w = .ok (.pointer (some ⟨b, o + 0, none⟩)) w := j7 Tryz.runUnderlying151 rfl Tryz.sizeOf3 rfl rfl
theorem jju : ∀ b o w, (Instr.fieldAt 151 (.pointer (some ⟨b, o, none⟩)) 1).run Tryz.prog w = .ok (.pointer (some ⟨b, o + 1, none⟩)) w := j7 Tryz.runUnderlying151 rfl Tryz.sizeOf3 rfl rfl
theorem jkD : ∀ b o w, (Instr.fieldAt 151 (.pointer (some ⟨b, o, none⟩)) 2).run Tryz.prog w = .ok (.pointer (some ⟨b, o + 2, none⟩)) w := j7 Tryz.runUnderlying151 rfl Tryz.sizeOf3 rfl rfl
theorem jln : ∀ b o w, (Instr.fieldAt 151 (.pointer (some ⟨b, o, none⟩)) 3).run Tryz.prog w = .ok (.pointer (some ⟨b, o + 3, none⟩)) w := j7 Tryz.runUnderlying151 rfl Tryz.sizeOf3 rfl rfl
theorem jkR : ∀ b o w, (Instr.fieldAt 159 (.pointer (some ⟨b, o, none⟩)) 0).run Tryz.prog w = .ok (.pointer (some ⟨b, o + 0, none⟩)) w := j7 Tryz.runUnderlying159 rfl Tryz.sizeOf3 rfl rfl
theorem jke : ∀ b o w, (Instr.fieldAt 159 (.pointer (some ⟨b, o, none⟩)) 1).run Tryz.prog w = .ok (.pointer (some ⟨b, o + 1, none⟩)) w := j7 Tryz.runUnderlying159 rfl Tryz.sizeOf3 rfl rfl
theorem jlr : ∀ b o w, (Instr.fieldAt 174 (.pointer (some ⟨b, o, none⟩)) 0).run Tryz.prog w = .ok (.pointer (some ⟨b, o + 0, none⟩)) w := j7 Tryz.runUnderlying174 rfl Tryz.sizeOf123 rfl rfl
theorem jjy : ∀ b o w, (Instr.fieldAt 174 (.pointer (some ⟨b, o, none⟩)) 1).run Tryz.prog w = .ok (.pointer (some ⟨b, o + 2, none⟩)) w := j7 Tryz.runUnderlying174 rfl Tryz.sizeOf32 rfl rfl
theorem jkL : ∀ b o w, (Instr.fieldAt 179 (.pointer (some ⟨b, o, none⟩)) 0).run Tryz.prog w = .ok (.pointer (some ⟨b, o + 0, none⟩)) w := j7 Tryz.runUnderlying179 rfl Tryz.sizeOf3 rfl rfl
theorem jjq : ∀ b o w, (Instr.fieldAt 179 (.pointer (some ⟨b, o, none⟩)) 1).run Tryz.prog w = .ok (.pointer (some ⟨b, o + 1, none⟩)) w := j7 Tryz.runUnderlying179 rfl Tryz.sizeOf3 rfl rfl
theorem jjH : ∀ b o w, (Instr.fieldAt 179 (.pointer (some ⟨b, o, none⟩)) 2).run Tryz.prog w = .ok (.pointer (some ⟨b, o + 2, none⟩)) w := j7 Tryz.runUnderlying179 rfl Tryz.sizeOf3 rfl rfl
theorem jlv : ∀ b o w, (Instr.fieldAt 179 (.pointer (some ⟨b, o, none⟩)) 3).run Tryz.prog w = .ok (.pointer (some ⟨b, o + 3, none⟩)) w := j7 Tryz.runUnderlying179 rfl Tryz.sizeOf4 rfl rfl
theorem jlm : ∀ b o w, (Instr.fieldAt 179 (.pointer (some ⟨b, o, none⟩)) 4).run Tryz.prog w = .ok (.pointer (some ⟨b, o + 4, none⟩)) w := j7 Tryz.runUnderlying179 rfl Tryz.sizeOf4 rfl rfl
theorem jjr : ∀ b o w, (Instr.fieldAt 179 (.pointer (some ⟨b, o, none⟩)) 5).run Tryz.prog w = .ok (.pointer (some ⟨b, o + 5, none⟩)) w := j7 Tryz.runUnderlying179 rfl Tryz.sizeOf3 rfl rfl
theorem jlo : ∀ b o w, (Instr.fieldAt 189 (.pointer (some ⟨b, o, none⟩)) 0).run Tryz.prog w = .ok (.pointer (some ⟨b, o + 0, none⟩)) w := j7 Tryz.runUnderlying189 rfl Tryz.sizeOf3 rfl rfl
theorem jkY : ∀ b o w, (Instr.fieldAt 189 (.pointer (some ⟨b, o, none⟩)) 1).run Tryz.prog w = .ok (.pointer (some ⟨b, o + 1, none⟩)) w := j7 Tryz.runUnderlying189 rfl Tryz.sizeOf159 rfl rfl
theorem jjW : ∀ b o w, (Instr.fieldAt 201 (.pointer (some ⟨b, o, none⟩)) 0).run Tryz.prog w = .ok (.pointer (some ⟨b, o + 0, none⟩)) w := j7 Tryz.runUnderlying201 rfl Tryz.sizeOf3 rfl rfl
theorem jkw : ∀ b o w, (Instr.fieldAt 201 (.pointer (some ⟨b, o, none⟩)) 1).run Tryz.prog w = .ok (.pointer (some ⟨b, o + 1, none⟩)) w := j7 Tryz.runUnderlying201 rfl Tryz.sizeOf3 rfl rfl
theorem jkz : ∀ b o w, (Instr.fieldAt 211 (.pointer (some ⟨b, o, none⟩)) 0).run Tryz.prog w = .ok (.pointer (some ⟨b, o + 0, none⟩)) w := j7 Tryz.runUnderlying211 rfl Tryz.sizeOf191 rfl rfl
theorem jk3 : ∀ b o w, (Instr.fieldAt 211 (.pointer (some ⟨b, o, none⟩)) 1).run Tryz.prog w = .ok (.pointer (some ⟨b, o + 1, none⟩)) w := j7 Tryz.runUnderlying211 rfl Tryz.sizeOf209 rfl rfl
theorem jjE : ∀ b o w, (Instr.fieldAt 211 (.pointer (some ⟨b, o, none⟩)) 2).run Tryz.prog w = .ok (.pointer (some ⟨b, o + 2, none⟩)) w := j7 Tryz.runUnderlying211 rfl Tryz.sizeOf3 rfl rfl
theorem jj7 : ∀ b o w, (Instr.fieldAt 213 (.pointer (some ⟨b, o, none⟩)) 0).run Tryz.prog w = .ok (.pointer (some ⟨b, o + 0, none⟩)) w := j7 Tryz.runUnderlying213 rfl Tryz.sizeOf189 rfl rfl
theorem jkl : ∀ b o w, (Instr.fieldAt 213 (.pointer (some ⟨b, o, none⟩)) 1).run Tryz.prog w = .ok (.pointer (some ⟨b, o + 3, none⟩)) w := j7 Tryz.runUnderlying213 rfl Tryz.sizeOf3 rfl rfl
theorem jkU : ∀ b o w, (Instr.fieldAt 223 (.pointer (some ⟨b, o, none⟩)) 0).run Tryz.prog w = .ok (.pointer (some ⟨b, o + 0, none⟩)) w := j7 Tryz.runUnderlying223 rfl Tryz.sizeOf202 rfl rfl
theorem jkG : ∀ b o w, (Instr.fieldAt 223 (.pointer (some ⟨b, o, none⟩)) 1).run Tryz.prog w = .ok (.pointer (some ⟨b, o + 1, none⟩)) w := j7 Tryz.runUnderlying223 rfl Tryz.sizeOf221 rfl rfl
theorem jlf : ∀ b o w, (Instr.fieldAt 223 (.pointer (some ⟨b, o, none⟩)) 2).run Tryz.prog w = .ok (.pointer (some ⟨b, o + 2, none⟩)) w := j7 Tryz.runUnderlying223 rfl Tryz.sizeOf3 rfl rfl
theorem jk8 : ∀ b o w, (Instr.fieldAt 225 (.pointer (some ⟨b, o, none⟩)) 0).run Tryz.prog w = .ok (.pointer (some ⟨b, o + 0, none⟩)) w := j7 Tryz.runUnderlying225 rfl Tryz.sizeOf201 rfl rfl
theorem jkd : ∀ b o w, (Instr.fieldAt 225 (.pointer (some ⟨b, o, none⟩)) 1).run Tryz.prog w = .ok (.pointer (some ⟨b, o + 2, none⟩)) w := j7 Tryz.runUnderlying225 rfl Tryz.sizeOf3 rfl rfl
theorem fldr_24 {k off : Nat} (h : jkx k = some off) : ∀ b o w, (Instr.fieldAt 24 (.pointer (some ⟨b, o, none⟩)) k).run Tryz.prog w = .ok (.pointer (some ⟨b, o + off, none⟩)) w := by
  unfold jkx at h
  split at h <;> (try cases h)
  · exact jmX
  · exact jlK
theorem fldr_28 {k off : Nat} (h : jkn k = some off) : ∀ b o w, (Instr.fieldAt 28 (.pointer (some ⟨b, o, none⟩)) k).run Tryz.prog w = .ok (.pointer (some ⟨b, o + off, none⟩)) w := by
  unfold jkn at h
  split at h <;> (try cases h)
  · exact jmG
  · exact jlZ
  · exact jne
  · exact jml
theorem fldr_34 {k off : Nat} (h : jky k = some off) : ∀ b o w, (Instr.fieldAt 34 (.pointer (some ⟨b, o, none⟩)) k).run Tryz.prog w = .ok (.pointer (some ⟨b, o + off, none⟩)) w := by
  unfold jky at h
  split at h <;> (try cases h)
  · exact jlF
  · exact jmW
theorem fldr_49 {k off : Nat} (h : jkB k = some off) : ∀ b o w, (Instr.fieldAt 49 (.pointer (some ⟨b, o, none⟩)) k).run Tryz.prog w = .ok (.pointer (some ⟨b, o + off, none⟩)) w := by
  unfold jkB at h
  split at h <;> (try cases h)
  · exact jlQ
  · exact jmC
theorem fldr_58 {k off : Nat} (h : jjZ k = some off) : ∀ b o w, (Instr.fieldAt 58 (.pointer (some ⟨b, o, none⟩)) k).run Tryz.prog w = .ok (.pointer (some ⟨b, o + off, none⟩)) w := by
  unfold jjZ at h
  split at h <;> (try cases h)
  · exact jmN
  · exact jlU
theorem fldr_68 {k off : Nat} (h : jjt k = some off) : ∀ b o w, (Instr.fieldAt 68 (.pointer (some ⟨b, o, none⟩)) k).run Tryz.prog w = .ok (.pointer (some ⟨b, o + off, none⟩)) w := by
  unfold jjt at h
  split at h <;> (try cases h)
  · exact jmT
  · exact jlE
theorem fldr_71 {k off : Nat} (h : jj8 k = some off) : ∀ b o w, (Instr.fieldAt 71 (.pointer (some ⟨b, o, none⟩)) k).run Tryz.prog w = .ok (.pointer (some ⟨b, o + off, none⟩)) w := by
  unfold jj8 at h
  split at h <;> (try cases h)
  · exact jlH
  · exact jmr
  · exact jnb
  · exact jm9
theorem fldr_79 {k off : Nat} (h : jj9 k = some off) : ∀ b o w, (Instr.fieldAt 79 (.pointer (some ⟨b, o, none⟩)) k).run Tryz.prog w = .ok (.pointer (some ⟨b, o + off, none⟩)) w := by
  unfold jj9 at h
  split at h <;> (try cases h)
  · exact jlW
  · exact jmF
theorem fldr_81 {k off : Nat} (h : jk9 k = some off) : ∀ b o w, (Instr.fieldAt 81 (.pointer (some ⟨b, o, none⟩)) k).run Tryz.prog w = .ok (.pointer (some ⟨b, o + off, none⟩)) w := by
  unfold jk9 at h
  split at h <;> (try cases h)
  · exact jl4
  · exact jlD
  · exact jmu
theorem fldr_83 {k off : Nat} (h : jjS k = some off) : ∀ b o w, (Instr.fieldAt 83 (.pointer (some ⟨b, o, none⟩)) k).run Tryz.prog w = .ok (.pointer (some ⟨b, o + off, none⟩)) w := by
  unfold jjS at h
  split at h <;> (try cases h)
  · exact jl1
  · exact jmo
  · exact jmI
  · exact jmz
  · exact jmg
  · exact jlM
theorem fldr_85 {k off : Nat} (h : jkQ k = some off) : ∀ b o w, (Instr.fieldAt 85 (.pointer (some ⟨b, o, none⟩)) k).run Tryz.prog w = .ok (.pointer (some ⟨b, o + off, none⟩)) w := by
  unfold jkQ at h
  split at h <;> (try cases h)
  · exact jm1
  · exact jmk
  · exact jlG
theorem jmD {k off : Nat} (h : jhx k = some off) : ∀ b o w, (Instr.fieldAt 108 (.pointer (some ⟨b, o, none⟩)) k).run Tryz.prog w = .ok (.pointer (some ⟨b, o + off, none⟩)) w := by
  unfold jhx at h
  split at h <;> (try cases h)
  · exact jjm
  · exact jjQ
  · exact jjR
  · exact jkb
  · exact jjC
  · exact jlu
theorem jmh {k off : Nat} (h : jhj k = some off) : ∀ b o w, (Instr.fieldAt 118 (.pointer (some ⟨b, o, none⟩)) k).run Tryz.prog w = .ok (.pointer (some ⟨b, o + off, none⟩)) w := by
  unfold jhj at h
  split at h <;> (try cases h)
  · exact jkK
  · exact jlh
  · exact jkq
  · exact jkS
theorem jmA {k off : Nat} (h : jhl k = some off) : ∀ b o w, (Instr.fieldAt 123 (.pointer (some ⟨b, o, none⟩)) k).run Tryz.prog w = .ok (.pointer (some ⟨b, o + off, none⟩)) w := by
  unfold jhl at h
  split at h <;> (try cases h)
  · exact jjw
  · exact jj2
theorem jl5 {k off : Nat} (h : jhV k = some off) : ∀ b o w, (Instr.fieldAt 127 (.pointer (some ⟨b, o, none⟩)) k).run Tryz.prog w = .ok (.pointer (some ⟨b, o + off, none⟩)) w := by
  unfold jhV at h
  split at h <;> (try cases h)
  · exact jjo
  · exact jjY
  · exact jjX
  · exact jjU
theorem jng {k off : Nat} (h : jhF k = some off) : ∀ b o w, (Instr.fieldAt 136 (.pointer (some ⟨b, o, none⟩)) k).run Tryz.prog w = .ok (.pointer (some ⟨b, o + off, none⟩)) w := by
  unfold jhF at h
  split at h <;> (try cases h)
  · exact jly
  · exact jj5
  · exact jjB
  · exact jla
theorem jm5 {k off : Nat} (h : jg9 k = some off) : ∀ b o w, (Instr.fieldAt 151 (.pointer (some ⟨b, o, none⟩)) k).run Tryz.prog w = .ok (.pointer (some ⟨b, o + off, none⟩)) w := by
  unfold jg9 at h
  split at h <;> (try cases h)
  · exact jkg
  · exact jju
  · exact jkD
  · exact jln
theorem jnc {k off : Nat} (h : jhQ k = some off) : ∀ b o w, (Instr.fieldAt 159 (.pointer (some ⟨b, o, none⟩)) k).run Tryz.prog w = .ok (.pointer (some ⟨b, o + off, none⟩)) w := by
  unfold jhQ at h
  split at h <;> (try cases h)
  · exact jkR
  · exact jke
theorem jmH {k off : Nat} (h : jhP k = some off) : ∀ b o w, (Instr.fieldAt 174 (.pointer (some ⟨b, o, none⟩)) k).run Tryz.prog w = .ok (.pointer (some ⟨b, o + off, none⟩)) w := by
  unfold jhP at h
  split at h <;> (try cases h)
  · exact jlr
  · exact jjy
theorem jmm {k off : Nat} (h : jhS k = some off) : ∀ b o w, (Instr.fieldAt 179 (.pointer (some ⟨b, o, none⟩)) k).run Tryz.prog w = .ok (.pointer (some ⟨b, o + off, none⟩)) w := by
  unfold jhS at h
  split at h <;> (try cases h)
  · exact jkL
  · exact jjq
  · exact jjH
  · exact jlv
  · exact jlm
  · exact jjr
theorem jmf {k off : Nat} (h : jhT k = some off) : ∀ b o w, (Instr.fieldAt 189 (.pointer (some ⟨b, o, none⟩)) k).run Tryz.prog w = .ok (.pointer (some ⟨b, o + off, none⟩)) w := by
  unfold jhT at h
  split at h <;> (try cases h)
  · exact jlo
  · exact jkY
theorem jlX {k off : Nat} (h : jha k = some off) : ∀ b o w, (Instr.fieldAt 201 (.pointer (some ⟨b, o, none⟩)) k).run Tryz.prog w = .ok (.pointer (some ⟨b, o + off, none⟩)) w := by
  unfold jha at h
  split at h <;> (try cases h)
  · exact jjW
  · exact jkw
theorem jl6 {k off : Nat} (h : jhM k = some off) : ∀ b o w, (Instr.fieldAt 211 (.pointer (some ⟨b, o, none⟩)) k).run Tryz.prog w = .ok (.pointer (some ⟨b, o + off, none⟩)) w := by
  unfold jhM at h
  split at h <;> (try cases h)
  · exact jkz
  · exact jk3
  · exact jjE
theorem jna {k off : Nat} (h : jhs k = some off) : ∀ b o w, (Instr.fieldAt 213 (.pointer (some ⟨b, o, none⟩)) k).run Tryz.prog w = .ok (.pointer (some ⟨b, o + off, none⟩)) w := by
  unfold jhs at h
  split at h <;> (try cases h)
  · exact jj7
  · exact jkl
theorem jmv {k off : Nat} (h : jhH k = some off) : ∀ b o w, (Instr.fieldAt 223 (.pointer (some ⟨b, o, none⟩)) k).run Tryz.prog w = .ok (.pointer (some ⟨b, o + off, none⟩)) w := by
  unfold jhH at h
  split at h <;> (try cases h)
  · exact jkU
  · exact jkG
  · exact jlf
theorem jmt {k off : Nat} (h : jhZ k = some off) : ∀ b o w, (Instr.fieldAt 225 (.pointer (some ⟨b, o, none⟩)) k).run Tryz.prog w = .ok (.pointer (some ⟨b, o + off, none⟩)) w := by
  unfold jhZ at h
  split at h <;> (try cases h)
  · exact jk8
  · exact jkd
theorem jaf {s k off : Nat} (h : jnB s k = some off) : ∀ b o w, (Instr.fieldAt s (.pointer (some ⟨b, o, none⟩)) k).run Tryz.prog w = .ok (.pointer (some ⟨b, o + off, none⟩)) w := by
  unfold jnB at h
  split at h
  · exact fldr_24 h
  · exact fldr_28 h
  · exact fldr_34 h
  · exact fldr_49 h
  · exact fldr_58 h
  · exact fldr_68 h
  · exact fldr_71 h
  · exact fldr_79 h
  · exact fldr_81 h
  · exact fldr_83 h
  · exact fldr_85 h
  · exact jmD h
  · exact jmh h
  · exact jmA h
  · exact jl5 h
  · exact jng h
  · exact jm5 h
  · exact jnc h
  · exact jmH h
  · exact jmm h
  · exact jmf h
  · exact jlX h
  · exact jl6 h
  · exact jna h
  · exact jmv h
  · exact jmt h
  · cases h
theorem sl_22 : jaG Tryz.prog 22 85 3 24 [.int .i64 0, .int .i64 0, .int .i64 0] := jaG.mk' (z := .agg #[.int .i64 0, .int .i64 0, .int .i64 0]) Tryz.underlying22 (by kernel_rfl) rfl rfl (by decide)
theorem sl_25 : jaG Tryz.prog 25 81 4 32 [.int .i64 0, .int .i64 0, .int .i64 0, .int .i64 0] := jaG.mk' (z := .agg #[.int .i64 0, .int .i64 0, .int .i64 0, .int .i64 0]) Tryz.underlying25 (by kernel_rfl) rfl rfl (by decide)
theorem sl_26 : jaG Tryz.prog 26 68 2 16 [.int .i64 0, .int .i64 0] := jaG.mk' (z := .agg #[.int .i64 0, .int .i64 0]) Tryz.underlying26 (by kernel_rfl) rfl rfl (by decide)
theorem sl_31 : jaG Tryz.prog 31 49 2 32 [.int .i64 0, .slice none 0 0] := jaG.mk' (z := .agg #[.int .i64 0, .slice none 0 0]) Tryz.underlying31 (by kernel_rfl) rfl rfl (by decide)
theorem sl_32 : jaG Tryz.prog 32 3 1 8 [.int .i64 0] := jaG.mk' (z := .int .i64 0) Tryz.underlying32 (by kernel_rfl) rfl rfl (by decide)
theorem sl_50 : jaG Tryz.prog 50 127 4 32 [.int .i64 0, .int .i64 0, .int .i64 0, .int .i64 0] := jaG.mk' (z := .agg #[.int .i64 0, .int .i64 0, .int .i64 0, .int .i64 0]) Tryz.underlying50 (by kernel_rfl) rfl rfl (by decide)
theorem sl_100 : jaG Tryz.prog 100 32 1 24 [.slice none 0 0] := jaG.mk' (z := .slice none 0 0) Tryz.underlying100 (by kernel_rfl) rfl rfl (by decide)
theorem sl_121 : jaG Tryz.prog 121 151 4 32 [.int .i64 0, .int .i64 0, .int .i64 0, .int .i64 0] := jaG.mk' (z := .agg #[.int .i64 0, .int .i64 0, .int .i64 0, .int .i64 0]) Tryz.underlying121 (by kernel_rfl) rfl rfl (by decide)
theorem sl_153 : jaG Tryz.prog 153 159 2 16 [.int .i64 0, .int .i64 0] := jaG.mk' (z := .agg #[.int .i64 0, .int .i64 0]) Tryz.underlying153 (by kernel_rfl) rfl rfl (by decide)
theorem sl_154 : jaG Tryz.prog 154 4 1 1 [.bool false] := jaG.mk' (z := .bool false) Tryz.underlying154 (by kernel_rfl) rfl rfl (by decide)
theorem sl_175 : jaG Tryz.prog 175 179 6 40 [.int .i64 0, .int .i64 0, .int .i64 0, .bool false, .bool false, .int .i64 0] := jaG.mk' (z := .agg #[.int .i64 0, .int .i64 0, .int .i64 0, .bool false, .bool false, .int .i64 0]) Tryz.underlying175 (by kernel_rfl) rfl rfl (by decide)
theorem sl_209 : jaG Tryz.prog 209 213 4 32 [.int .i64 0, .int .i64 0, .int .i64 0, .int .i64 0] := jaG.mk' (z := .agg #[.int .i64 0, .int .i64 0, .int .i64 0, .int .i64 0]) Tryz.underlying209 (by kernel_rfl) rfl rfl (by decide)
theorem sl_221 : jaG Tryz.prog 221 225 3 24 [.int .i64 0, .int .i64 0, .int .i64 0] := jaG.mk' (z := .agg #[.int .i64 0, .int .i64 0, .int .i64 0]) Tryz.underlying221 (by kernel_rfl) rfl rfl (by decide)
def slT : Nat → Option (Nat × Nat × Nat × List Value)
  | 22 => some (85, 3, 24, [.int .i64 0, .int .i64 0, .int .i64 0])
  | 25 => some (81, 4, 32, [.int .i64 0, .int .i64 0, .int .i64 0, .int .i64 0])
  | 26 => some (68, 2, 16, [.int .i64 0, .int .i64 0])
  | 31 => some (49, 2, 32, [.int .i64 0, .slice none 0 0])
  | 32 => some (3, 1, 8, [.int .i64 0])
  | 50 => some (127, 4, 32, [.int .i64 0, .int .i64 0, .int .i64 0, .int .i64 0])
  | 100 => some (32, 1, 24, [.slice none 0 0])
  | 121 => some (151, 4, 32, [.int .i64 0, .int .i64 0, .int .i64 0, .int .i64 0])
  | 153 => some (159, 2, 16, [.int .i64 0, .int .i64 0])
  | 154 => some (4, 1, 1, [.bool false])
  | 175 => some (179, 6, 40, [.int .i64 0, .int .i64 0, .int .i64 0, .bool false, .bool false, .int .i64 0])
  | 209 => some (213, 4, 32, [.int .i64 0, .int .i64 0, .int .i64 0, .int .i64 0])
  | 221 => some (225, 3, 24, [.int .i64 0, .int .i64 0, .int .i64 0])
  | _ => none
theorem z8 {t el sz bt : Nat} {zs : List Value} (h : slT t = some (el, sz, bt, zs)) : jaG Tryz.prog t el sz bt zs := by
  unfold slT at h
  split at h <;> (try cases h)
  · exact sl_22
  · exact sl_25
  · exact sl_26
  · exact sl_31
  · exact sl_32
  · exact sl_50
  · exact sl_100
  · exact sl_121
  · exact sl_153
  · exact sl_154
  · exact sl_175
  · exact sl_209
  · exact sl_221
theorem jmx {e : Env} {x0 : Operand} {n0 : Int} (h0 : ev e x0 = .int .i64 n0) : ∀ w, (Instr.build 24 #[(0, ev e x0)]).run Tryz.prog w = .ok (.agg #[.int .i64 n0, .slice none 0 0]) w := by
  intro w
  rw [h0]
  simp [Instr.build, go_sem]
theorem jiL {e : Env} {x0 x1 : Operand} {n0 : Int} {A1 : Option Addr} {l1 c1 : Nat} (h0 : ev e x0 = .int .i64 n0) (h1 : ev e x1 = .slice A1 l1 c1) : ∀ w, (Instr.build 24 #[(0, ev e x0), (1, ev e x1)]).run Tryz.prog w = .ok (.agg #[.int .i64 n0, .slice A1 l1 c1]) w := by
  intro w
  rw [h0, h1]
  simp [Instr.build, go_sem]
theorem jfu {e : Env} {x0 x1 x2 x3 : Operand} {v0_0 v0_1 : Value} {A1 : Option Addr} {l1 c1 : Nat} {A2 : Option Addr} {l2 c2 : Nat} {n3 : Int} (h0 : ev e x0 = .agg #[v0_0, v0_1]) (h1 : ev e x1 = .slice A1 l1 c1) (h2 : ev e x2 = .slice A2 l2 c2) (h3 : ev e x3 = .int .i64 n3) : ∀ w, (Instr.build 28 #[(0, ev e x0), (1, ev e x1), (2, ev e x2), (3, ev e x3)]).run Tryz.prog w = .ok (.agg #[v0_0, v0_1, .slice A1 l1 c1, .slice A2 l2 c2, .int .i64 n3]) w := by
  intro w
  rw [h0, h1, h2, h3]
  simp [Instr.build, go_sem]
theorem bld_34_ {e : Env}   : ∀ w, (Instr.build 34 #[]).run Tryz.prog w = .ok (.agg #[.slice none 0 0, .slice none 0 0]) w := by
  intro w
  simp [Instr.build, go_sem]
theorem jlS {e : Env} {x0 : Operand} {A0 : Option Addr} {l0 c0 : Nat} (h0 : ev e x0 = .slice A0 l0 c0) : ∀ w, (Instr.build 34 #[(0, ev e x0)]).run Tryz.prog w = .ok (.agg #[.slice A0 l0 c0, .slice none 0 0]) w := by
  intro w
  rw [h0]
  simp [Instr.build, go_sem]
theorem jlR {e : Env} {x0 : Operand} {A0 : Option Addr} {l0 c0 : Nat} (h0 : ev e x0 = .slice A0 l0 c0) : ∀ w, (Instr.build 34 #[(1, ev e x0)]).run Tryz.prog w = .ok (.agg #[.slice none 0 0, .slice A0 l0 c0]) w := by
  intro w
  rw [h0]
  simp [Instr.build, go_sem]
theorem bld_49_ {e : Env}   : ∀ w, (Instr.build 49 #[]).run Tryz.prog w = .ok (.agg #[.int .i64 0, .slice none 0 0]) w := by
  intro w
  simp [Instr.build, go_sem]
theorem jid {e : Env} {x0 : Operand} {n0 : Int} (h0 : ev e x0 = .int .i64 n0) : ∀ w, (Instr.build 49 #[(0, ev e x0)]).run Tryz.prog w = .ok (.agg #[.int .i64 n0, .slice none 0 0]) w := by
  intro w
  rw [h0]
  simp [Instr.build, go_sem]
theorem jey {e : Env} {x0 x1 : Operand} {n0 : Int} {A1 : Option Addr} {l1 c1 : Nat} (h0 : ev e x0 = .int .i64 n0) (h1 : ev e x1 = .slice A1 l1 c1) : ∀ w, (Instr.build 49 #[(0, ev e x0), (1, ev e x1)]).run Tryz.prog w = .ok (.agg #[.int .i64 n0, .slice A1 l1 c1]) w := by
  intro w
  rw [h0, h1]
  simp [Instr.build, go_sem]
theorem jmi {e : Env} {x0 : Operand} {A0 : Option Addr} {l0 c0 : Nat} (h0 : ev e x0 = .slice A0 l0 c0) : ∀ w, (Instr.build 49 #[(1, ev e x0)]).run Tryz.prog w = .ok (.agg #[.int .i64 0, .slice A0 l0 c0]) w := by
  intro w
  rw [h0]
  simp [Instr.build, go_sem]
theorem jme {e : Env} {x0 : Operand} {v0_0 v0_1 v0_2 v0_3 v0_4 : Value} (h0 : ev e x0 = .agg #[v0_0, v0_1, v0_2, v0_3, v0_4]) : ∀ w, (Instr.build 58 #[(0, ev e x0)]).run Tryz.prog w = .ok (.agg #[v0_0, v0_1, v0_2, v0_3, v0_4, .nilFunc]) w := by
  intro w
  rw [h0]
  simp [Instr.build, go_sem]
theorem jfR {e : Env} {x0 x1 : Operand} {n0 : Int} {n1 : Int} (h0 : ev e x0 = .int .i64 n0) (h1 : ev e x1 = .int .i64 n1) : ∀ w, (Instr.build 68 #[(0, ev e x0), (1, ev e x1)]).run Tryz.prog w = .ok (.agg #[.int .i64 n0, .int .i64 n1]) w := by
  intro w
  rw [h0, h1]
  simp [Instr.build, go_sem]
theorem jda {e : Env}   : ∀ w, (Instr.build 71 #[]).run Tryz.prog w = .ok (.agg #[.int .i64 0, .int .i64 0, .slice none 0 0, .slice none 0 0]) w := by
  intro w
  simp [Instr.build, go_sem]
theorem jiY {e : Env} {x0 x1 : Operand} {n0 : Int} {n1 : Int} (h0 : ev e x0 = .int .i64 n0) (h1 : ev e x1 = .int .i64 n1) : ∀ w, (Instr.build 71 #[(0, ev e x0), (1, ev e x1)]).run Tryz.prog w = .ok (.agg #[.int .i64 n0, .int .i64 n1, .slice none 0 0, .slice none 0 0]) w := by
  intro w
  rw [h0, h1]
  simp [Instr.build, go_sem]
theorem jfG {e : Env} {x0 x1 : Operand} {n0 : Int} {n1 : Int} (h0 : ev e x0 = .int .i64 n0) (h1 : ev e x1 = .int .i64 n1) : ∀ w, (Instr.build 71 #[(1, ev e x0), (0, ev e x1)]).run Tryz.prog w = .ok (.agg #[.int .i64 n1, .int .i64 n0, .slice none 0 0, .slice none 0 0]) w := by
  intro w
  rw [h0, h1]
  simp [Instr.build, go_sem]
theorem jl7 {e : Env} {x0 : Operand} {n0 : Int} (h0 : ev e x0 = .int .i64 n0) : ∀ w, (Instr.build 79 #[(1, ev e x0)]).run Tryz.prog w = .ok (.agg #[.int .i64 0, .int .i64 n0]) w := by
  intro w
  rw [h0]
  simp [Instr.build, go_sem]
theorem ji4 {e : Env} {x0 x1 : Operand} {n0 : Int} {v1_0 v1_1 : Value} (h0 : ev e x0 = .int .i64 n0) (h1 : ev e x1 = .agg #[v1_0, v1_1]) : ∀ w, (Instr.build 81 #[(1, ev e x0), (2, ev e x1)]).run Tryz.prog w = .ok (.agg #[.int .i64 0, .int .i64 n0, v1_0, v1_1]) w := by
  intro w
  rw [h0, h1]
  simp [Instr.build, go_sem]
theorem jjg {e : Env} {x0 x1 : Operand} {v0_0 v0_1 v0_2 v0_3 : Value} {v1_0 v1_1 v1_2 v1_3 v1_4 : Value} (h0 : ev e x0 = .agg #[v0_0, v0_1, v0_2, v0_3]) (h1 : ev e x1 = .agg #[v1_0, v1_1, v1_2, v1_3, v1_4]) : ∀ w, (Instr.build 83 #[(0, ev e x0), (1, ev e x1)]).run Tryz.prog w = .ok (.agg #[v0_0, v0_1, v0_2, v0_3, v1_0, v1_1, v1_2, v1_3, v1_4, .int .i64 0, .int .i64 0, .int .i64 0, .int .i64 0]) w := by
  intro w
  rw [h0, h1]
  simp [Instr.build, go_sem]
theorem jbi {e : Env} {x0 x1 x2 : Operand} {n0 : Int} {n1 : Int} {n2 : Int} (h0 : ev e x0 = .int .i64 n0) (h1 : ev e x1 = .int .i64 n1) (h2 : ev e x2 = .int .i64 n2) : ∀ w, (Instr.build 85 #[(0, ev e x0), (1, ev e x1), (2, ev e x2)]).run Tryz.prog w = .ok (.agg #[.int .i64 n0, .int .i64 n1, .int .i64 n2]) w := by
  intro w
  rw [h0, h1, h2]
  simp [Instr.build, go_sem]
theorem jib {e : Env}   : ∀ w, (Instr.build 108 #[]).run Tryz.prog w = .ok (.agg #[.slice none 0 0, .slice none 0 0, .slice none 0 0, .int .i64 0, .int .i64 0, .int .i64 0]) w := by
  intro w
  simp [Instr.build, go_sem]
theorem jeM {e : Env}   : ∀ w, (Instr.build 118 #[]).run Tryz.prog w = .ok (.agg #[.int .i64 0, .int .i64 0, .slice none 0 0, .slice none 0 0]) w := by
  intro w
  simp [Instr.build, go_sem]
theorem jcX {e : Env} {x0 x1 x2 x3 : Operand} {n0 : Int} {n1 : Int} {A2 : Option Addr} {l2 c2 : Nat} {A3 : Option Addr} {l3 c3 : Nat} (h0 : ev e x0 = .int .i64 n0) (h1 : ev e x1 = .int .i64 n1) (h2 : ev e x2 = .slice A2 l2 c2) (h3 : ev e x3 = .slice A3 l3 c3) : ∀ w, (Instr.build 118 #[(0, ev e x0), (1, ev e x1), (2, ev e x2), (3, ev e x3)]).run Tryz.prog w = .ok (.agg #[.int .i64 n0, .int .i64 n1, .slice A2 l2 c2, .slice A3 l3 c3]) w := by
  intro w
  rw [h0, h1, h2, h3]
  simp [Instr.build, go_sem]
theorem jgq {e : Env} {x0 : Operand} {n0 : Int} (h0 : ev e x0 = .int .i64 n0) : ∀ w, (Instr.build 123 #[(0, ev e x0)]).run Tryz.prog w = .ok (.agg #[.int .i64 n0, .slice none 0 0]) w := by
  intro w
  rw [h0]
  simp [Instr.build, go_sem]
theorem jik {e : Env}   : ∀ w, (Instr.build 127 #[]).run Tryz.prog w = .ok (.agg #[.int .i64 0, .int .i64 0, .int .i64 0, .int .i64 0]) w := by
  intro w
  simp [Instr.build, go_sem]
theorem jhC {e : Env} {x0 x1 : Operand} {n0 : Int} {n1 : Int} (h0 : ev e x0 = .int .i64 n0) (h1 : ev e x1 = .int .i64 n1) : ∀ w, (Instr.build 127 #[(0, ev e x0), (1, ev e x1)]).run Tryz.prog w = .ok (.agg #[.int .i64 n0, .int .i64 n1, .int .i64 0, .int .i64 0]) w := by
  intro w
  rw [h0, h1]
  simp [Instr.build, go_sem]
theorem je0 {e : Env} {x0 x1 x2 x3 : Operand} {n0 : Int} {n1 : Int} {n2 : Int} {n3 : Int} (h0 : ev e x0 = .int .i64 n0) (h1 : ev e x1 = .int .i64 n1) (h2 : ev e x2 = .int .i64 n2) (h3 : ev e x3 = .int .i64 n3) : ∀ w, (Instr.build 127 #[(0, ev e x0), (1, ev e x1), (2, ev e x2), (3, ev e x3)]).run Tryz.prog w = .ok (.agg #[.int .i64 n0, .int .i64 n1, .int .i64 n2, .int .i64 n3]) w := by
  intro w
  rw [h0, h1, h2, h3]
  simp [Instr.build, go_sem]
theorem jck {e : Env} {x0 x1 x2 x3 : Operand} {A0 : Option Addr} {l0 c0 : Nat} {n1 : Int} {n2 : Int} {b3 : Bool} (h0 : ev e x0 = .slice A0 l0 c0) (h1 : ev e x1 = .int .i64 n1) (h2 : ev e x2 = .int .i64 n2) (h3 : ev e x3 = .bool b3) : ∀ w, (Instr.build 136 #[(0, ev e x0), (1, ev e x1), (2, ev e x2), (3, ev e x3)]).run Tryz.prog w = .ok (.agg #[.slice A0 l0 c0, .int .i64 n1, .int .i64 n2, .bool b3]) w := by
  intro w
  rw [h0, h1, h2, h3]
  simp [Instr.build, go_sem]
theorem jdS {e : Env} {x0 x1 x2 : Operand} {n0 : Int} {n1 : Int} {n2 : Int} (h0 : ev e x0 = .int .i64 n0) (h1 : ev e x1 = .int .i64 n1) (h2 : ev e x2 = .int .i64 n2) : ∀ w, (Instr.build 151 #[(0, ev e x0), (1, ev e x1), (2, ev e x2)]).run Tryz.prog w = .ok (.agg #[.int .i64 n0, .int .i64 n1, .int .i64 n2, .int .i64 0]) w := by
  intro w
  rw [h0, h1, h2]
  simp [Instr.build, go_sem]
theorem jc8 {e : Env} {x0 x1 x2 x3 : Operand} {n0 : Int} {n1 : Int} {n2 : Int} {n3 : Int} (h0 : ev e x0 = .int .i64 n0) (h1 : ev e x1 = .int .i64 n1) (h2 : ev e x2 = .int .i64 n2) (h3 : ev e x3 = .int .i64 n3) : ∀ w, (Instr.build 151 #[(0, ev e x0), (1, ev e x1), (2, ev e x2), (3, ev e x3)]).run Tryz.prog w = .ok (.agg #[.int .i64 n0, .int .i64 n1, .int .i64 n2, .int .i64 n3]) w := by
  intro w
  rw [h0, h1, h2, h3]
  simp [Instr.build, go_sem]
theorem jhK {e : Env} {x0 x1 : Operand} {n0 : Int} {n1 : Int} (h0 : ev e x0 = .int .i64 n0) (h1 : ev e x1 = .int .i64 n1) : ∀ w, (Instr.build 159 #[(0, ev e x0), (1, ev e x1)]).run Tryz.prog w = .ok (.agg #[.int .i64 n0, .int .i64 n1]) w := by
  intro w
  rw [h0, h1]
  simp [Instr.build, go_sem]
theorem jbw {e : Env} {x0 x1 : Operand} {v0_0 v0_1 : Value} {A1 : Option Addr} {l1 c1 : Nat} (h0 : ev e x0 = .agg #[v0_0, v0_1]) (h1 : ev e x1 = .slice A1 l1 c1) : ∀ w, (Instr.build 174 #[(0, ev e x0), (1, ev e x1)]).run Tryz.prog w = .ok (.agg #[v0_0, v0_1, .slice A1 l1 c1]) w := by
  intro w
  rw [h0, h1]
  simp [Instr.build, go_sem]
theorem jeu {e : Env} {x0 x1 x2 x3 x4 : Operand} {n0 : Int} {n1 : Int} {n2 : Int} {b3 : Bool} {b4 : Bool} (h0 : ev e x0 = .int .i64 n0) (h1 : ev e x1 = .int .i64 n1) (h2 : ev e x2 = .int .i64 n2) (h3 : ev e x3 = .bool b3) (h4 : ev e x4 = .bool b4) : ∀ w, (Instr.build 179 #[(0, ev e x0), (1, ev e x1), (2, ev e x2), (3, ev e x3), (4, ev e x4)]).run Tryz.prog w = .ok (.agg #[.int .i64 n0, .int .i64 n1, .int .i64 n2, .bool b3, .bool b4, .int .i64 0]) w := by
  intro w
  rw [h0, h1, h2, h3, h4]
  simp [Instr.build, go_sem]
theorem jdA {e : Env} {x0 x1 x2 x3 x4 x5 : Operand} {n0 : Int} {n1 : Int} {n2 : Int} {b3 : Bool} {b4 : Bool} {n5 : Int} (h0 : ev e x0 = .int .i64 n0) (h1 : ev e x1 = .int .i64 n1) (h2 : ev e x2 = .int .i64 n2) (h3 : ev e x3 = .bool b3) (h4 : ev e x4 = .bool b4) (h5 : ev e x5 = .int .i64 n5) : ∀ w, (Instr.build 179 #[(0, ev e x0), (1, ev e x1), (2, ev e x2), (3, ev e x3), (4, ev e x4), (5, ev e x5)]).run Tryz.prog w = .ok (.agg #[.int .i64 n0, .int .i64 n1, .int .i64 n2, .bool b3, .bool b4, .int .i64 n5]) w := by
  intro w
  rw [h0, h1, h2, h3, h4, h5]
  simp [Instr.build, go_sem]
theorem jdU {e : Env} {x0 x1 x2 : Operand} {n0 : Int} {n1 : Int} {b2 : Bool} (h0 : ev e x0 = .int .i64 n0) (h1 : ev e x1 = .int .i64 n1) (h2 : ev e x2 = .bool b2) : ∀ w, (Instr.build 179 #[(0, ev e x0), (1, ev e x1), (4, ev e x2)]).run Tryz.prog w = .ok (.agg #[.int .i64 n0, .int .i64 n1, .int .i64 0, .bool false, .bool b2, .int .i64 0]) w := by
  intro w
  rw [h0, h1, h2]
  simp [Instr.build, go_sem]
theorem jlg {e : Env} {x0 : Operand} {n0 : Int} (h0 : ev e x0 = .int .i64 n0) : ∀ w, (Instr.build 189 #[(0, ev e x0)]).run Tryz.prog w = .ok (.agg #[.int .i64 n0, .int .i64 0, .int .i64 0]) w := by
  intro w
  rw [h0]
  simp [Instr.build, go_sem]
theorem jh2 {e : Env} {x0 x1 : Operand} {n0 : Int} {v1_0 v1_1 : Value} (h0 : ev e x0 = .int .i64 n0) (h1 : ev e x1 = .agg #[v1_0, v1_1]) : ∀ w, (Instr.build 189 #[(0, ev e x0), (1, ev e x1)]).run Tryz.prog w = .ok (.agg #[.int .i64 n0, v1_0, v1_1]) w := by
  intro w
  rw [h0, h1]
  simp [Instr.build, go_sem]
theorem jkp {e : Env} {x0 : Operand} {n0 : Int} (h0 : ev e x0 = .int .i64 n0) : ∀ w, (Instr.build 201 #[(0, ev e x0)]).run Tryz.prog w = .ok (.agg #[.int .i64 n0, .int .i64 0]) w := by
  intro w
  rw [h0]
  simp [Instr.build, go_sem]
theorem jhE {e : Env} {x0 x1 : Operand} {n0 : Int} {n1 : Int} (h0 : ev e x0 = .int .i64 n0) (h1 : ev e x1 = .int .i64 n1) : ∀ w, (Instr.build 201 #[(0, ev e x0), (1, ev e x1)]).run Tryz.prog w = .ok (.agg #[.int .i64 n0, .int .i64 n1]) w := by
  intro w
  rw [h0, h1]
  simp [Instr.build, go_sem]
theorem jj1 {e : Env} {x0 : Operand} {fn0 : Fn} {fa0 fb0 : Array Value} (h0 : ev e x0 = .func fn0 fa0 fb0) : ∀ w, (Instr.build 211 #[(0, ev e x0)]).run Tryz.prog w = .ok (.agg #[.func fn0 fa0 fb0, .slice none 0 0, .int .i64 0]) w := by
  intro w
  rw [h0]
  simp [Instr.build, go_sem]
theorem je6 {e : Env} {x0 x1 : Operand} {v0_0 v0_1 v0_2 : Value} {n1 : Int} (h0 : ev e x0 = .agg #[v0_0, v0_1, v0_2]) (h1 : ev e x1 = .int .i64 n1) : ∀ w, (Instr.build 213 #[(0, ev e x0), (1, ev e x1)]).run Tryz.prog w = .ok (.agg #[v0_0, v0_1, v0_2, .int .i64 n1]) w := by
  intro w
  rw [h0, h1]
  simp [Instr.build, go_sem]
theorem jjz {e : Env} {x0 : Operand} {fn0 : Fn} {fa0 fb0 : Array Value} (h0 : ev e x0 = .func fn0 fa0 fb0) : ∀ w, (Instr.build 223 #[(0, ev e x0)]).run Tryz.prog w = .ok (.agg #[.func fn0 fa0 fb0, .slice none 0 0, .int .i64 0]) w := by
  intro w
  rw [h0]
  simp [Instr.build, go_sem]
theorem jeW {e : Env} {x0 x1 : Operand} {v0_0 v0_1 : Value} {n1 : Int} (h0 : ev e x0 = .agg #[v0_0, v0_1]) (h1 : ev e x1 = .int .i64 n1) : ∀ w, (Instr.build 225 #[(0, ev e x0), (1, ev e x1)]).run Tryz.prog w = .ok (.agg #[v0_0, v0_1, .int .i64 n1]) w := by
  intro w
  rw [h0, h1]
  simp [Instr.build, go_sem]
theorem jfx {e : Env} {x0 : Operand} {v0_0 v0_1 v0_2 : Value} (h0 : ev e x0 = .agg #[v0_0, v0_1, v0_2]) : ∀ w, (Instr.buildSlice 22 1 #[(0, ev e x0)]).run Tryz.prog w = .ok (.slice (some ⟨w.heap.size, 0, none⟩) 1 1) (w.alloc (.cells ([v0_0, v0_1, v0_2] : List Value).toArray 85)) := by
  intro w
  rw [h0]
  simp [Instr.buildSlice, go_sem]
theorem jdt {e : Env} {x0 x1 x2 x3 x4 x5 : Operand} {v0_0 v0_1 v0_2 : Value} {v1_0 v1_1 v1_2 : Value} {v2_0 v2_1 v2_2 : Value} {v3_0 v3_1 v3_2 : Value} {v4_0 v4_1 v4_2 : Value} {v5_0 v5_1 v5_2 : Value} (h0 : ev e x0 = .agg #[v0_0, v0_1, v0_2]) (h1 : ev e x1 = .agg #[v1_0, v1_1, v1_2]) (h2 : ev e x2 = .agg #[v2_0, v2_1, v2_2]) (h3 : ev e x3 = .agg #[v3_0, v3_1, v3_2]) (h4 : ev e x4 = .agg #[v4_0, v4_1, v4_2]) (h5 : ev e x5 = .agg #[v5_0, v5_1, v5_2]) : ∀ w, (Instr.buildSlice 22 6 #[(0, ev e x0), (1, ev e x1), (2, ev e x2), (3, ev e x3), (4, ev e x4), (5, ev e x5)]).run Tryz.prog w = .ok (.slice (some ⟨w.heap.size, 0, none⟩) 6 6) (w.alloc (.cells ([v0_0, v0_1, v0_2, v1_0, v1_1, v1_2, v2_0, v2_1, v2_2, v3_0, v3_1, v3_2, v4_0, v4_1, v4_2, v5_0, v5_1, v5_2] : List Value).toArray 85)) := by
  intro w
  rw [h0, h1, h2, h3, h4, h5]
  simp [Instr.buildSlice, go_sem]
theorem jjb {e : Env} {x0 : Operand} {v0_0 v0_1 v0_2 v0_3 : Value} (h0 : ev e x0 = .agg #[v0_0, v0_1, v0_2, v0_3]) : ∀ w, (Instr.buildSlice 25 1 #[(0, ev e x0)]).run Tryz.prog w = .ok (.slice (some ⟨w.heap.size, 0, none⟩) 1 1) (w.alloc (.cells ([v0_0, v0_1, v0_2, v0_3] : List Value).toArray 81)) := by
  intro w
  rw [h0]
  simp [Instr.buildSlice, go_sem]
theorem ja4 {e : Env} {x0 : Operand} {v0_0 v0_1 : Value} (h0 : ev e x0 = .agg #[v0_0, v0_1]) : ∀ w, (Instr.buildSlice 26 1 #[(0, ev e x0)]).run Tryz.prog w = .ok (.slice (some ⟨w.heap.size, 0, none⟩) 1 1) (w.alloc (.cells ([v0_0, v0_1] : List Value).toArray 68)) := by
  intro w
  rw [h0]
  simp [Instr.buildSlice, go_sem]
theorem jg1 {e : Env} {x0 x1 : Operand} {v0_0 v0_1 : Value} {v1_0 v1_1 : Value} (h0 : ev e x0 = .agg #[v0_0, v0_1]) (h1 : ev e x1 = .agg #[v1_0, v1_1]) : ∀ w, (Instr.buildSlice 26 2 #[(0, ev e x0), (1, ev e x1)]).run Tryz.prog w = .ok (.slice (some ⟨w.heap.size, 0, none⟩) 2 2) (w.alloc (.cells ([v0_0, v0_1, v1_0, v1_1] : List Value).toArray 68)) := by
  intro w
  rw [h0, h1]
  simp [Instr.buildSlice, go_sem]
theorem jfP {e : Env} {x0 : Operand} {v0_0 v0_1 : Value} (h0 : ev e x0 = .agg #[v0_0, v0_1]) : ∀ w, (Instr.buildSlice 31 1 #[(0, ev e x0)]).run Tryz.prog w = .ok (.slice (some ⟨w.heap.size, 0, none⟩) 1 1) (w.alloc (.cells ([v0_0, v0_1] : List Value).toArray 49)) := by
  intro w
  rw [h0]
  simp [Instr.buildSlice, go_sem]
theorem jkI {e : Env}   : ∀ w, (Instr.buildSlice 32 0 #[]).run Tryz.prog w = .ok (.slice (some ⟨w.heap.size, 0, none⟩) 0 0) (w.alloc (.cells ([] : List Value).toArray 3)) := by
  intro w
  simp [Instr.buildSlice, go_sem]
theorem jaJ {e : Env} {x0 : Operand} {n0 : Int} (h0 : ev e x0 = .int .i64 n0) : ∀ w, (Instr.buildSlice 32 1 #[(0, ev e x0)]).run Tryz.prog w = .ok (.slice (some ⟨w.heap.size, 0, none⟩) 1 1) (w.alloc (.cells ([.int .i64 n0] : List Value).toArray 3)) := by
  intro w
  rw [h0]
  simp [Instr.buildSlice, go_sem]
theorem jeF {e : Env} {x0 x1 : Operand} {n0 : Int} {n1 : Int} (h0 : ev e x0 = .int .i64 n0) (h1 : ev e x1 = .int .i64 n1) : ∀ w, (Instr.buildSlice 32 2 #[(0, ev e x0), (1, ev e x1)]).run Tryz.prog w = .ok (.slice (some ⟨w.heap.size, 0, none⟩) 2 2) (w.alloc (.cells ([.int .i64 n0, .int .i64 n1] : List Value).toArray 3)) := by
  intro w
  rw [h0, h1]
  simp [Instr.buildSlice, go_sem]
theorem jft {e : Env} {x0 x1 x2 : Operand} {n0 : Int} {n1 : Int} {n2 : Int} (h0 : ev e x0 = .int .i64 n0) (h1 : ev e x1 = .int .i64 n1) (h2 : ev e x2 = .int .i64 n2) : ∀ w, (Instr.buildSlice 32 3 #[(0, ev e x0), (1, ev e x1), (2, ev e x2)]).run Tryz.prog w = .ok (.slice (some ⟨w.heap.size, 0, none⟩) 3 3) (w.alloc (.cells ([.int .i64 n0, .int .i64 n1, .int .i64 n2] : List Value).toArray 3)) := by
  intro w
  rw [h0, h1, h2]
  simp [Instr.buildSlice, go_sem]
theorem jfT {e : Env} {x0 : Operand} {v0_0 v0_1 v0_2 v0_3 : Value} (h0 : ev e x0 = .agg #[v0_0, v0_1, v0_2, v0_3]) : ∀ w, (Instr.buildSlice 50 1 #[(0, ev e x0)]).run Tryz.prog w = .ok (.slice (some ⟨w.heap.size, 0, none⟩) 1 1) (w.alloc (.cells ([v0_0, v0_1, v0_2, v0_3] : List Value).toArray 127)) := by
  intro w
  rw [h0]
  simp [Instr.buildSlice, go_sem]
theorem jg6 {e : Env} {x0 : Operand} {A0 : Option Addr} {l0 c0 : Nat} (h0 : ev e x0 = .slice A0 l0 c0) : ∀ w, (Instr.buildSlice 100 1 #[(0, ev e x0)]).run Tryz.prog w = .ok (.slice (some ⟨w.heap.size, 0, none⟩) 1 1) (w.alloc (.cells ([.slice A0 l0 c0] : List Value).toArray 32)) := by
  intro w
  rw [h0]
  simp [Instr.buildSlice, go_sem]
theorem jbV {e : Env} {x0 : Operand} {v0_0 v0_1 v0_2 v0_3 : Value} (h0 : ev e x0 = .agg #[v0_0, v0_1, v0_2, v0_3]) : ∀ w, (Instr.buildSlice 121 1 #[(0, ev e x0)]).run Tryz.prog w = .ok (.slice (some ⟨w.heap.size, 0, none⟩) 1 1) (w.alloc (.cells ([v0_0, v0_1, v0_2, v0_3] : List Value).toArray 151)) := by
  intro w
  rw [h0]
  simp [Instr.buildSlice, go_sem]
theorem jdE {e : Env} {x0 : Operand} {v0_0 v0_1 v0_2 v0_3 : Value} (h0 : ev e x0 = .agg #[v0_0, v0_1, v0_2, v0_3]) : ∀ w, (Instr.buildSlice 209 1 #[(0, ev e x0)]).run Tryz.prog w = .ok (.slice (some ⟨w.heap.size, 0, none⟩) 1 1) (w.alloc (.cells ([v0_0, v0_1, v0_2, v0_3] : List Value).toArray 213)) := by
  intro w
  rw [h0]
  simp [Instr.buildSlice, go_sem]
theorem jdB {e : Env} {x0 : Operand} {v0_0 v0_1 v0_2 : Value} (h0 : ev e x0 = .agg #[v0_0, v0_1, v0_2]) : ∀ w, (Instr.buildSlice 221 1 #[(0, ev e x0)]).run Tryz.prog w = .ok (.slice (some ⟨w.heap.size, 0, none⟩) 1 1) (w.alloc (.cells ([v0_0, v0_1, v0_2] : List Value).toArray 225)) := by
  intro w
  rw [h0]
  simp [Instr.buildSlice, go_sem]
def jhU : Nat → Bool
  | 3 => true
  | 4 => true
  | 5 => true
  | 7 => true
  | 8 => true
  | 9 => true
  | 10 => true
  | 11 => true
  | 12 => true
  | 13 => true
  | 14 => true
  | 15 => true
  | 16 => true
  | 17 => true
  | 18 => true
  | 19 => true
  | 20 => true
  | 21 => true
  | 23 => true
  | 24 => true
  | 25 => true
  | 26 => true
  | 27 => true
  | 28 => true
  | 29 => true
  | 30 => true
  | 31 => true
  | 35 => true
  | 36 => true
  | 37 => true
  | 38 => true
  | 39 => true
  | 40 => true
  | 41 => true
  | 42 => true
  | 43 => true
  | 44 => true
  | 45 => true
  | 46 => true
  | 47 => true
  | 48 => true
  | 49 => true
  | 50 => true
  | 51 => true
  | 52 => true
  | 53 => true
  | 54 => true
  | 55 => true
  | 61 => true
  | 62 => true
  | 63 => true
  | 64 => true
  | 65 => true
  | 66 => true
  | 67 => true
  | 68 => true
  | 69 => true
  | 70 => true
  | 71 => true
  | 72 => true
  | 73 => true
  | 74 => true
  | 75 => true
  | 76 => true
  | 77 => true
  | 78 => true
  | 79 => true
  | 80 => true
  | 81 => true
  | 82 => true
  | 83 => true
  | 84 => true
  | 85 => true
  | 88 => true
  | 90 => true
  | 91 => true
  | 92 => true
  | 93 => true
  | 94 => true
  | 95 => true
  | 96 => true
  | 97 => true
  | 98 => true
  | 99 => true
  | 100 => true
  | 101 => true
  | 102 => true
  | 103 => true
  | 104 => true
  | 105 => true
  | 106 => true
  | 107 => true
  | 108 => true
  | 109 => true
  | 110 => true
  | 111 => true
  | 112 => true
  | 113 => true
  | 114 => true
  | 115 => true
  | 116 => true
  | 117 => true
  | 118 => true
  | 119 => true
  | 120 => true
  | 121 => true
  | 122 => true
  | 123 => true
  | 124 => true
  | 125 => true
  | 126 => true
  | 127 => true
  | 128 => true
  | 129 => true
  | 130 => true
  | 131 => true
  | 132 => true
  | 133 => true
  | 134 => true
  | 135 => true
  | 136 => true
  | 137 => true
  | 138 => true
  | 139 => true
  | 140 => true
  | 141 => true
  | 142 => true
  | 143 => true
  | 144 => true
  | 145 => true
  | 146 => true
  | 147 => true
  | 148 => true
  | 149 => true
  | 150 => true
  | 151 => true
  | 152 => true
  | 153 => true
  | 154 => true
  | 155 => true
  | 156 => true
  | 157 => true
  | 158 => true
  | 159 => true
  | 160 => true
  | 161 => true
  | 162 => true
  | 163 => true
  | 164 => true
  | 165 => true
  | 166 => true
  | 167 => true
  | 169 => true
  | 170 => true
  | 171 => true
  | _ => false
set_option maxRecDepth 100000 in
theorem z7 {f : Nat} (h : jhU f = true) : ∀ (args : Array Value) (w : World), (callFunc f args).run Tryz.prog w = .ok (.enter f args) w := by
  unfold jhU at h
  split at h <;> (try cases h)
  · exact Tryz.call3
  · exact Tryz.call4
  · exact Tryz.call5
  · exact Tryz.call7
  · exact Tryz.call8
  · exact Tryz.call9
  · exact Tryz.call10
  · exact Tryz.call11
  · exact Tryz.call12
  · exact Tryz.call13
  · exact Tryz.call14
  · exact Tryz.call15
  · exact Tryz.call16
  · exact Tryz.call17
  · exact Tryz.call18
  · exact Tryz.call19
  · exact Tryz.call20
  · exact Tryz.call21
  · exact Tryz.call23
  · exact Tryz.call24
  · exact Tryz.call25
  · exact Tryz.call26
  · exact Tryz.call27
  · exact Tryz.call28
  · exact Tryz.call29
  · exact Tryz.call30
  · exact Tryz.call31
  · exact Tryz.call35
  · exact Tryz.call36
  · exact Tryz.call37
  · exact Tryz.call38
  · exact Tryz.call39
  · exact Tryz.call40
  · exact Tryz.call41
  · exact Tryz.call42
  · exact Tryz.call43
  · exact Tryz.call44
  · exact Tryz.call45
  · exact Tryz.call46
  · exact Tryz.call47
  · exact Tryz.call48
  · exact Tryz.call49
  · exact Tryz.call50
  · exact Tryz.call51
  · exact Tryz.call52
  · exact Tryz.call53
  · exact Tryz.call54
  · exact Tryz.call55
  · exact Tryz.call61
  · exact Tryz.call62
  · exact Tryz.call63
  · exact Tryz.call64
  · exact Tryz.call65
  · exact Tryz.call66
  · exact Tryz.call67
  · exact Tryz.call68
  · exact Tryz.call69
  · exact Tryz.call70
  · exact Tryz.call71
  · exact Tryz.call72
  · exact Tryz.call73
  · exact Tryz.call74
  · exact Tryz.call75
  · exact Tryz.call76
  · exact Tryz.call77
  · exact Tryz.call78
  · exact Tryz.call79
  · exact Tryz.call80
  · exact Tryz.call81
  · exact Tryz.call82
  · exact Tryz.call83
  · exact Tryz.call84
  · exact Tryz.call85
  · exact Tryz.call88
  · exact Tryz.call90
  · exact Tryz.call91
  · exact Tryz.call92
  · exact Tryz.call93
  · exact Tryz.call94
  · exact Tryz.call95
  · exact Tryz.call96
  · exact Tryz.call97
  · exact Tryz.call98
  · exact Tryz.call99
  · exact Tryz.call100
  · exact Tryz.call101
  · exact Tryz.call102
  · exact Tryz.call103
  · exact Tryz.call104
  · exact Tryz.call105
  · exact Tryz.call106
  · exact Tryz.call107
  · exact Tryz.call108
  · exact Tryz.call109
  · exact Tryz.call110
  · exact Tryz.call111
  · exact Tryz.call112
  · exact Tryz.call113
  · exact Tryz.call114
  · exact Tryz.call115
  · exact Tryz.call116
  · exact Tryz.call117
  · exact Tryz.call118
  · exact Tryz.call119
  · exact Tryz.call120
  · exact Tryz.call121
  · exact Tryz.call122
  · exact Tryz.call123
  · exact Tryz.call124
  · exact Tryz.call125
  · exact Tryz.call126
  · exact Tryz.call127
  · exact Tryz.call128
  · exact Tryz.call129
  · exact Tryz.call130
  · exact Tryz.call131
  · exact Tryz.call132
  · exact Tryz.call133
  · exact Tryz.call134
  · exact Tryz.call135
  · exact Tryz.call136
  · exact Tryz.call137
  · exact Tryz.call138
  · exact Tryz.call139
  · exact Tryz.call140
  · exact Tryz.call141
  · exact Tryz.call142
  · exact Tryz.call143
  · exact Tryz.call144
  · exact Tryz.call145
  · exact Tryz.call146
  · exact Tryz.call147
  · exact Tryz.call148
  · exact Tryz.call149
  · exact Tryz.call150
  · exact Tryz.call151
  · exact Tryz.call152
  · exact Tryz.call153
  · exact Tryz.call154
  · exact Tryz.call155
  · exact Tryz.call156
  · exact Tryz.call157
  · exact Tryz.call158
  · exact Tryz.call159
  · exact Tryz.call160
  · exact Tryz.call161
  · exact Tryz.call162
  · exact Tryz.call163
  · exact Tryz.call164
  · exact Tryz.call165
  · exact Tryz.call166
  · exact Tryz.call167
  · exact Tryz.call169
  · exact Tryz.call170
  · exact Tryz.call171
theorem mixed : Tryz.prog.follows .mixedOrders = true := by kernel_rfl
end Go.Proofs.YtgcokllbophkkaaGreat
namespace Go.W
open Go.RowKit
structure OPH (P : Program) (N : Nat) (ops : Array Oper) (K : Env → World → Prop) (w0 : World) (S : List Nat) (L : List Blk) (fuel : Nat) (listed : Array Bool) (e : Env) (w : World) : Prop where
 run : ∀ a : Act, jch a = e → a.tmps.size = N → a.defers = [] → wpAnyH P .any ops (post N K NoX NoR) (fun w' => SH w0 S w' L) fuel listed a w
section
variable {P : Program} {N : Nat} {ops : Array Oper} {K : Env → World → Prop} {Kn : Env → World → Prop} {Kx : Nat → Env → World → Prop} {Kr : Env → World → Prop} {e : Env} {w w0 : World} {S : List Nat} {L : List Blk} {fuel : Nat} {listed : Array Bool}
theorem WP.rheld {id : Nat} (hm : P.follows .mixedOrders = true) (H : SH w0 S w L) (h : ∀ w', Below w.heap.size w w' → SH w0 S w' L → OPH P N ops Kn w0 S L ops.size (Array.replicate ops.size false) e w') : WP P N (.region id ops true) Kn Kx Kr e w :=
 ⟨fun a h1 h2 h3 => Code.wp_mono jhD (wp_region_held (S := fun w' => SH w0 S w' L) hm ((h { w with drawn := w.drawn + 1 } ⟨rfl, rfl, rfl, Nat.le_refl _, fun _ _ => rfl⟩ H.drew).run a h1 h2 h3))⟩
theorem WP.rheldC {id : Nat} (M : List Nat) (I : Env → World → Prop) (hm : P.follows .mixedOrders = true) (H : SH w0 S w L)
  (h : ∀ w', Below w.heap.size w w' → SH w0 S w' L → OPH P N ops (fun e' w' => Agree M e' e ∧ I e' w') w0 S L ops.size (Array.replicate ops.size false) e w') (hk : ∀ u w', I u w' → Kn (W.mix M u e) w') : WP P N (.region id ops true) Kn Kx Kr e w :=
 WP.mono (WP.rheld (Kn := fun e' w' => Agree M e' e ∧ I e' w') (Kx := Kx) (Kr := Kr) hm H h) (fun e' w' hh => by rw [hh.1.eq]; exact hk e' w' hh.2) (fun _ _ _ h => h) (fun _ _ h => h)
theorem OPH.take (i : Nat) {oi : Oper} {d : Nat} {v : Value} {f : Nat} (hi : ops[i]? = some oi) (hg : oi.guard = none) (hd : oi.dst = some d) (hN : Nat.blt d N = true) (hs : Region.noSelect ops = true) (hf : Region.free .any ops listed i = true)
  (hr : (Region.ready .any ops listed).contains i = true) (hfu : fuel = f + 1) (H : SH w0 S w L) (hE : ∀ w', SH w0 S w' L → Ev P e w' oi.type oi.op v)
  (h : OPH P N ops K w0 S L f (listed.setIfInBounds i true) (upd e d v) w) : OPH P N ops K w0 S L fuel listed e w :=
 ⟨fun a h1 h2 h3 => by
  subst hfu
  have hn := h.run (a.put (some d) v) (by rw [jbt v h2 hN, h1]) (by rw [size_put]; exact h2) (by rw [jaU]; exact h3)
  refine wpAnyH_take hi hs hf hr (fun c a w hh => by simp only [post] at hh) (v := v) (.inl ⟨ja1 hg _, fun w' hw' => ?_⟩) H (by rw [hd]; exact hn)
  have := (hE w' hw').run w' (Below.refl _ _) oi rfl rfl
  rw [jbW, h1]; exact this⟩
theorem OPH.all (rs : List Nat) {f : Nat} (hr : Region.ready .any ops listed = rs) (hne : rs ≠ []) (hfu : fuel = f + 1)
  (h : ∀ i ∈ rs, ∃ o, ops[i]? = some o ∧ OPS P N .plain ops (fun e' w' => SH w0 S w' L ∧ OPH P N ops K w0 S L f (listed.setIfInBounds i true) e' w') [o] e w) : OPH P N ops K w0 S L fuel listed e w :=
 ⟨fun a h1 h2 h3 => by
  subst hfu
  refine wpAnyH_all hr hne fun i hi => ?_
  obtain ⟨o, ho, hO⟩ := h i hi
  have hl := hO.run a h1 h2 h3
  simp only at hl
  unfold wpList at hl
  unfold wpOp
  simp only [ho]
  split
  ·rename_i hw
   rw [if_pos hw] at hl
   rcases hl with hl | ⟨_, _, _, hl⟩
   ·refine .inl ?_
    unfold Oper.wp at hl ⊢
    generalize (execOp a.eval o).run P w = r at hl ⊢
    have key : ∀ a' w', wpList P ops (post N (fun e' w' => SH w0 S w' L ∧ OPH P N ops K w0 S L f (listed.setIfInBounds i true) e' w') NoX NoR) [] a' w' → SH w0 S w' L ∧ wpAnyH P .any ops (post N K NoX NoR) (fun w' => SH w0 S w' L) f (listed.setIfInBounds i true) a' w' := by
     intro a' w' hh
     have hh : a'.tmps.size = N ∧ a'.defers = [] ∧ _ := hh
     exact ⟨hh.2.2.1, hh.2.2.2.run a' rfl hh.1 hh.2.1⟩
    cases r with
    | ok n w' =>
     cases n <;> simp only [Oper.upon] at hl ⊢
     case value u => exact key _ _ hl
     case skip => exact key _ _ hl
     case defer d => exact key _ _ hl
     case enter g args =>
      refine Calls.mono hl ?_
      intro e' w'' he
      cases e' with
      | returned u => exact key _ _ he
      | panicked c => simp only [post] at he
      | outgrown => obtain ⟨_, _, he⟩ := he; simp only [post] at he
     case row row args => exact Rows.mono hl fun u w'' he => key _ _ he
    | halt x w' =>
     cases x <;> simp only [Oper.upon] at hl ⊢
     case panic u => simp only [post] at hl
   ·simp only [post] at hl
  ·rename_i hw
   rw [if_neg hw] at hl
   have hl : (a.put o.dst undef).tmps.size = N ∧ (a.put o.dst undef).defers = [] ∧ _ := hl
   exact ⟨hl.2.2.1, hl.2.2.2.run _ rfl hl.1 hl.2.1⟩⟩
theorem OPH.done (hr : Region.ready .any ops listed = []) (h : K e w) : OPH P N ops K w0 S L fuel listed e w := ⟨fun _ h1 h2 h3 => wpAnyH_done hr ⟨h2, h3, h1 ▸ h⟩ fuel⟩
end
end Go.W
namespace Go.W
open Go.RowKit
abbrev I (n : Int) : Value := .int .i64 n
abbrev Bo (b : Bool) : Value := .bool b
def jaa {α : Type} (enc : α → Value) (w : World) (A : Option Addr) (l : List α) : Prop := ∀ k (hk : k < l.length), ∃ b o, A = some ⟨b, o, none⟩ ∧ w.cell? ⟨b, o + k, none⟩ = some (enc (l[k]'hk))
theorem jaa.below {α : Type} {enc : α → Value} {w w' : World} {A : Option Addr} {l : List α} (h : jaa enc w A l) (hb : Below w.heap.size w w') : jaa enc w' A l := fun k hk => by
 obtain ⟨b, o, h1, h2⟩ := h k hk
 exact ⟨b, o, h1, cell_below hb h2⟩
theorem jaa.sh {α : Type} {enc : α → Value} {w0 w : World} {L : List Blk} {A : Option Addr} {l : List α} (h : jaa enc w0 A l) (H : SH w0 [] w L) : jaa enc w A l := fun k hk => by
 obtain ⟨b, o, h1, h2⟩ := h k hk
 exact ⟨b, o, h1, H.ld0 h2⟩
theorem jaa.nil {α : Type} {enc : α → Value} {w : World} {A : Option Addr} : jaa enc w A [] := fun k hk => absurd hk (by simp)
theorem jaa.own {α : Type} {enc : α → Value} {w0 w : World} {S : List Nat} {L : List Blk} (H : SH w0 S w L) (i : Nat) {b : Blk} (hi : L[i]? = some b) {l : List α} {post : List Value} (hc : b.cs = l.map enc ++ post) :
  jaa enc w (some ⟨b.g, 0, none⟩) l := fun k hk => ⟨b.g, 0, rfl, by
 have h1 : b.cs[k]? = some (enc (l[k]'hk)) := by
  rw [hc, List.getElem?_append_left (by simpa using hk), List.getElem?_map, List.getElem?_eq_getElem hk]; rfl
 rw [Nat.zero_add]
 exact H.ldL i hi k h1⟩
abbrev k9 := jaa I
def k8 {α : Type} (sz : Nat) (enc : α → List Value) (w : World) (A : Option Addr) (l : List α) : Prop := ∀ k (hk : k < l.length), ∃ b o, A = some ⟨b, o, none⟩ ∧ jak w b (o + k * sz) (enc (l[k]'hk))
theorem k8.below {α : Type} {sz : Nat} {enc : α → List Value} {w w' : World} {A : Option Addr} {l : List α} (h : k8 sz enc w A l) (hb : Below w.heap.size w w') : k8 sz enc w' A l := fun k hk => by
 obtain ⟨b, o, h1, h2⟩ := h k hk
 exact ⟨b, o, h1, jbJ hb h2⟩
theorem k7 {w0 w : World} {L : List Blk} (H : SH w0 [] w L) {b : Nat} : ∀ {vs : List Value} {o : Nat}, jak w0 b o vs → jak w b o vs
 | [], _, _ => trivial
 | _ :: _, _, h => ⟨H.ld0 h.1, k7 H h.2⟩
theorem k8.sh {α : Type} {sz : Nat} {enc : α → List Value} {w0 w : World} {L : List Blk} {A : Option Addr} {l : List α} (h : k8 sz enc w0 A l) (H : SH w0 [] w L) : k8 sz enc w A l := fun k hk => by
 obtain ⟨b, o, h1, h2⟩ := h k hk
 exact ⟨b, o, h1, k7 H h2⟩
theorem k8.nil {α : Type} {sz : Nat} {enc : α → List Value} {w : World} {A : Option Addr} : k8 sz enc w A [] := fun k hk => absurd hk (by simp)
theorem SH.ldS {w0 w : World} {S : List Nat} {L : List Blk} (h : SH w0 S w L) {a : Addr} {v : Value} (hc : w0.cell? a = some v) (hS : a.block ∉ S) : w.cell? a = some v :=
 (World.cell?_of_block (w := w0) (h.low a.block (jeA hc) hS)).trans hc
def Off (A : Option Addr) (S : List Nat) : Prop := ∀ b o, A = some ⟨b, o, none⟩ → b ∉ S
theorem Off.nil {A : Option Addr} : Off A [] := fun _ _ _ => by simp
theorem jaa.shS {α : Type} {enc : α → Value} {w0 w : World} {S : List Nat} {L : List Blk} {A : Option Addr} {l : List α} (h : jaa enc w0 A l) (hS : Off A S) (H : SH w0 S w L) : jaa enc w A l := fun k hk => by
 obtain ⟨b, o, h1, h2⟩ := h k hk
 exact ⟨b, o, h1, H.ldS h2 (hS b o h1)⟩
theorem jbT {w0 w : World} {S : List Nat} {L : List Blk} (H : SH w0 S w L) {b : Nat} (hS : b ∉ S) : ∀ {vs : List Value} {o : Nat}, jak w0 b o vs → jak w b o vs
 | [], _, _ => trivial
 | _ :: _, _, h => ⟨H.ldS h.1 hS, jbT H hS h.2⟩
theorem k8.shS {α : Type} {sz : Nat} {enc : α → List Value} {w0 w : World} {S : List Nat} {L : List Blk} {A : Option Addr} {l : List α} (h : k8 sz enc w0 A l) (hS : Off A S) (H : SH w0 S w L) : k8 sz enc w A l := fun k hk => by
 obtain ⟨b, o, h1, h2⟩ := h k hk
 exact ⟨b, o, h1, jbT H (hS b o h1) h2⟩
theorem SH.restart {w0 w : World} {S : List Nat} {L Lv : List Blk} (H : SH w0 S w L) (hs : Lv.Sublist L) : SH w (Lv.map (·.g)) w Lv :=
 ⟨rfl, rfl, rfl, Nat.le_refl _, fun _ _ _ => rfl, fun b hb => H.own b (hs.subset hb), fun b hb => .inr (List.mem_map_of_mem hb), (hs.map _).nodup H.nodup⟩
theorem SH.call {w0 w w' : World} {S : List Nat} {L1 Lv Lv' : List Blk} (H : SH w0 S w (L1 ++ Lv)) (Hc : SH w (Lv.map (·.g)) w' Lv') : SH w0 S w' (L1 ++ Lv') where
 os := Hc.os.trans H.os
 tape := Hc.tape.trans H.tape
 output := Hc.output.trans H.output
 size := Nat.le_trans H.size Hc.size
 low k hk hS := by
  rw [Hc.low k (Nat.lt_of_lt_of_le hk H.size) (fun hm => ?_)]
  ·exact H.low k hk hS
  ·obtain ⟨b, hb, rfl⟩ := List.mem_map.1 hm
   rcases H.may b (List.mem_append_right _ hb) with h | h
   ·omega
   ·exact hS h
 own b hb := by
  rcases List.mem_append.1 hb with h | h
  ·rw [Hc.low b.g (H.lt (List.mem_append_left _ h)) (fun hm => ?_)]
   ·exact H.own b (List.mem_append_left _ h)
   ·have hn := H.nodup
    rw [List.map_append, List.nodup_append] at hn
    exact hn.2.2 b.g (List.mem_map_of_mem h) b.g hm rfl
  ·exact Hc.own b h
 may b hb := by
  rcases List.mem_append.1 hb with h | h
  ·exact H.may b (List.mem_append_left _ h)
  ·rcases Hc.may b h with h2 | h2
   ·exact .inl (Nat.le_trans H.size h2)
   ·obtain ⟨c, hc, he⟩ := List.mem_map.1 h2
    rw [← he]; exact H.may c (List.mem_append_right _ hc)
 nodup := by
  have hn := H.nodup
  rw [List.map_append, List.nodup_append] at hn ⊢
  refine ⟨hn.1, Hc.nodup, fun a ha b hb he => ?_⟩
  subst he
  obtain ⟨c, hc, rfl⟩ := List.mem_map.1 ha
  obtain ⟨d, hd, hde⟩ := List.mem_map.1 hb
  rcases Hc.may d hd with h2 | h2
  ·have := H.lt (List.mem_append_left _ hc); omega
  ·rw [hde] at h2
   exact hn.2.2 c.g (List.mem_map_of_mem hc) c.g h2 rfl
theorem SH.fresh {w0 w : World} {L : List Blk} (H : SH w0 [] w L) : ∀ g ∈ L.map (·.g), w0.heap.size ≤ g := fun g hg => by
 obtain ⟨b, hb, rfl⟩ := List.mem_map.1 hg
 rcases H.may b hb with h | h
 ·exact h
 ·simp at h
theorem jaa.off {α : Type} {enc : α → Value} {w0 : World} {A : Option Addr} {l : List α} {gs : List Nat} (h : jaa enc w0 A l) (hg : ∀ g ∈ gs, w0.heap.size ≤ g) : l ≠ [] → Off A gs := fun hl b o he hm => by
 subst he
 obtain ⟨b', o', h1, h2⟩ := h 0 (List.length_pos_iff.2 hl)
 cases h1
 have h3 := jeA h2
 have h3 : b < w0.heap.size := h3
 have := hg b hm
 omega
theorem k8.off {α : Type} {sz : Nat} {enc : α → List Value} {w0 : World} {A : Option Addr} {l : List α} {gs : List Nat} (h : k8 sz enc w0 A l) (hne : ∀ x, enc x ≠ []) (hg : ∀ g ∈ gs, w0.heap.size ≤ g) : l ≠ [] → Off A gs := fun hl b o he hm => by
 subst he
 obtain ⟨b', o', h1, h2⟩ := h 0 (List.length_pos_iff.2 hl)
 cases h1
 have hgb := hg b hm
 generalize hx : enc (l[0]'(List.length_pos_iff.2 hl)) = vs at h2
 match vs, h2 with
 | [], _ => exact hne _ hx
 | v :: vs, h2 =>
  have h3 : b < w0.heap.size := jeA h2.1
  omega
theorem SH.reidx {w0 w : World} {S : List Nat} {L L' : List Blk} (H : SH w0 S w L) (idx : List Nat) (hn : idx.Nodup) (hi : idx.map (fun i => L[i]?) = L'.map some) : SH w0 S w L' := by
 have hlen : idx.length = L'.length := by have := congrArg List.length hi; simpa using this
 have hat : ∀ p (h : p < L'.length), L[idx[p]'(by omega)]? = some L'[p] := by
  intro p h
  have := congrArg (fun l => l[p]?) hi
  simp only [List.getElem?_map] at this
  rw [List.getElem?_eq_getElem (by omega), List.getElem?_eq_getElem h] at this
  simpa using this
 have hmem : ∀ b ∈ L', b ∈ L := by
  intro b hb
  obtain ⟨p, hp, rfl⟩ := List.mem_iff_getElem.1 hb
  exact List.mem_of_getElem? (hat p hp)
 refine ⟨H.os, H.tape, H.output, H.size, H.low, fun b hb => H.own b (hmem b hb), fun b hb => H.may b (hmem b hb), ?_⟩
 rw [List.nodup_iff_pairwise_ne, List.pairwise_iff_getElem]
 intro p q hp hq hpq
 simp only [List.length_map] at hp hq
 have h1 := hat p hp
 have h2 := hat q hq
 have hne : idx[p]'(by omega) ≠ idx[q]'(by omega) := by
  rw [List.nodup_iff_pairwise_ne, List.pairwise_iff_getElem] at hn
  exact hn p q (by omega) (by omega) hpq
 generalize idx[p]'(by omega) = i at *
 generalize idx[q]'(by omega) = j at *
 obtain ⟨hi1, hi2⟩ := List.getElem?_eq_some_iff.1 h1
 obtain ⟨hj1, hj2⟩ := List.getElem?_eq_some_iff.1 h2
 have hd := H.nodup
 rw [List.nodup_iff_pairwise_ne, List.pairwise_iff_getElem] at hd
 simp only [List.getElem_map]
 rcases Nat.lt_or_gt_of_ne hne with h | h
 ·have := hd i j (by simpa) (by simpa) h
  simpa [hi2, hj2] using this
 ·have := hd j i (by simpa) (by simpa) h
  simp [hi2, hj2] at this
  exact fun he => this he.symm
theorem Off.later {α : Type} {enc : α → Value} {w0 w : World} {gs : List Nat} {L : List Blk} {A : Option Addr} {l : List α} (h : jaa enc w0 A l) (hg : l ≠ [] → Off A gs) (H : SH w0 gs w L) : l ≠ [] → Off A (L.map (·.g)) := fun hl b o he hm => by
 have hoff := hg hl b o he
 subst he
 obtain ⟨b', o', h1, h2⟩ := h 0 (List.length_pos_iff.2 hl)
 cases h1
 have h3 : b < w0.heap.size := jeA h2
 obtain ⟨c, hc, rfl⟩ := List.mem_map.1 hm
 rcases H.may c hc with h4 | h4
 ·omega
 ·exact hoff h4
end Go.W
namespace Go.W
open Go.RowKit
section
variable {α : Type} {enc : α → List Value} {sz : Nat}
theorem x8 (hsz : ∀ x, (enc x).length = sz) (l : List α) : (l.flatMap enc).length = l.length * sz := by
 induction l with
 | nil => simp
 | cons x l ih => simp only [List.flatMap_cons, List.length_append, hsz, ih, List.length_cons, Nat.succ_mul]; omega
theorem jh5 (hsz : ∀ x, (enc x).length = sz) : ∀ (l : List α) (k j : Nat) (hk : k < l.length), j < sz → (l.flatMap enc)[k * sz + j]? = (enc (l[k]'hk))[j]?
 | [], _, _, hk, _ => by simp at hk
 | x :: l, 0, j, _, hj => by
  simp only [List.flatMap_cons, Nat.zero_mul, Nat.zero_add, List.getElem_cons_zero]
  rw [List.getElem?_append_left (by rw [hsz]; exact hj)]
 | x :: l, k + 1, j, hk, hj => by
  simp only [List.flatMap_cons, List.getElem_cons_succ]
  rw [List.getElem?_append_right (by rw [hsz, Nat.succ_mul]; omega), hsz, show (k + 1) * sz + j - sz = k * sz + j by rw [Nat.succ_mul]; omega]
  exact jh5 hsz l k j (by simpa using hk) hj
theorem jbR (pre : List Value) : ∀ (vs cs : List Value) (k : Nat), jam (pre ++ cs) (pre.length + k) vs = pre ++ jam cs k vs
 | [], _, _ => rfl
 | v :: vs, cs, k => by
  rw [jam, jam, List.set_append_right _ _ (by omega), show pre.length + k - pre.length = k by omega, show pre.length + k + 1 = pre.length + (k + 1) by omega]
  exact jbR pre vs _ _
theorem jfB : ∀ (vs old : List Value) (post : List Value), old.length = vs.length → jam (old ++ post) 0 vs = vs ++ post
 | [], [], _, _ => rfl
 | v :: vs, u :: old, post, h => by
  rw [jam]
  have := jbR [v] vs (old ++ post) 0
  simp only [List.cons_append, List.set_cons_zero, List.nil_append, List.length_cons, List.length_nil, Nat.zero_add, Nat.add_zero] at this ⊢
  rw [this, jfB vs old post (by simpa using h)]
 | [], _ :: _, _, h => by simp at h
 | _ :: _, [], _, h => by simp at h
theorem jb0 (hsz : ∀ x, (enc x).length = sz) : ∀ (l : List α) (k : Nat) (x : α), k < l.length → jam (l.flatMap enc) (k * sz) (enc x) = (l.set k x).flatMap enc
 | [], _, _, h => by simp at h
 | y :: l, 0, x, _ => by
  simp only [List.flatMap_cons, Nat.zero_mul, List.set_cons_zero]
  exact jfB _ _ _ (by rw [hsz, hsz])
 | y :: l, k + 1, x, h => by
  simp only [List.flatMap_cons, List.set_cons_succ]
  rw [show (k + 1) * sz = (enc y).length + k * sz by rw [hsz, Nat.succ_mul]; omega, jbR, jb0 hsz l k x (by simpa using h)]
theorem jbL {w0 w : World} {S : List Nat} {L : List Blk} (hsz : ∀ x, (enc x).length = sz) (H : SH w0 S w L) (i : Nat) {g : Nat} {T : TypeId} {l : List α} {post : List Value} (hi : L[i]? = some ⟨g, T, l.flatMap enc ++ post⟩) :
  k8 sz enc w (some ⟨g, 0, none⟩) l := fun k hk => ⟨g, 0, rfl, by
 refine jas H i hi _ _ fun j hj => ?_
 rw [hsz] at hj
 have hlen := x8 hsz l
 have hkk : k * sz + sz ≤ l.length * sz := by rw [← Nat.succ_mul]; exact Nat.mul_le_mul_right _ hk
 rw [Nat.zero_add, List.getElem?_append_left (by rw [hlen]; omega), jh5 hsz l k j hk hj, List.getElem?_eq_getElem]⟩
theorem jbF {w0 w : World} {S : List Nat} {L : List Blk} (hsz : ∀ x, (enc x).length = sz) (H : SH w0 S w L) (i : Nat) {g : Nat} {T : TypeId} {l : List α} (hi : L[i]? = some ⟨g, T, l.flatMap enc⟩) :
  k8 sz enc w (some ⟨g, 0, none⟩) l := jbL (post := []) hsz H i (by simpa using hi)
theorem jgh (n : Nat) (x : α) : mkL n (enc x) = (List.replicate n x).flatMap enc := by
 induction n with
 | zero => rfl
 | succ n ih => simp only [mkL, List.replicate_succ, List.flatten_cons, List.flatMap_cons] at ih ⊢; rw [ih]
theorem jag {enc1 : α → Value} (n : Nat) (x : α) : mkL n [enc1 x] = (List.replicate n x).map enc1 := by rw [mkL_one]; simp
end
theorem OwnS.rows {α : Type} {enc : α → List Value} {sz : Nat} (hsz : ∀ x, (enc x).length = sz) (hp : 0 < sz) {w0 w : World} {S : List Nat} {A : Option Addr} {cap n el : Nat} {l : List α} {R Lo : List Blk} (h : OwnS A cap n (l.flatMap enc) el sz Lo) (H : SH w0 S w (R ++ Lo)) :
  k8 sz enc w A l ∧ l.length = n := by
 have hl : l.length = n := by
  have := h.len
  rw [x8 hsz] at this
  exact Nat.eq_of_mul_eq_mul_right hp this
 refine ⟨?_, hl⟩
 rcases h.form with ⟨rfl, h0, _, _⟩ | ⟨g, sp, rfl, rfl, _⟩
 ·intro k hk; omega
 ·exact jbL (T := el) (post := sp) hsz H R.length (by simp)
theorem OwnS.ones {α : Type} {enc : α → Value} {w0 w : World} {S : List Nat} {A : Option Addr} {cap n el : Nat} {l : List α} {R Lo : List Blk} (h : OwnS A cap n (l.map enc) el 1 Lo) (H : SH w0 S w (R ++ Lo)) :
  jaa enc w A l ∧ l.length = n := by
 have hl : l.length = n := by simpa using h.len
 refine ⟨?_, hl⟩
 rcases h.form with ⟨rfl, h0, _, _⟩ | ⟨g, sp, rfl, rfl, _⟩
 ·intro k hk; omega
 ·exact jaa.own (b := ⟨g, el, l.map enc ++ sp⟩) H R.length (by simp) (post := sp) rfl
theorem y9 {α : Type} {enc : α → Value} {w0 w : World} {S : List Nat} {L : List Blk} (H : SH w0 S w L) (i : Nat) {g : Nat} {T : TypeId} {l : List α} (hi : L[i]? = some ⟨g, T, l.map enc⟩) : jaa enc w (some ⟨g, 0, none⟩) l :=
 jaa.own (b := ⟨g, T, l.map enc⟩) H i hi (post := []) (by simp)
theorem jae {α : Type} {enc : α → Value} (l : List α) (k : Nat) (x : α) : jam (l.map enc) k [enc x] = (l.set k x).map enc := by simp [jam, List.map_set]
end Go.W
namespace Go.W
open Go.RowKit
section
variable {P : Program} {N : Nat} {ops : Array Oper} {K : Env → World → Prop} {e : Env} {w w0 : World} {S : List Nat} {L : List Blk} {rest : List Oper} {o : Oper} {t : TypeId} {x y : Operand}
theorem OPS.copy {d el n sb so c c' : Nat} {b : Blk} {vs : List Value} (i k : Nat) (hg : o.guard = none) (hd : o.dst = some d) (hN : Nat.blt d N = true)
  (hop : o.op = .call { callee := .builtin .copy, args := #[x, y], argTypes := #[t, t] }) (hU : ∀ w, (underlying t).run P w = .ok (.slice el) w) (hs : ∀ w, (Go.sizeOf el).run P w = .ok 1 w)
  (hx : ev e x = .slice (some ⟨b.g, k, none⟩) n c) (hy : ev e y = .slice (some ⟨sb, so, none⟩) n c') (hn : vs.length = n) (hsrc : jak w sb so vs) (h1 : (vs.all (·.oneCell')) = true)
  (H : SH w0 S w L) (hi : L[i]? = some b) (hk : k + n ≤ b.cs.length)
  (h : ∀ w', SH w0 S w' (L.set i ⟨b.g, b.T, jam b.cs k vs⟩) → OPS P N .plain ops K rest (upd e d (.int .i64 n)) w') : OPS P N .plain ops K (o :: rest) e w := by
 obtain ⟨w', hr, H'⟩ := jdX (P := P) vs w L b k 0 H hi (by omega) h1
 refine OPS.act (v := .int .i64 n) (w' := w') hg hd hN ?_ (h w' H')
 unfold execOp; rw [hop]
 have hl := jdg (P := P) vs hsrc
 rw [hn] at hl
 simp [resolve, invoke, builtin, hx, hy, Builtin.copy_, hU, hs, Builtin.lenOf, Builtin.firstCells, hl, hr, goInt]
theorem OPS.gcallq2 {d j dj : Nat} {want b : Bool} {f : FuncId} {args : List Value} {v : Value}
  (hC : b = want → ∀ w', Below w.heap.size w w' → Calls P f args.toArray w' fun e' w'' => e' = .returned v ∧ Below w'.heap.size w' w'')
  (hg : o.guard = some (j, want)) (hj : ops[j]?.bind (·.dst) = some dj) (hb : e dj = .bool b) (hd : o.dst = some d) (hN : Nat.blt d N = true) (hE : b = want → EvC P e o.op f args)
  (h : OPS P N .quiet ops K rest (upd e d (gv b want v)) w) : OPS P N .quiet ops K (o :: rest) e w :=
 ⟨fun a h1 h2 h3 => by
  have hn := h.run (a.put (some d) (gv b want v)) (by rw [jbt _ h2 hN, h1]) (by rw [size_put]; exact h2) (by rw [jaU]; exact h3)
  have hy := jcc (a := a) hj (h1 ▸ hb)
  simp only at hn ⊢
  unfold wpQuiet
  by_cases hw : b = want
  ·subst hw
   have hwt : Region.wanted o (yielded ops a.tmps) = true := by simp [Region.wanted, hg, hy]
   have hgv : gv b b v = v := by simp [gv]
   rw [hgv] at hn
   rw [if_pos hwt]
   refine ⟨v, fun w' hb => ?_, by rw [hd]; exact hn⟩
   unfold Oper.quietAt
   have hr := (hE rfl).run w' o rfl
   rw [← h1, ← jbW] at hr
   rw [hr]
   exact ⟨rfl, (hC rfl w' hb).mono fun e' w'' ⟨he, hb2⟩ => ⟨he, hb.trans (hb2.mono hb.size)⟩⟩
  ·have hwt : Region.wanted o (yielded ops a.tmps) = false := by simp [Region.wanted, hg, hy, hw]
   have hgv : gv b want v = undef := by simp [gv, hw]
   rw [hgv] at hn
   rw [hwt, hd]; exact hn⟩
end
section
variable {P : Program} {e : Env} {w : World} {ty t : TypeId} {x y : Operand}
theorem equalB {a b : Bool} (hU : ∀ w, (underlying t).run P w = .ok .bool w) (w : World) : (Op.equal t (.bool a) (.bool b)).run P w = .ok (a == b) w := by
 unfold Op.equal
 rw [show Op.maxDepth = 9999 + 1 from rfl, Op.equalIn]
 simp [hU]
theorem Ev.eqlB {t' : TypeId} {a b : Bool} (hU : ∀ w, (underlying t).run P w = .ok .bool w) (hx : ev e x = .bool a) (hy : ev e y = .bool b) : Ev P e w ty (.binOp .eql t x y t') (.bool (a == b)) :=
 ⟨fun w' _ o ho _ => by unfold execOp; rw [ho]; simp [hx, hy, eqGuard, binOp, equalB hU]⟩
end
theorem jk6 {w0 w : World} {S : List Nat} {L : List Blk} (H : SH w0 S w L) (i : Nat) {g : Nat} {T : TypeId} {ms : List Int} (hi : L[i]? = some ⟨g, T, ms.map fun n => Value.int .i64 n⟩) (k : Nat) (hk : k < ms.length) : w.cell? ⟨g, k, none⟩ = some (.int .i64 (ms.getD k 0)) :=
 H.ldL i hi k (by simp [hk])
def jaN (l : List Bool) : Nat := (l.filter (fun b => !b)).length
theorem jb1 : ∀ (l : List Bool) (k : Nat), k < l.length → l.getD k false = false → jaN (l.set k true) < jaN l
 | [], _, h, _ => by simp at h
 | b :: l, 0, _, hb => by
  simp at hb; subst hb
  simp [jaN]
 | b :: l, k + 1, h, hb => by
  have := jb1 l k (by simpa using h) (by simpa using hb)
  cases b <;> simpa [jaN] using this
end Go.W
namespace Go.W
open Go.RowKit Go.Deep
theorem je7 {α : Type} {p : Nat → α → Prop} : ∀ (n : Nat), (∀ i, i < n → ∃ a, p i a) → ∃ l : List α, l.length = n ∧ ∀ i (h : i < l.length), p i l[i]
 | 0, _ => ⟨[], rfl, fun i h => absurd h (by simp)⟩
 | n + 1, h => by
  obtain ⟨l, h1, h2⟩ := je7 (p := p) n fun i hi => h i (by omega)
  obtain ⟨a, ha⟩ := h n (by omega)
  refine ⟨l ++ [a], by simp [h1], fun i hi => ?_⟩
  by_cases hl : i < l.length
  ·rw [List.getElem_append_left hl]; exact h2 i hl
  ·simp only [List.length_append, List.length_cons, List.length_nil] at hi
   obtain rfl : i = n := by omega
   rw [List.getElem_append_right (by omega)]
   simpa [h1] using ha
section
variable {H : Type} {enc : TypeId × Value → H} {P : Program} {w : World} {base : Nat} {spare : Nat → Bool} {held : Bool}
structure Rd (enc : TypeId × Value → H) (P : Program) (w : World) (base : Nat) (spare : Nat → Bool) (held : Bool) (t : TypeId) {α : Type} (cells : α → List Value) (G : α → Prop) : Prop where
 out : ∀ fuel cs x, DataW.trod enc P w base spare held fuel t cs = some x → ∃ a, cs = cells a ∧ G a
theorem Rd.int {t : TypeId} {k : IntKind} (ht : P.underlying t = some (.int k)) : Rd enc P w base spare held t (fun n : Int => [.int k n]) (fun n => (Lit.int k n).wf = true) :=
 ⟨fun _ _ _ h => by obtain ⟨n, h1, _, h2⟩ := DataW.trod_int ht h; exact ⟨n, h1, h2⟩⟩
theorem Rd.bool {t : TypeId} (ht : P.underlying t = some .bool) : Rd enc P w base spare held t (fun b : Bool => [.bool b]) (fun _ => True) :=
 ⟨fun _ _ _ h => by obtain ⟨n, h1, _⟩ := DataW.trod_bool ht h; exact ⟨n, h1, trivial⟩⟩
theorem Rd.mono {t : TypeId} {α : Type} {cells : α → List Value} {G G' : α → Prop} (h : Rd enc P w base spare held t cells G) (hG : ∀ a, G a → G' a) : Rd enc P w base spare held t cells G' :=
 ⟨fun f cs x hx => by obtain ⟨a, h1, h2⟩ := h.out f cs x hx; exact ⟨a, h1, hG a h2⟩⟩
structure SlA (α : Type) where
 A : Option Addr
 cap : Nat
 l : List α
def jbA {α : Type} (s : SlA α) : List Value := [.slice s.A s.l.length s.cap]
structure SlG {α : Type} (w : World) (sz : Nat) (cells : α → List Value) (G : α → Prop) (s : SlA α) : Prop where
 rows : k8 sz cells w s.A s.l
 len : s.l.length ≤ maxLen
 all : ∀ a ∈ s.l, G a
 le : s.l.length ≤ s.cap
theorem jfO {b : Nat} : ∀ (vs : List Value) (o : Nat), (∀ j (h : j < vs.length), w.cell? ⟨b, o + j, none⟩ = some vs[j]) → jak w b o vs
 | [], _, _ => trivial
 | v :: vs, o, h => ⟨h 0 (by simp), jfO vs (o + 1) fun j hj => by
   have := h (j + 1) (by simpa using hj)
   rw [show o + 1 + j = o + (j + 1) by omega]; exact this⟩
theorem Rd.slice {t e : TypeId} {sz : Nat} {α : Type} {cells : α → List Value} {G : α → Prop} (ht : P.underlying t = some (.slice e)) (hs : P.cellsOf e = sz) (h0 : 0 < sz) (he : Rd enc P w base spare held e cells G) :
  Rd enc P w base spare held t (jbA (α := α)) (SlG w sz cells G) := ⟨fun fuel cs x h => by
 rcases open_slice ht h with ⟨h1, _⟩ | ⟨a, len, cap, m, n, D, Pl, rfl, hb, hl, hm, hmm, _, hx⟩
 ·exact ⟨⟨none, 0, []⟩, h1, ⟨k8.nil, by simp, by simp, by simp⟩⟩
 ·rw [hs] at hx
  have hlm : len ≤ m := by rw [hmm]; split <;> omega
  obtain ⟨l, h1, h2⟩ := je7 (p := fun i (q : α) => G q ∧ w.cells? base (a.add (i * sz)) sz = some (cells q)) len fun i hi => by
   obtain ⟨cs', c1, c2⟩ := hx i (by omega)
   obtain ⟨q, rfl, hq⟩ := he.out _ _ _ c2
   exact ⟨q, hq, c1⟩
  refine ⟨⟨some a, cap, l⟩, by simp [jbA, h1], ⟨fun k hk => ?_, ?_, fun q hq => ?_, by show l.length ≤ cap; omega⟩⟩
  ·have hk : k < l.length := hk
   obtain ⟨b, o, spot⟩ := a
   have hspot : spot = none := by
    obtain ⟨_, hlen, hc⟩ := World.cells?_some (h2 0 (by omega)).2
    have h3 := hc 0 h0
    rw [List.getElem?_eq_getElem (by omega)] at h3
    simpa [Addr.add] using World.cell?_spot h3
   subst hspot
   refine ⟨b, o, rfl, ?_⟩
   obtain ⟨_, hlen, hc⟩ := World.cells?_some (h2 k hk).2
   refine jfO _ _ fun j hj => ?_
   have hj : j < (cells l[k]).length := hj
   have h3 := hc j (by omega)
   rw [addr_add, addr_add] at h3
   rw [h3]; exact List.getElem?_eq_getElem hj
  ·show l.length ≤ maxLen; omega
  ·obtain ⟨i, hi, rfl⟩ := List.mem_iff_getElem.1 hq
   exact (h2 i hi).1⟩
theorem k8.ones {α : Type} {f : α → Value} {A : Option Addr} {l : List α} (h : k8 1 (fun a => [f a]) w A l) : jaa f w A l := fun k hk => by
 obtain ⟨b, o, h1, h2⟩ := h k hk
 exact ⟨b, o, h1, by simpa using h2.1⟩
structure RdF (enc : TypeId × Value → H) (P : Program) (w : World) (base : Nat) (spare : Nat → Bool) (held : Bool) (fs : List Field) (off tot : Nat) {α : Type} (cells : α → List Value) (G : α → Prop) : Prop where
 out : ∀ cs : List Value, cs.length = tot → (∀ (i : Nat) (f : Field), fs[i]? = some f → ∃ n x, DataW.trod enc P w base spare held n f.type ((cs.drop f.offset).take (P.cellsOf f.type)) = some x) → ∃ a, cs.drop off = cells a ∧ G a
theorem RdF.nil {off : Nat} : RdF enc P w base spare held [] off off (fun _ : Unit => []) (fun _ => True) := ⟨fun cs h _ => ⟨(), by rw [List.drop_eq_nil_of_le (by omega)], trivial⟩⟩
theorem RdF.cons {f : Field} {fs : List Field} {off tot sz : Nat} {α β : Type} {cA : α → List Value} {cB : β → List Value} {GA : α → Prop} {GB : β → Prop} {T : TypeId} (hA : Rd enc P w base spare held T cA GA) (hT : f.type = T) (ho : f.offset = off) (hs : P.cellsOf T = sz)
  (hB : RdF enc P w base spare held fs (off + sz) tot cB GB) : RdF enc P w base spare held (f :: fs) off tot (fun p : α × β => cA p.1 ++ cB p.2) (fun p => GA p.1 ∧ GB p.2) := ⟨fun cs hl h => by
 subst hT
 obtain ⟨n, x, hx⟩ := h 0 f rfl
 obtain ⟨a, ha, ga⟩ := hA.out _ _ _ hx
 obtain ⟨b, hb, gb⟩ := hB.out cs hl fun i f' hf => h (i + 1) f' (by simpa using hf)
 refine ⟨(a, b), ?_, ga, gb⟩
 rw [ho, hs] at ha
 simp only
 rw [← ha, ← hb, ← List.drop_drop, List.take_append_drop]⟩
theorem Rd.struct {t : TypeId} {fs : List Field} {tot : Nat} {α : Type} {cells : α → List Value} {G : α → Prop} (ht : P.underlying t = some (.struct fs.toArray)) (hs : P.cellsOf t = tot) (hF : RdF enc P w base spare held fs 0 tot cells G) : Rd enc P w base spare held t cells G := ⟨fun fuel cs x h => by
 obtain ⟨xs, n, _, _, hl, hxl, hx⟩ := DataW.trod_struct ht h
 obtain ⟨a, h1, h2⟩ := hF.out cs (by omega) fun i f hf => by
  have h3 := hx i f (by simpa using hf)
  have hi : i < fs.length := (List.getElem?_eq_some_iff.1 hf).1
  rw [List.getElem?_eq_getElem (by simp at hxl; omega)] at h3
  exact ⟨n, _, h3⟩
 exact ⟨a, by simpa using h1, h2⟩⟩
theorem Rd.conv {t : TypeId} {α β : Type} {cells : α → List Value} {G : α → Prop} (h : Rd enc P w base spare held t cells G) (f : α → β) {cells' : β → List Value} {G' : β → Prop} (hc : ∀ a, cells a = cells' (f a)) (hG : ∀ a, G a → G' (f a)) : Rd enc P w base spare held t cells' G' :=
 ⟨fun fu cs x hx => by obtain ⟨a, h1, h2⟩ := h.out fu cs x hx; exact ⟨f a, h1.trans (hc a), hG a h2⟩⟩
theorem Rd.argN {t : TypeId} {α : Type} {cells : α → List Value} {G : α → Prop} {vs : Array Value} {d : DataW H} {p : List MemPlace} (h : Rd enc P w base spare held t cells G) (ht : DataW.Trod enc P w base spare held t (.agg vs) d p) : ∃ a, vs = (cells a).toArray ∧ G a := by
 obtain ⟨fuel, hf⟩ := ht
 obtain ⟨a, h1, h2⟩ := h.out _ _ _ hf
 refine ⟨a, ?_, h2⟩
 have : vs.toList = cells a := by simpa [Value.cells] using h1
 rw [← this]
end
end Go.W
namespace Go.W
open Go.RowKit
def jcl {α : Type} (l m : List α) (j : Nat) : List α := l.take j ++ m.drop j
theorem jci {α : Type} {l m : List α} {j : Nat} (h : l.length = m.length) (hj : j ≤ l.length) : (jcl l m j).length = l.length := by simp [jcl]; omega
theorem jde {α : Type} (l m : List α) : jcl l m 0 = m := by simp [jcl]
theorem jdO {α : Type} {l m : List α} (h : l.length = m.length) : jcl l m l.length = l := by
 unfold jcl
 rw [List.take_length, List.drop_eq_nil_of_le (by omega), List.append_nil]
theorem jim {α : Type} {l m : List α} {j : Nat} (h : l.length = m.length) (hj : j < l.length) : (jcl l m j)[j]? = m[j]? := by
 have e1 : (l.take j).length = j := by simp; omega
 unfold jcl
 rw [List.getElem?_append_right (by omega), e1]
 simp
theorem jdV {α : Type} {l m : List α} {j : Nat} (h : l.length = m.length) (hj : j < l.length) : (jcl l m j).set j (l[j]) = jcl l m (j + 1) := by
 have e1 : (l.take j).length = j := by simp; omega
 unfold jcl
 rw [List.set_append_right _ _ (by omega), e1, Nat.sub_self, List.drop_eq_getElem_cons (show j < m.length by omega), List.set_cons_zero, ← List.take_append_getElem hj, List.append_assoc]
 rfl
theorem jaa.atK {α : Type} {enc : α → Value} {w : World} {b o : Nat} {l : List α} (h : jaa enc w (some ⟨b, o, none⟩) l) {k : Nat} (hk : k < l.length) : w.cell? ⟨b, o + k, none⟩ = some (enc (l[k]'hk)) := by
 obtain ⟨b', o', h1, h2⟩ := h k hk
 cases h1; exact h2
theorem jaa.cells {α : Type} {enc : α → Value} {w : World} {b : Nat} : ∀ {o : Nat} {l : List α}, jaa enc w (some ⟨b, o, none⟩) l → jak w b o (l.map enc)
 | _, [], _ => trivial
 | o, a :: l, h => ⟨h.atK (k := 0) (Nat.zero_lt_succ _), jaa.cells fun k hk => ⟨b, o + 1, rfl, by
   have := h.atK (k := k + 1) (by simpa using hk)
   rw [show o + 1 + k = o + (k + 1) by omega]; exact this⟩⟩
theorem jif {α : Type} {enc : α → Value} (l : List α) (post : List Value) (k : Nat) (x : α) (hk : k < l.length) : jam (l.map enc ++ post) k [enc x] = (l.set k x).map enc ++ post := by
 simp only [jam]
 rw [List.set_append_left _ _ (by simpa using hk), List.map_set]
end Go.W
namespace Go.W
open Go.RowKit
structure GB (v : Value) (want q : Bool) : Prop where
 out : v = .bool want ↔ q = true
theorem GB.b {v : Value} {b want : Bool} (h : v = .bool b) : GB v want (b == want) := ⟨by subst h; cases b <;> cases want <;> simp⟩
theorem GB.g {v : Value} {b1 w1 b2 want : Bool} (h : v = gv b1 w1 (.bool b2)) : GB v want ((b1 == w1) && (b2 == want)) := ⟨by
 subst h
 by_cases h1 : b1 = w1
 ·subst h1; cases b2 <;> cases want <;> simp [gv]
 ·simp [gv, h1, undef]⟩
section
variable {P : Program} {N : Nat} {m : Md} {ops : Array Oper} {K : Env → World → Prop} {e : Env} {w : World} {rest : List Oper} {o : Oper}
theorem jfQ {a : Act} {j dj : Nat} {want q : Bool} (hj : ops[j]?.bind (·.dst) = some dj) (h : GB (jch a dj) want q) : (yielded ops a.tmps j == some want) = q := by
 have h2 := h.out
 unfold yielded
 simp only [jch, undef] at h2
 rw [hj]
 simp only [Option.bind_some]
 cases ht : a.tmps[dj]? with
 | none =>
  simp only [Array.getD_eq_getD_getElem?, ht, Option.getD_none] at h2
  cases q with
  | true => simp at h2
  | false => rfl
 | some u =>
  simp only [Array.getD_eq_getD_getElem?, ht, Option.getD_some] at h2
  cases u with
  | bool x =>
   cases q with
   | true =>
    have := h2.2 rfl
    cases this; simp
   | false =>
    have hne : x ≠ want := fun e => by subst e; have := h2.1 rfl; cases this
    simp [hne]
  | _ =>
   cases q with
   | true => have := h2.2 rfl; cases this
   | false => rfl
theorem OPS.gvalN {d j dj : Nat} {want q : Bool} {v : Value} (hg : o.guard = some (j, want)) (hj : ops[j]?.bind (·.dst) = some dj) (hb : GB (e dj) want q) (hd : o.dst = some d) (hN : Nat.blt d N = true)
  (hE : q = true → Ev P e w o.type o.op v) (h : OPS P N m ops K rest (upd e d (gv q true v)) w) : OPS P N m ops K (o :: rest) e w :=
 ⟨fun a h1 h2 h3 => by
  have hn := h.run (a.put (some d) (gv q true v)) (by rw [jbt _ h2 hN, h1]) (by rw [size_put]; exact h2) (by rw [jaU]; exact h3)
  have hy := jfQ (a := a) (want := want) (q := q) hj (h1 ▸ hb)
  have hwt : Region.wanted o (yielded ops a.tmps) = q := by simp only [Region.wanted, hg]; exact hy
  cases q with
  | true =>
   have hr := fun w' hb => (hE rfl).run w' hb o rfl rfl
   rw [← h1, ← jbW] at hr
   have hgv : gv true true v = v := by simp [gv]
   rw [hgv] at hn
   cases m with
   | plain =>
    simp only at hn ⊢
    unfold wpList
    rw [if_pos hwt]
    refine .inl ?_
    unfold Oper.wp
    rw [hr w (Below.refl _ _)]
    simp only [Oper.upon, hd]
    exact hn
   | still =>
    simp only at hn ⊢
    unfold wpStill
    rw [if_pos hwt]
    unfold Oper.still
    rw [hr w (Below.refl _ _)]
    simp only [Oper.stillUpon, hd]
    exact ⟨trivial, hn⟩
   | quiet =>
    simp only at hn ⊢
    unfold wpQuiet
    rw [if_pos hwt]
    refine ⟨v, fun w' hb => ?_, by rw [hd]; exact hn⟩
    unfold Oper.quietAt
    rw [hr w' hb]
    exact ⟨rfl, rfl⟩
  | false =>
   have hgv : gv false true v = undef := by simp [gv]
   rw [hgv] at hn
   cases m with
   | plain => simp only at hn ⊢; unfold wpList; rw [hwt, hd]; exact hn
   | still => simp only at hn ⊢; unfold wpStill; rw [hwt, hd]; exact hn
   | quiet => simp only at hn ⊢; unfold wpQuiet; rw [hwt, hd]; exact hn⟩
end
section
variable {P : Program} {e : Env} {w : World} {ty : TypeId} {x y c : Operand}
theorem Ev.pickAnd2 {q b u : Bool} (hg : q = true) (hc : ev e c = .bool b) (hx : ev e x = gv (q && (b == true)) true (.bool u)) (hy : ev e y = .bool false) : Ev P e w ty (.pick c x y) (.bool (b && u)) := by
 have := Ev.pick (P := P) (w := w) (ty := ty) (x := x) (y := y) hc
 cases b <;> simpa [hx, hy, gv, hg] using this
theorem Ev.pickOr2 {q b u : Bool} (hg : q = true) (hc : ev e c = .bool b) (hx : ev e x = .bool true) (hy : ev e y = gv (q && (b == false)) true (.bool u)) : Ev P e w ty (.pick c x y) (.bool (b || u)) := by
 have := Ev.pick (P := P) (w := w) (ty := ty) (x := x) (y := y) hc
 cases b <;> simpa [hx, hy, gv, hg] using this
end
section
variable {P : Program} {N : Nat} {Kn : Env → World → Prop} {Kx : Nat → Env → World → Prop} {Kr : Env → World → Prop} {e : Env} {w : World}
theorem WP.cut {c : Code} (M : List Nat) (I : Env → World → Prop) (h : WP P N c (fun e' w' => Agree M e' e ∧ I e' w') Kx Kr e w) (hk : ∀ u w', I u w' → Kn (W.mix M u e) w') : WP P N c Kn Kx Kr e w :=
 WP.mono h (fun e' w' hh => by rw [hh.1.eq]; exact hk e' w' hh.2) (fun _ _ _ h => h) (fun _ _ h => h)
end
theorem beqT {b want : Bool} (h : b = want) : (b == want) = true := by simp [h]
end Go.W
