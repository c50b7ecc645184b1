/-
  The types and functions of this seat, as the walk wants them (written by a program from the translation).
-/
import Derived.Test.YtjgdklhbegplfaaGreatProg
import Derived.Test.YtjgdklhbegplfaaGreatEng
import Derived.OrdersHeld
import Derived.Laws.CopyRow
set_option linter.all false
namespace Go.Proofs.YtjgdklhbegplfaaGreat
open Go Go.W

def aggT : Nat → Option Bool
  | 2 => some false
  | 3 => some false
  | 4 => some false
  | 5 => some false
  | 6 => some false
  | 21 => some false
  | 22 => some false
  | 23 => some false
  | 24 => some true
  | 25 => some true
  | 26 => some true
  | 27 => some true
  | 30 => some true
  | 31 => some true
  | 32 => some false
  | 37 => some false
  | 38 => some false
  | 39 => some true
  | 40 => some true
  | 41 => some true
  | 42 => some true
  | 44 => some true
  | 45 => some true
  | 46 => some true
  | 47 => some true
  | 48 => some false
  | 49 => some false
  | 50 => some true
  | 51 => some true
  | 52 => some false
  | 55 => some false
  | 56 => some true
  | 57 => some true
  | 58 => some true
  | 59 => some true
  | 60 => some false
  | 61 => some false
  | 62 => some true
  | 63 => some true
  | 64 => some false
  | 65 => some false
  | 66 => some false
  | 67 => some true
  | 68 => some true
  | 70 => some false
  | 71 => some true
  | 72 => some true
  | 83 => some false
  | 84 => some false
  | 87 => some false
  | 88 => some false
  | 91 => some true
  | 92 => some true
  | 95 => some false
  | 98 => some false
  | 100 => some false
  | 103 => some false
  | 104 => some false
  | 109 => some false
  | 112 => some true
  | 113 => some true
  | 124 => some false
  | 125 => some false
  | 134 => some true
  | 135 => some true
  | 142 => some true
  | 143 => some true
  | 145 => some false
  | 150 => some false
  | 155 => some true
  | 156 => some false
  | 160 => some false
  | 168 => some false
  | 170 => some false
  | 176 => some false
  | 177 => some true
  | 178 => some true
  | 179 => some false
  | 184 => some false
  | 186 => some true
  | 187 => some false
  | 188 => some false
  | 201 => some false
  | 203 => some true
  | 204 => some true
  | 213 => some false
  | 214 => some false
  | 215 => some false
  | 235 => some false
  | _ => none

set_option maxHeartbeats 2000000 in
theorem agg_run {t : Nat} {v : _} (h : aggT t = some v) : ∀ w, (isAgg t).run Tryz.prog w = .ok v w := by
  unfold aggT at h
  split at h <;> (try cases h)
  · exact Tryz.isAgg2
  · exact Tryz.isAgg3
  · exact Tryz.isAgg4
  · exact Tryz.isAgg5
  · exact Tryz.isAgg6
  · exact Tryz.isAgg21
  · exact Tryz.isAgg22
  · exact Tryz.isAgg23
  · exact Tryz.isAgg24
  · exact Tryz.isAgg25
  · exact Tryz.isAgg26
  · exact Tryz.isAgg27
  · exact Tryz.isAgg30
  · exact Tryz.isAgg31
  · exact Tryz.isAgg32
  · exact Tryz.isAgg37
  · exact Tryz.isAgg38
  · exact Tryz.isAgg39
  · exact Tryz.isAgg40
  · exact Tryz.isAgg41
  · exact Tryz.isAgg42
  · exact Tryz.isAgg44
  · exact Tryz.isAgg45
  · exact Tryz.isAgg46
  · exact Tryz.isAgg47
  · exact Tryz.isAgg48
  · exact Tryz.isAgg49
  · exact Tryz.isAgg50
  · exact Tryz.isAgg51
  · exact Tryz.isAgg52
  · exact Tryz.isAgg55
  · exact Tryz.isAgg56
  · exact Tryz.isAgg57
  · exact Tryz.isAgg58
  · exact Tryz.isAgg59
  · exact Tryz.isAgg60
  · exact Tryz.isAgg61
  · exact Tryz.isAgg62
  · exact Tryz.isAgg63
  · exact Tryz.isAgg64
  · exact Tryz.isAgg65
  · exact Tryz.isAgg66
  · exact Tryz.isAgg67
  · exact Tryz.isAgg68
  · exact Tryz.isAgg70
  · exact Tryz.isAgg71
  · exact Tryz.isAgg72
  · exact Tryz.isAgg83
  · exact Tryz.isAgg84
  · exact Tryz.isAgg87
  · exact Tryz.isAgg88
  · exact Tryz.isAgg91
  · exact Tryz.isAgg92
  · exact Tryz.isAgg95
  · exact Tryz.isAgg98
  · exact Tryz.isAgg100
  · exact Tryz.isAgg103
  · exact Tryz.isAgg104
  · exact Tryz.isAgg109
  · exact Tryz.isAgg112
  · exact Tryz.isAgg113
  · exact Tryz.isAgg124
  · exact Tryz.isAgg125
  · exact Tryz.isAgg134
  · exact Tryz.isAgg135
  · exact Tryz.isAgg142
  · exact Tryz.isAgg143
  · exact Tryz.isAgg145
  · exact Tryz.isAgg150
  · exact Tryz.isAgg155
  · exact Tryz.isAgg156
  · exact Tryz.isAgg160
  · exact Tryz.isAgg168
  · exact Tryz.isAgg170
  · exact Tryz.isAgg176
  · exact Tryz.isAgg177
  · exact Tryz.isAgg178
  · exact Tryz.isAgg179
  · exact Tryz.isAgg184
  · exact Tryz.isAgg186
  · exact Tryz.isAgg187
  · exact Tryz.isAgg188
  · exact Tryz.isAgg201
  · exact Tryz.isAgg203
  · exact Tryz.isAgg204
  · exact Tryz.isAgg213
  · exact Tryz.isAgg214
  · exact Tryz.isAgg215
  · exact Tryz.isAgg235

def sizeT : Nat → Option Nat
  | 2 => some 1
  | 3 => some 1
  | 4 => some 1
  | 5 => some 1
  | 6 => some 1
  | 21 => some 1
  | 22 => some 1
  | 23 => some 1
  | 24 => some 2
  | 25 => some 2
  | 26 => some 6
  | 27 => some 6
  | 30 => some 4
  | 31 => some 4
  | 32 => some 1
  | 37 => some 1
  | 38 => some 1
  | 39 => some 2
  | 40 => some 2
  | 41 => some 6
  | 42 => some 6
  | 44 => some 2
  | 45 => some 2
  | 46 => some 5
  | 47 => some 5
  | 48 => some 1
  | 49 => some 1
  | 50 => some 13
  | 51 => some 13
  | 52 => some 1
  | 55 => some 1
  | 56 => some 5
  | 57 => some 5
  | 58 => some 6
  | 59 => some 6
  | 60 => some 1
  | 61 => some 1
  | 62 => some 7
  | 63 => some 7
  | 64 => some 1
  | 65 => some 1
  | 66 => some 1
  | 67 => some 4
  | 68 => some 4
  | 70 => some 1
  | 71 => some 5
  | 72 => some 5
  | 83 => some 1
  | 84 => some 1
  | 87 => some 1
  | 88 => some 1
  | 91 => some 4
  | 92 => some 4
  | 95 => some 1
  | 98 => some 1
  | 100 => some 1
  | 103 => some 1
  | 104 => some 1
  | 109 => some 1
  | 112 => some 4
  | 113 => some 4
  | 124 => some 1
  | 125 => some 1
  | 134 => some 6
  | 135 => some 6
  | 142 => some 3
  | 143 => some 3
  | 145 => some 1
  | 150 => some 1
  | 155 => some 6
  | 156 => some 1
  | 160 => some 1
  | 168 => some 1
  | 170 => some 1
  | 176 => some 1
  | 177 => some 2
  | 178 => some 2
  | 179 => some 1
  | 184 => some 1
  | 186 => some 2
  | 187 => some 1
  | 188 => some 1
  | 201 => some 1
  | 203 => some 4
  | 204 => some 4
  | 213 => some 1
  | 214 => some 1
  | 215 => some 1
  | 235 => some 1
  | _ => none

set_option maxHeartbeats 2000000 in
theorem size_run {t : Nat} {v : _} (h : sizeT t = some v) : ∀ w, (Go.sizeOf t).run Tryz.prog w = .ok v w := by
  unfold sizeT at h
  split at h <;> (try cases h)
  · exact Tryz.sizeOf2
  · exact Tryz.sizeOf3
  · exact Tryz.sizeOf4
  · exact Tryz.sizeOf5
  · exact Tryz.sizeOf6
  · exact Tryz.sizeOf21
  · exact Tryz.sizeOf22
  · exact Tryz.sizeOf23
  · exact Tryz.sizeOf24
  · exact Tryz.sizeOf25
  · exact Tryz.sizeOf26
  · exact Tryz.sizeOf27
  · exact Tryz.sizeOf30
  · exact Tryz.sizeOf31
  · exact Tryz.sizeOf32
  · exact Tryz.sizeOf37
  · exact Tryz.sizeOf38
  · exact Tryz.sizeOf39
  · exact Tryz.sizeOf40
  · exact Tryz.sizeOf41
  · exact Tryz.sizeOf42
  · exact Tryz.sizeOf44
  · exact Tryz.sizeOf45
  · exact Tryz.sizeOf46
  · exact Tryz.sizeOf47
  · exact Tryz.sizeOf48
  · exact Tryz.sizeOf49
  · exact Tryz.sizeOf50
  · exact Tryz.sizeOf51
  · exact Tryz.sizeOf52
  · exact Tryz.sizeOf55
  · exact Tryz.sizeOf56
  · exact Tryz.sizeOf57
  · exact Tryz.sizeOf58
  · exact Tryz.sizeOf59
  · exact Tryz.sizeOf60
  · exact Tryz.sizeOf61
  · exact Tryz.sizeOf62
  · exact Tryz.sizeOf63
  · exact Tryz.sizeOf64
  · exact Tryz.sizeOf65
  · exact Tryz.sizeOf66
  · exact Tryz.sizeOf67
  · exact Tryz.sizeOf68
  · exact Tryz.sizeOf70
  · exact Tryz.sizeOf71
  · exact Tryz.sizeOf72
  · exact Tryz.sizeOf83
  · exact Tryz.sizeOf84
  · exact Tryz.sizeOf87
  · exact Tryz.sizeOf88
  · exact Tryz.sizeOf91
  · exact Tryz.sizeOf92
  · exact Tryz.sizeOf95
  · exact Tryz.sizeOf98
  · exact Tryz.sizeOf100
  · exact Tryz.sizeOf103
  · exact Tryz.sizeOf104
  · exact Tryz.sizeOf109
  · exact Tryz.sizeOf112
  · exact Tryz.sizeOf113
  · exact Tryz.sizeOf124
  · exact Tryz.sizeOf125
  · exact Tryz.sizeOf134
  · exact Tryz.sizeOf135
  · exact Tryz.sizeOf142
  · exact Tryz.sizeOf143
  · exact Tryz.sizeOf145
  · exact Tryz.sizeOf150
  · exact Tryz.sizeOf155
  · exact Tryz.sizeOf156
  · exact Tryz.sizeOf160
  · exact Tryz.sizeOf168
  · exact Tryz.sizeOf170
  · exact Tryz.sizeOf176
  · exact Tryz.sizeOf177
  · exact Tryz.sizeOf178
  · exact Tryz.sizeOf179
  · exact Tryz.sizeOf184
  · exact Tryz.sizeOf186
  · exact Tryz.sizeOf187
  · exact Tryz.sizeOf188
  · exact Tryz.sizeOf201
  · exact Tryz.sizeOf203
  · exact Tryz.sizeOf204
  · exact Tryz.sizeOf213
  · exact Tryz.sizeOf214
  · exact Tryz.sizeOf215
  · exact Tryz.sizeOf235

def elT : Nat → Option Nat
  | 22 => some 42
  | 23 => some 72
  | 37 => some 25
  | 38 => some 25
  | 48 => some 47
  | 49 => some 204
  | 52 => some 68
  | 55 => some 3
  | 60 => some 59
  | 61 => some 135
  | 64 => some 51
  | 65 => some 31
  | 66 => some 143
  | 70 => some 5
  | 87 => some 88
  | 109 => some 113
  | 156 => some 55
  | 179 => some 40
  | 215 => some 204
  | _ => none

set_option maxHeartbeats 2000000 in
theorem el_run {t : Nat} {v : _} (h : elT t = some v) : ∀ w, (underlying t).run Tryz.prog w = .ok (.slice v) w := by
  unfold elT at h
  split at h <;> (try cases h)
  · exact Tryz.runUnderlying22
  · exact Tryz.runUnderlying23
  · exact Tryz.runUnderlying37
  · exact Tryz.runUnderlying38
  · exact Tryz.runUnderlying48
  · exact Tryz.runUnderlying49
  · exact Tryz.runUnderlying52
  · exact Tryz.runUnderlying55
  · exact Tryz.runUnderlying60
  · exact Tryz.runUnderlying61
  · exact Tryz.runUnderlying64
  · exact Tryz.runUnderlying65
  · exact Tryz.runUnderlying66
  · exact Tryz.runUnderlying70
  · exact Tryz.runUnderlying87
  · exact Tryz.runUnderlying109
  · exact Tryz.runUnderlying156
  · exact Tryz.runUnderlying179
  · exact Tryz.runUnderlying215

def ikT : Nat → Option IntKind
  | 2 => some .i64
  | 3 => some .i64
  | 5 => some .u8
  | 6 => some .u8
  | 21 => some .i32
  | 32 => some .i64
  | 124 => some .u64
  | 160 => some .i64
  | 168 => some .u32
  | 170 => some .u64
  | _ => none

set_option maxHeartbeats 2000000 in
theorem ik_run {t : Nat} {v : _} (h : ikT t = some v) : ∀ w, (underlying t).run Tryz.prog w = .ok (.int v) w := by
  unfold ikT at h
  split at h <;> (try cases h)
  · exact Tryz.runUnderlying2
  · exact Tryz.runUnderlying3
  · exact Tryz.runUnderlying5
  · exact Tryz.runUnderlying6
  · exact Tryz.runUnderlying21
  · exact Tryz.runUnderlying32
  · exact Tryz.runUnderlying124
  · exact Tryz.runUnderlying160
  · exact Tryz.runUnderlying168
  · exact Tryz.runUnderlying170

def arrT : Nat → Option (Nat × Nat)
  | 186 => some (2, 3)
  | _ => none

set_option maxHeartbeats 2000000 in
theorem arr_run {t : Nat} {v : _} (h : arrT t = some v) : ∀ w, (underlying t).run Tryz.prog w = .ok (.array v.1 v.2) w := by
  unfold arrT at h
  split at h <;> (try cases h)
  · exact Tryz.runUnderlying186

def zeroT : Nat → Option Value
  | 2 => some (.int .i64 0)
  | 3 => some (.int .i64 0)
  | 4 => some (.bool false)
  | 5 => some (.int .u8 0)
  | 6 => some (.int .u8 0)
  | 21 => some (.int .i32 0)
  | 22 => some (.slice none 0 0)
  | 23 => some (.slice none 0 0)
  | 24 => some (.agg #[.int .i64 0, .int .i64 0])
  | 25 => some (.agg #[.int .i64 0, .int .i64 0])
  | 26 => some (.agg #[.int .i64 0, .int .i64 0, .int .i64 0, .int .i64 0, .int .i64 0, .int .i64 0])
  | 27 => some (.agg #[.int .i64 0, .int .i64 0, .int .i64 0, .int .i64 0, .int .i64 0, .int .i64 0])
  | 30 => some (.agg #[.int .i64 0, .int .i64 0, .int .i64 0, .int .i64 0])
  | 31 => some (.agg #[.int .i64 0, .int .i64 0, .int .i64 0, .int .i64 0])
  | 32 => some (.int .i64 0)
  | 37 => some (.slice none 0 0)
  | 38 => some (.slice none 0 0)
  | 39 => some (.agg #[.int .i64 0, .int .i64 0])
  | 40 => some (.agg #[.int .i64 0, .int .i64 0])
  | 41 => some (.agg #[.int .i64 0, .slice none 0 0, .int .i64 0, .int .i64 0, .int .i64 0, .int .i64 0])
  | 42 => some (.agg #[.int .i64 0, .slice none 0 0, .int .i64 0, .int .i64 0, .int .i64 0, .int .i64 0])
  | 44 => some (.agg #[.int .i64 0, .int .i64 0])
  | 45 => some (.agg #[.int .i64 0, .int .i64 0])
  | 46 => some (.agg #[.int .i64 0, .int .i64 0, .int .i64 0, .int .i64 0, .int .i64 0])
  | 47 => some (.agg #[.int .i64 0, .int .i64 0, .int .i64 0, .int .i64 0, .int .i64 0])
  | 48 => some (.slice none 0 0)
  | 49 => some (.slice none 0 0)
  | 50 => some (.agg #[.int .i64 0, .int .i64 0, .int .i64 0, .int .i64 0, .int .i64 0, .int .i64 0, .bool false, .slice none 0 0, .slice none 0 0, .int .i64 0, .int .i64 0, .int .i64 0, .int .i64 0])
  | 51 => some (.agg #[.int .i64 0, .int .i64 0, .int .i64 0, .int .i64 0, .int .i64 0, .int .i64 0, .bool false, .slice none 0 0, .slice none 0 0, .int .i64 0, .int .i64 0, .int .i64 0, .int .i64 0])
  | 52 => some (.slice none 0 0)
  | 55 => some (.slice none 0 0)
  | 56 => some (.agg #[.int .i64 0, .int .i64 0, .int .i64 0, .slice none 0 0, .slice none 0 0])
  | 57 => some (.agg #[.int .i64 0, .int .i64 0, .int .i64 0, .slice none 0 0, .slice none 0 0])
  | 58 => some (.agg #[.int .i64 0, .int .i64 0, .int .i64 0, .int .i64 0, .int .i64 0, .int .i64 0])
  | 59 => some (.agg #[.int .i64 0, .int .i64 0, .int .i64 0, .int .i64 0, .int .i64 0, .int .i64 0])
  | 60 => some (.slice none 0 0)
  | 61 => some (.slice none 0 0)
  | 62 => some (.agg #[.slice none 0 0, .slice none 0 0, .slice none 0 0, .slice none 0 0, .int .i64 0, .slice none 0 0, .int .i64 0])
  | 63 => some (.agg #[.slice none 0 0, .slice none 0 0, .slice none 0 0, .slice none 0 0, .int .i64 0, .slice none 0 0, .int .i64 0])
  | 64 => some (.slice none 0 0)
  | 65 => some (.slice none 0 0)
  | 66 => some (.slice none 0 0)
  | 67 => some (.agg #[.int .i64 0, .int .i64 0, .slice none 0 0, .int .i64 0])
  | 68 => some (.agg #[.int .i64 0, .int .i64 0, .slice none 0 0, .int .i64 0])
  | 70 => some (.slice none 0 0)
  | 71 => some (.agg #[.int .i64 0, .int .i64 0, .int .i64 0, .int .i64 0, .slice none 0 0])
  | 72 => some (.agg #[.int .i64 0, .int .i64 0, .int .i64 0, .int .i64 0, .slice none 0 0])
  | 83 => some (.nilFunc)
  | 84 => some (.nilFunc)
  | 87 => some (.slice none 0 0)
  | 88 => some (.pointer none)
  | 91 => some (.agg #[.int .i64 0, .int .i64 0, .slice none 0 0, .int .i64 0])
  | 92 => some (.agg #[.int .i64 0, .int .i64 0, .slice none 0 0, .int .i64 0])
  | 95 => some (.nilFunc)
  | 98 => some (.nilFunc)
  | 100 => some (.nilFunc)
  | 103 => some (.nilFunc)
  | 104 => some (.nilFunc)
  | 109 => some (.slice none 0 0)
  | 112 => some (.agg #[.int .i64 0, .int .i64 0, .int .i64 0, .int .i64 0])
  | 113 => some (.agg #[.int .i64 0, .int .i64 0, .int .i64 0, .int .i64 0])
  | 124 => some (.int .u64 0)
  | 125 => some (.nilFunc)
  | 134 => some (.agg #[.int .i64 0, .int .i64 0, .int .i64 0, .int .i64 0, .int .i64 0, .int .i64 0])
  | 135 => some (.agg #[.int .i64 0, .int .i64 0, .int .i64 0, .int .i64 0, .int .i64 0, .int .i64 0])
  | 142 => some (.agg #[.int .i64 0, .int .i64 0, .int .i64 0])
  | 143 => some (.agg #[.int .i64 0, .int .i64 0, .int .i64 0])
  | 145 => some (.nilFunc)
  | 150 => some (.nilFunc)
  | 155 => some (.agg #[.int .i64 0, .int .i64 0, .int .i64 0, .int .i64 0, .int .i64 0, .int .i64 0])
  | 156 => some (.slice none 0 0)
  | 160 => some (.int .i64 0)
  | 168 => some (.int .u32 0)
  | 170 => some (.int .u64 0)
  | 176 => some (.nilFunc)
  | 177 => some (.agg #[.int .i64 0, .int .i64 0])
  | 178 => some (.agg #[.int .i64 0, .int .i64 0])
  | 179 => some (.slice none 0 0)
  | 184 => some (.nilFunc)
  | 186 => some (.agg #[.int .i64 0, .int .i64 0])
  | 187 => some (.nilFunc)
  | 188 => some (.nilFunc)
  | 201 => some (.nilFunc)
  | 203 => some (.agg #[.int .i64 0, .int .i64 0, .int .i64 0, .int .i64 0])
  | 204 => some (.agg #[.int .i64 0, .int .i64 0, .int .i64 0, .int .i64 0])
  | 213 => some (.nilFunc)
  | 214 => some (.nilFunc)
  | 215 => some (.slice none 0 0)
  | 235 => some (.nilFunc)
  | _ => none

set_option maxHeartbeats 2000000 in
theorem zero_run {t : Nat} {v : _} (h : zeroT t = some v) : ∀ w, (zeroValue t).run Tryz.prog w = .ok v w := by
  unfold zeroT at h
  split at h <;> (try cases h)
  · exact Tryz.zeroValue2
  · exact Tryz.zeroValue3
  · exact Tryz.zeroValue4
  · exact Tryz.zeroValue5
  · exact Tryz.zeroValue6
  · exact Tryz.zeroValue21
  · exact Tryz.zeroValue22
  · exact Tryz.zeroValue23
  · exact Tryz.zeroValue24
  · exact Tryz.zeroValue25
  · exact Tryz.zeroValue26
  · exact Tryz.zeroValue27
  · exact Tryz.zeroValue30
  · exact Tryz.zeroValue31
  · exact Tryz.zeroValue32
  · exact Tryz.zeroValue37
  · exact Tryz.zeroValue38
  · exact Tryz.zeroValue39
  · exact Tryz.zeroValue40
  · exact Tryz.zeroValue41
  · exact Tryz.zeroValue42
  · exact Tryz.zeroValue44
  · exact Tryz.zeroValue45
  · exact Tryz.zeroValue46
  · exact Tryz.zeroValue47
  · exact Tryz.zeroValue48
  · exact Tryz.zeroValue49
  · exact Tryz.zeroValue50
  · exact Tryz.zeroValue51
  · exact Tryz.zeroValue52
  · exact Tryz.zeroValue55
  · exact Tryz.zeroValue56
  · exact Tryz.zeroValue57
  · exact Tryz.zeroValue58
  · exact Tryz.zeroValue59
  · exact Tryz.zeroValue60
  · exact Tryz.zeroValue61
  · exact Tryz.zeroValue62
  · exact Tryz.zeroValue63
  · exact Tryz.zeroValue64
  · exact Tryz.zeroValue65
  · exact Tryz.zeroValue66
  · exact Tryz.zeroValue67
  · exact Tryz.zeroValue68
  · exact Tryz.zeroValue70
  · exact Tryz.zeroValue71
  · exact Tryz.zeroValue72
  · exact Tryz.zeroValue83
  · exact Tryz.zeroValue84
  · exact Tryz.zeroValue87
  · exact Tryz.zeroValue88
  · exact Tryz.zeroValue91
  · exact Tryz.zeroValue92
  · exact Tryz.zeroValue95
  · exact Tryz.zeroValue98
  · exact Tryz.zeroValue100
  · exact Tryz.zeroValue103
  · exact Tryz.zeroValue104
  · exact Tryz.zeroValue109
  · exact Tryz.zeroValue112
  · exact Tryz.zeroValue113
  · exact Tryz.zeroValue124
  · exact Tryz.zeroValue125
  · exact Tryz.zeroValue134
  · exact Tryz.zeroValue135
  · exact Tryz.zeroValue142
  · exact Tryz.zeroValue143
  · exact Tryz.zeroValue145
  · exact Tryz.zeroValue150
  · exact Tryz.zeroValue155
  · exact Tryz.zeroValue156
  · exact Tryz.zeroValue160
  · exact Tryz.zeroValue168
  · exact Tryz.zeroValue170
  · exact Tryz.zeroValue176
  · exact Tryz.zeroValue177
  · exact Tryz.zeroValue178
  · exact Tryz.zeroValue179
  · exact Tryz.zeroValue184
  · exact Tryz.zeroValue186
  · exact Tryz.zeroValue187
  · exact Tryz.zeroValue188
  · exact Tryz.zeroValue201
  · exact Tryz.zeroValue203
  · exact Tryz.zeroValue204
  · exact Tryz.zeroValue213
  · exact Tryz.zeroValue214
  · exact Tryz.zeroValue215
  · exact Tryz.zeroValue235

def bytT : Nat → Option (Nat × Nat)
  | 2 => some (1, 8)
  | 3 => some (1, 8)
  | 4 => some (1, 1)
  | 5 => some (1, 1)
  | 6 => some (1, 1)
  | 21 => some (1, 4)
  | 22 => some (1, 24)
  | 23 => some (1, 24)
  | 24 => some (2, 16)
  | 25 => some (2, 16)
  | 26 => some (6, 48)
  | 27 => some (6, 48)
  | 30 => some (4, 32)
  | 31 => some (4, 32)
  | 32 => some (1, 8)
  | 37 => some (1, 24)
  | 38 => some (1, 24)
  | 39 => some (2, 16)
  | 40 => some (2, 16)
  | 41 => some (6, 64)
  | 42 => some (6, 64)
  | 44 => some (2, 16)
  | 45 => some (2, 16)
  | 46 => some (5, 40)
  | 47 => some (5, 40)
  | 48 => some (1, 24)
  | 49 => some (1, 24)
  | 50 => some (13, 136)
  | 51 => some (13, 136)
  | 52 => some (1, 24)
  | 55 => some (1, 24)
  | 56 => some (5, 72)
  | 57 => some (5, 72)
  | 58 => some (6, 48)
  | 59 => some (6, 48)
  | 60 => some (1, 24)
  | 61 => some (1, 24)
  | 62 => some (7, 136)
  | 63 => some (7, 136)
  | 64 => some (1, 24)
  | 65 => some (1, 24)
  | 66 => some (1, 24)
  | 67 => some (4, 48)
  | 68 => some (4, 48)
  | 70 => some (1, 24)
  | 71 => some (5, 56)
  | 72 => some (5, 56)
  | 83 => some (1, 8)
  | 84 => some (1, 8)
  | 87 => some (1, 24)
  | 88 => some (1, 8)
  | 91 => some (4, 48)
  | 92 => some (4, 48)
  | 95 => some (1, 8)
  | 98 => some (1, 8)
  | 100 => some (1, 8)
  | 103 => some (1, 8)
  | 104 => some (1, 8)
  | 109 => some (1, 24)
  | 112 => some (4, 32)
  | 113 => some (4, 32)
  | 124 => some (1, 8)
  | 125 => some (1, 8)
  | 134 => some (6, 48)
  | 135 => some (6, 48)
  | 142 => some (3, 24)
  | 143 => some (3, 24)
  | 145 => some (1, 8)
  | 150 => some (1, 8)
  | 155 => some (6, 48)
  | 156 => some (1, 24)
  | 160 => some (1, 8)
  | 168 => some (1, 4)
  | 170 => some (1, 8)
  | 176 => some (1, 8)
  | 177 => some (2, 16)
  | 178 => some (2, 16)
  | 179 => some (1, 24)
  | 184 => some (1, 8)
  | 186 => some (2, 16)
  | 187 => some (1, 8)
  | 188 => some (1, 8)
  | 201 => some (1, 8)
  | 203 => some (4, 32)
  | 204 => some (4, 32)
  | 213 => some (1, 8)
  | 214 => some (1, 8)
  | 215 => some (1, 24)
  | 235 => some (1, 8)
  | _ => none

set_option maxHeartbeats 2000000 in
theorem byt_run {t : Nat} {v : _} (h : bytT t = some v) : ∃ i, (∀ w, (typeInfo t).run Tryz.prog w = .ok i w) ∧ i.size = v.1 ∧ i.bytes = v.2 := by
  unfold bytT at h
  split at h <;> (try cases h)
  · exact ⟨_, Tryz.typeInfo2, rfl, rfl⟩
  · exact ⟨_, Tryz.typeInfo3, rfl, rfl⟩
  · exact ⟨_, Tryz.typeInfo4, rfl, rfl⟩
  · exact ⟨_, Tryz.typeInfo5, rfl, rfl⟩
  · exact ⟨_, Tryz.typeInfo6, rfl, rfl⟩
  · exact ⟨_, Tryz.typeInfo21, rfl, rfl⟩
  · exact ⟨_, Tryz.typeInfo22, rfl, rfl⟩
  · exact ⟨_, Tryz.typeInfo23, rfl, rfl⟩
  · exact ⟨_, Tryz.typeInfo24, rfl, rfl⟩
  · exact ⟨_, Tryz.typeInfo25, rfl, rfl⟩
  · exact ⟨_, Tryz.typeInfo26, rfl, rfl⟩
  · exact ⟨_, Tryz.typeInfo27, rfl, rfl⟩
  · exact ⟨_, Tryz.typeInfo30, rfl, rfl⟩
  · exact ⟨_, Tryz.typeInfo31, rfl, rfl⟩
  · exact ⟨_, Tryz.typeInfo32, rfl, rfl⟩
  · exact ⟨_, Tryz.typeInfo37, rfl, rfl⟩
  · exact ⟨_, Tryz.typeInfo38, rfl, rfl⟩
  · exact ⟨_, Tryz.typeInfo39, rfl, rfl⟩
  · exact ⟨_, Tryz.typeInfo40, rfl, rfl⟩
  · exact ⟨_, Tryz.typeInfo41, rfl, rfl⟩
  · exact ⟨_, Tryz.typeInfo42, rfl, rfl⟩
  · exact ⟨_, Tryz.typeInfo44, rfl, rfl⟩
  · exact ⟨_, Tryz.typeInfo45, rfl, rfl⟩
  · exact ⟨_, Tryz.typeInfo46, rfl, rfl⟩
  · exact ⟨_, Tryz.typeInfo47, rfl, rfl⟩
  · exact ⟨_, Tryz.typeInfo48, rfl, rfl⟩
  · exact ⟨_, Tryz.typeInfo49, rfl, rfl⟩
  · exact ⟨_, Tryz.typeInfo50, rfl, rfl⟩
  · exact ⟨_, Tryz.typeInfo51, rfl, rfl⟩
  · exact ⟨_, Tryz.typeInfo52, rfl, rfl⟩
  · exact ⟨_, Tryz.typeInfo55, rfl, rfl⟩
  · exact ⟨_, Tryz.typeInfo56, rfl, rfl⟩
  · exact ⟨_, Tryz.typeInfo57, rfl, rfl⟩
  · exact ⟨_, Tryz.typeInfo58, rfl, rfl⟩
  · exact ⟨_, Tryz.typeInfo59, rfl, rfl⟩
  · exact ⟨_, Tryz.typeInfo60, rfl, rfl⟩
  · exact ⟨_, Tryz.typeInfo61, rfl, rfl⟩
  · exact ⟨_, Tryz.typeInfo62, rfl, rfl⟩
  · exact ⟨_, Tryz.typeInfo63, rfl, rfl⟩
  · exact ⟨_, Tryz.typeInfo64, rfl, rfl⟩
  · exact ⟨_, Tryz.typeInfo65, rfl, rfl⟩
  · exact ⟨_, Tryz.typeInfo66, rfl, rfl⟩
  · exact ⟨_, Tryz.typeInfo67, rfl, rfl⟩
  · exact ⟨_, Tryz.typeInfo68, rfl, rfl⟩
  · exact ⟨_, Tryz.typeInfo70, rfl, rfl⟩
  · exact ⟨_, Tryz.typeInfo71, rfl, rfl⟩
  · exact ⟨_, Tryz.typeInfo72, rfl, rfl⟩
  · exact ⟨_, Tryz.typeInfo83, rfl, rfl⟩
  · exact ⟨_, Tryz.typeInfo84, rfl, rfl⟩
  · exact ⟨_, Tryz.typeInfo87, rfl, rfl⟩
  · exact ⟨_, Tryz.typeInfo88, rfl, rfl⟩
  · exact ⟨_, Tryz.typeInfo91, rfl, rfl⟩
  · exact ⟨_, Tryz.typeInfo92, rfl, rfl⟩
  · exact ⟨_, Tryz.typeInfo95, rfl, rfl⟩
  · exact ⟨_, Tryz.typeInfo98, rfl, rfl⟩
  · exact ⟨_, Tryz.typeInfo100, rfl, rfl⟩
  · exact ⟨_, Tryz.typeInfo103, rfl, rfl⟩
  · exact ⟨_, Tryz.typeInfo104, rfl, rfl⟩
  · exact ⟨_, Tryz.typeInfo109, rfl, rfl⟩
  · exact ⟨_, Tryz.typeInfo112, rfl, rfl⟩
  · exact ⟨_, Tryz.typeInfo113, rfl, rfl⟩
  · exact ⟨_, Tryz.typeInfo124, rfl, rfl⟩
  · exact ⟨_, Tryz.typeInfo125, rfl, rfl⟩
  · exact ⟨_, Tryz.typeInfo134, rfl, rfl⟩
  · exact ⟨_, Tryz.typeInfo135, rfl, rfl⟩
  · exact ⟨_, Tryz.typeInfo142, rfl, rfl⟩
  · exact ⟨_, Tryz.typeInfo143, rfl, rfl⟩
  · exact ⟨_, Tryz.typeInfo145, rfl, rfl⟩
  · exact ⟨_, Tryz.typeInfo150, rfl, rfl⟩
  · exact ⟨_, Tryz.typeInfo155, rfl, rfl⟩
  · exact ⟨_, Tryz.typeInfo156, rfl, rfl⟩
  · exact ⟨_, Tryz.typeInfo160, rfl, rfl⟩
  · exact ⟨_, Tryz.typeInfo168, rfl, rfl⟩
  · exact ⟨_, Tryz.typeInfo170, rfl, rfl⟩
  · exact ⟨_, Tryz.typeInfo176, rfl, rfl⟩
  · exact ⟨_, Tryz.typeInfo177, rfl, rfl⟩
  · exact ⟨_, Tryz.typeInfo178, rfl, rfl⟩
  · exact ⟨_, Tryz.typeInfo179, rfl, rfl⟩
  · exact ⟨_, Tryz.typeInfo184, rfl, rfl⟩
  · exact ⟨_, Tryz.typeInfo186, rfl, rfl⟩
  · exact ⟨_, Tryz.typeInfo187, rfl, rfl⟩
  · exact ⟨_, Tryz.typeInfo188, rfl, rfl⟩
  · exact ⟨_, Tryz.typeInfo201, rfl, rfl⟩
  · exact ⟨_, Tryz.typeInfo203, rfl, rfl⟩
  · exact ⟨_, Tryz.typeInfo204, rfl, rfl⟩
  · exact ⟨_, Tryz.typeInfo213, rfl, rfl⟩
  · exact ⟨_, Tryz.typeInfo214, rfl, rfl⟩
  · exact ⟨_, Tryz.typeInfo215, rfl, rfl⟩
  · exact ⟨_, Tryz.typeInfo235, rfl, rfl⟩

def fldT25 : Nat → Option Nat
  | 0 => some 0
  | 1 => some 1
  | _ => none

def fldT27 : Nat → Option Nat
  | 0 => some 0
  | 1 => some 1
  | 2 => some 2
  | 3 => some 3
  | 4 => some 5
  | _ => none

def fldT31 : Nat → Option Nat
  | 0 => some 0
  | 1 => some 1
  | 2 => some 2
  | 3 => some 3
  | _ => none

def fldT40 : Nat → Option Nat
  | 0 => some 0
  | 1 => some 1
  | _ => none

def fldT42 : Nat → Option Nat
  | 0 => some 0
  | 1 => some 1
  | 2 => some 2
  | 3 => some 4
  | _ => none

def fldT45 : Nat → Option Nat
  | 0 => some 0
  | 1 => some 1
  | _ => none

def fldT47 : Nat → Option Nat
  | 0 => some 0
  | 1 => some 1
  | 2 => some 3
  | _ => none

def fldT51 : Nat → Option Nat
  | 0 => some 0
  | 1 => some 1
  | 2 => some 2
  | 3 => some 4
  | 4 => some 6
  | 5 => some 7
  | 6 => some 8
  | 7 => some 9
  | 8 => some 10
  | 9 => some 11
  | 10 => some 12
  | _ => none

def fldT57 : Nat → Option Nat
  | 0 => some 0
  | 1 => some 1
  | 2 => some 2
  | 3 => some 3
  | 4 => some 4
  | _ => none

def fldT59 : Nat → Option Nat
  | 0 => some 0
  | 1 => some 1
  | 2 => some 2
  | 3 => some 3
  | 4 => some 4
  | 5 => some 5
  | _ => none

def fldT63 : Nat → Option Nat
  | 0 => some 0
  | 1 => some 1
  | 2 => some 2
  | 3 => some 3
  | 4 => some 4
  | 5 => some 5
  | 6 => some 6
  | _ => none

def fldT68 : Nat → Option Nat
  | 0 => some 0
  | 1 => some 1
  | 2 => some 2
  | 3 => some 3
  | _ => none

def fldT72 : Nat → Option Nat
  | 0 => some 0
  | 1 => some 1
  | 2 => some 2
  | 3 => some 3
  | 4 => some 4
  | _ => none

def fldT92 : Nat → Option Nat
  | 0 => some 0
  | _ => none

def fldT113 : Nat → Option Nat
  | 0 => some 0
  | 1 => some 2
  | _ => none

def fldT135 : Nat → Option Nat
  | 0 => some 0
  | 1 => some 1
  | 2 => some 2
  | 3 => some 4
  | 4 => some 5
  | _ => none

def fldT143 : Nat → Option Nat
  | 0 => some 0
  | 1 => some 1
  | 2 => some 2
  | _ => none

def fldT155 : Nat → Option Nat
  | 0 => some 0
  | 1 => some 1
  | 2 => some 2
  | 3 => some 3
  | 4 => some 4
  | 5 => some 5
  | _ => none

def fldT178 : Nat → Option Nat
  | 0 => some 0
  | 1 => some 1
  | _ => none

def fldT204 : Nat → Option Nat
  | 0 => some 0
  | 1 => some 2
  | _ => none

def fldT : Nat → Nat → Option Nat
  | 25, j => fldT25 j
  | 27, j => fldT27 j
  | 31, j => fldT31 j
  | 40, j => fldT40 j
  | 42, j => fldT42 j
  | 45, j => fldT45 j
  | 47, j => fldT47 j
  | 51, j => fldT51 j
  | 57, j => fldT57 j
  | 59, j => fldT59 j
  | 63, j => fldT63 j
  | 68, j => fldT68 j
  | 72, j => fldT72 j
  | 92, j => fldT92 j
  | 113, j => fldT113 j
  | 135, j => fldT135 j
  | 143, j => fldT143 j
  | 155, j => fldT155 j
  | 178, j => fldT178 j
  | 204, j => fldT204 j
  | _, _ => none

theorem fld_25_0 : ∀ b o w, (Instr.fieldAt 25 (.pointer (some ⟨b, o, none⟩)) 0).run Tryz.prog w = .ok (.pointer (some ⟨b, o + 0, none⟩)) w := fieldAt_run Tryz.runUnderlying25 rfl Tryz.sizeOf3 rfl rfl
theorem fld_25_1 : ∀ b o w, (Instr.fieldAt 25 (.pointer (some ⟨b, o, none⟩)) 1).run Tryz.prog w = .ok (.pointer (some ⟨b, o + 1, none⟩)) w := fieldAt_run Tryz.runUnderlying25 rfl Tryz.sizeOf3 rfl rfl
theorem fld_27_0 : ∀ b o w, (Instr.fieldAt 27 (.pointer (some ⟨b, o, none⟩)) 0).run Tryz.prog w = .ok (.pointer (some ⟨b, o + 0, none⟩)) w := fieldAt_run Tryz.runUnderlying27 rfl Tryz.sizeOf3 rfl rfl
theorem fld_27_1 : ∀ b o w, (Instr.fieldAt 27 (.pointer (some ⟨b, o, none⟩)) 1).run Tryz.prog w = .ok (.pointer (some ⟨b, o + 1, none⟩)) w := fieldAt_run Tryz.runUnderlying27 rfl Tryz.sizeOf3 rfl rfl
theorem fld_27_2 : ∀ b o w, (Instr.fieldAt 27 (.pointer (some ⟨b, o, none⟩)) 2).run Tryz.prog w = .ok (.pointer (some ⟨b, o + 2, none⟩)) w := fieldAt_run Tryz.runUnderlying27 rfl Tryz.sizeOf3 rfl rfl
theorem fld_27_3 : ∀ b o w, (Instr.fieldAt 27 (.pointer (some ⟨b, o, none⟩)) 3).run Tryz.prog w = .ok (.pointer (some ⟨b, o + 3, none⟩)) w := fieldAt_run Tryz.runUnderlying27 rfl Tryz.sizeOf25 rfl rfl
theorem fld_27_4 : ∀ b o w, (Instr.fieldAt 27 (.pointer (some ⟨b, o, none⟩)) 4).run Tryz.prog w = .ok (.pointer (some ⟨b, o + 5, none⟩)) w := fieldAt_run Tryz.runUnderlying27 rfl Tryz.sizeOf3 rfl rfl
theorem fld_31_0 : ∀ b o w, (Instr.fieldAt 31 (.pointer (some ⟨b, o, none⟩)) 0).run Tryz.prog w = .ok (.pointer (some ⟨b, o + 0, none⟩)) w := fieldAt_run Tryz.runUnderlying31 rfl Tryz.sizeOf3 rfl rfl
theorem fld_31_1 : ∀ b o w, (Instr.fieldAt 31 (.pointer (some ⟨b, o, none⟩)) 1).run Tryz.prog w = .ok (.pointer (some ⟨b, o + 1, none⟩)) w := fieldAt_run Tryz.runUnderlying31 rfl Tryz.sizeOf3 rfl rfl
theorem fld_31_2 : ∀ b o w, (Instr.fieldAt 31 (.pointer (some ⟨b, o, none⟩)) 2).run Tryz.prog w = .ok (.pointer (some ⟨b, o + 2, none⟩)) w := fieldAt_run Tryz.runUnderlying31 rfl Tryz.sizeOf3 rfl rfl
theorem fld_31_3 : ∀ b o w, (Instr.fieldAt 31 (.pointer (some ⟨b, o, none⟩)) 3).run Tryz.prog w = .ok (.pointer (some ⟨b, o + 3, none⟩)) w := fieldAt_run Tryz.runUnderlying31 rfl Tryz.sizeOf3 rfl rfl
theorem fld_40_0 : ∀ b o w, (Instr.fieldAt 40 (.pointer (some ⟨b, o, none⟩)) 0).run Tryz.prog w = .ok (.pointer (some ⟨b, o + 0, none⟩)) w := fieldAt_run Tryz.runUnderlying40 rfl Tryz.sizeOf3 rfl rfl
theorem fld_40_1 : ∀ b o w, (Instr.fieldAt 40 (.pointer (some ⟨b, o, none⟩)) 1).run Tryz.prog w = .ok (.pointer (some ⟨b, o + 1, none⟩)) w := fieldAt_run Tryz.runUnderlying40 rfl Tryz.sizeOf3 rfl rfl
theorem fld_42_0 : ∀ b o w, (Instr.fieldAt 42 (.pointer (some ⟨b, o, none⟩)) 0).run Tryz.prog w = .ok (.pointer (some ⟨b, o + 0, none⟩)) w := fieldAt_run Tryz.runUnderlying42 rfl Tryz.sizeOf3 rfl rfl
theorem fld_42_1 : ∀ b o w, (Instr.fieldAt 42 (.pointer (some ⟨b, o, none⟩)) 1).run Tryz.prog w = .ok (.pointer (some ⟨b, o + 1, none⟩)) w := fieldAt_run Tryz.runUnderlying42 rfl Tryz.sizeOf38 rfl rfl
theorem fld_42_2 : ∀ b o w, (Instr.fieldAt 42 (.pointer (some ⟨b, o, none⟩)) 2).run Tryz.prog w = .ok (.pointer (some ⟨b, o + 2, none⟩)) w := fieldAt_run Tryz.runUnderlying42 rfl Tryz.sizeOf40 rfl rfl
theorem fld_42_3 : ∀ b o w, (Instr.fieldAt 42 (.pointer (some ⟨b, o, none⟩)) 3).run Tryz.prog w = .ok (.pointer (some ⟨b, o + 4, none⟩)) w := fieldAt_run Tryz.runUnderlying42 rfl Tryz.sizeOf40 rfl rfl
theorem fld_45_0 : ∀ b o w, (Instr.fieldAt 45 (.pointer (some ⟨b, o, none⟩)) 0).run Tryz.prog w = .ok (.pointer (some ⟨b, o + 0, none⟩)) w := fieldAt_run Tryz.runUnderlying45 rfl Tryz.sizeOf3 rfl rfl
theorem fld_45_1 : ∀ b o w, (Instr.fieldAt 45 (.pointer (some ⟨b, o, none⟩)) 1).run Tryz.prog w = .ok (.pointer (some ⟨b, o + 1, none⟩)) w := fieldAt_run Tryz.runUnderlying45 rfl Tryz.sizeOf3 rfl rfl
theorem fld_47_0 : ∀ b o w, (Instr.fieldAt 47 (.pointer (some ⟨b, o, none⟩)) 0).run Tryz.prog w = .ok (.pointer (some ⟨b, o + 0, none⟩)) w := fieldAt_run Tryz.runUnderlying47 rfl Tryz.sizeOf3 rfl rfl
theorem fld_47_1 : ∀ b o w, (Instr.fieldAt 47 (.pointer (some ⟨b, o, none⟩)) 1).run Tryz.prog w = .ok (.pointer (some ⟨b, o + 1, none⟩)) w := fieldAt_run Tryz.runUnderlying47 rfl Tryz.sizeOf45 rfl rfl
theorem fld_47_2 : ∀ b o w, (Instr.fieldAt 47 (.pointer (some ⟨b, o, none⟩)) 2).run Tryz.prog w = .ok (.pointer (some ⟨b, o + 3, none⟩)) w := fieldAt_run Tryz.runUnderlying47 rfl Tryz.sizeOf45 rfl rfl
theorem fld_51_0 : ∀ b o w, (Instr.fieldAt 51 (.pointer (some ⟨b, o, none⟩)) 0).run Tryz.prog w = .ok (.pointer (some ⟨b, o + 0, none⟩)) w := fieldAt_run Tryz.runUnderlying51 rfl Tryz.sizeOf3 rfl rfl
theorem fld_51_1 : ∀ b o w, (Instr.fieldAt 51 (.pointer (some ⟨b, o, none⟩)) 1).run Tryz.prog w = .ok (.pointer (some ⟨b, o + 1, none⟩)) w := fieldAt_run Tryz.runUnderlying51 rfl Tryz.sizeOf3 rfl rfl
theorem fld_51_2 : ∀ b o w, (Instr.fieldAt 51 (.pointer (some ⟨b, o, none⟩)) 2).run Tryz.prog w = .ok (.pointer (some ⟨b, o + 2, none⟩)) w := fieldAt_run Tryz.runUnderlying51 rfl Tryz.sizeOf45 rfl rfl
theorem fld_51_3 : ∀ b o w, (Instr.fieldAt 51 (.pointer (some ⟨b, o, none⟩)) 3).run Tryz.prog w = .ok (.pointer (some ⟨b, o + 4, none⟩)) w := fieldAt_run Tryz.runUnderlying51 rfl Tryz.sizeOf45 rfl rfl
theorem fld_51_4 : ∀ b o w, (Instr.fieldAt 51 (.pointer (some ⟨b, o, none⟩)) 4).run Tryz.prog w = .ok (.pointer (some ⟨b, o + 6, none⟩)) w := fieldAt_run Tryz.runUnderlying51 rfl Tryz.sizeOf4 rfl rfl
theorem fld_51_5 : ∀ b o w, (Instr.fieldAt 51 (.pointer (some ⟨b, o, none⟩)) 5).run Tryz.prog w = .ok (.pointer (some ⟨b, o + 7, none⟩)) w := fieldAt_run Tryz.runUnderlying51 rfl Tryz.sizeOf48 rfl rfl
theorem fld_51_6 : ∀ b o w, (Instr.fieldAt 51 (.pointer (some ⟨b, o, none⟩)) 6).run Tryz.prog w = .ok (.pointer (some ⟨b, o + 8, none⟩)) w := fieldAt_run Tryz.runUnderlying51 rfl Tryz.sizeOf49 rfl rfl
theorem fld_51_7 : ∀ b o w, (Instr.fieldAt 51 (.pointer (some ⟨b, o, none⟩)) 7).run Tryz.prog w = .ok (.pointer (some ⟨b, o + 9, none⟩)) w := fieldAt_run Tryz.runUnderlying51 rfl Tryz.sizeOf3 rfl rfl
theorem fld_51_8 : ∀ b o w, (Instr.fieldAt 51 (.pointer (some ⟨b, o, none⟩)) 8).run Tryz.prog w = .ok (.pointer (some ⟨b, o + 10, none⟩)) w := fieldAt_run Tryz.runUnderlying51 rfl Tryz.sizeOf3 rfl rfl
theorem fld_51_9 : ∀ b o w, (Instr.fieldAt 51 (.pointer (some ⟨b, o, none⟩)) 9).run Tryz.prog w = .ok (.pointer (some ⟨b, o + 11, none⟩)) w := fieldAt_run Tryz.runUnderlying51 rfl Tryz.sizeOf3 rfl rfl
theorem fld_51_10 : ∀ b o w, (Instr.fieldAt 51 (.pointer (some ⟨b, o, none⟩)) 10).run Tryz.prog w = .ok (.pointer (some ⟨b, o + 12, none⟩)) w := fieldAt_run Tryz.runUnderlying51 rfl Tryz.sizeOf3 rfl rfl
theorem fld_57_0 : ∀ b o w, (Instr.fieldAt 57 (.pointer (some ⟨b, o, none⟩)) 0).run Tryz.prog w = .ok (.pointer (some ⟨b, o + 0, none⟩)) w := fieldAt_run Tryz.runUnderlying57 rfl Tryz.sizeOf3 rfl rfl
theorem fld_57_1 : ∀ b o w, (Instr.fieldAt 57 (.pointer (some ⟨b, o, none⟩)) 1).run Tryz.prog w = .ok (.pointer (some ⟨b, o + 1, none⟩)) w := fieldAt_run Tryz.runUnderlying57 rfl Tryz.sizeOf3 rfl rfl
theorem fld_57_2 : ∀ b o w, (Instr.fieldAt 57 (.pointer (some ⟨b, o, none⟩)) 2).run Tryz.prog w = .ok (.pointer (some ⟨b, o + 2, none⟩)) w := fieldAt_run Tryz.runUnderlying57 rfl Tryz.sizeOf3 rfl rfl
theorem fld_57_3 : ∀ b o w, (Instr.fieldAt 57 (.pointer (some ⟨b, o, none⟩)) 3).run Tryz.prog w = .ok (.pointer (some ⟨b, o + 3, none⟩)) w := fieldAt_run Tryz.runUnderlying57 rfl Tryz.sizeOf55 rfl rfl
theorem fld_57_4 : ∀ b o w, (Instr.fieldAt 57 (.pointer (some ⟨b, o, none⟩)) 4).run Tryz.prog w = .ok (.pointer (some ⟨b, o + 4, none⟩)) w := fieldAt_run Tryz.runUnderlying57 rfl Tryz.sizeOf55 rfl rfl
theorem fld_59_0 : ∀ b o w, (Instr.fieldAt 59 (.pointer (some ⟨b, o, none⟩)) 0).run Tryz.prog w = .ok (.pointer (some ⟨b, o + 0, none⟩)) w := fieldAt_run Tryz.runUnderlying59 rfl Tryz.sizeOf3 rfl rfl
theorem fld_59_1 : ∀ b o w, (Instr.fieldAt 59 (.pointer (some ⟨b, o, none⟩)) 1).run Tryz.prog w = .ok (.pointer (some ⟨b, o + 1, none⟩)) w := fieldAt_run Tryz.runUnderlying59 rfl Tryz.sizeOf3 rfl rfl
theorem fld_59_2 : ∀ b o w, (Instr.fieldAt 59 (.pointer (some ⟨b, o, none⟩)) 2).run Tryz.prog w = .ok (.pointer (some ⟨b, o + 2, none⟩)) w := fieldAt_run Tryz.runUnderlying59 rfl Tryz.sizeOf3 rfl rfl
theorem fld_59_3 : ∀ b o w, (Instr.fieldAt 59 (.pointer (some ⟨b, o, none⟩)) 3).run Tryz.prog w = .ok (.pointer (some ⟨b, o + 3, none⟩)) w := fieldAt_run Tryz.runUnderlying59 rfl Tryz.sizeOf3 rfl rfl
theorem fld_59_4 : ∀ b o w, (Instr.fieldAt 59 (.pointer (some ⟨b, o, none⟩)) 4).run Tryz.prog w = .ok (.pointer (some ⟨b, o + 4, none⟩)) w := fieldAt_run Tryz.runUnderlying59 rfl Tryz.sizeOf3 rfl rfl
theorem fld_59_5 : ∀ b o w, (Instr.fieldAt 59 (.pointer (some ⟨b, o, none⟩)) 5).run Tryz.prog w = .ok (.pointer (some ⟨b, o + 5, none⟩)) w := fieldAt_run Tryz.runUnderlying59 rfl Tryz.sizeOf3 rfl rfl
theorem fld_63_0 : ∀ b o w, (Instr.fieldAt 63 (.pointer (some ⟨b, o, none⟩)) 0).run Tryz.prog w = .ok (.pointer (some ⟨b, o + 0, none⟩)) w := fieldAt_run Tryz.runUnderlying63 rfl Tryz.sizeOf60 rfl rfl
theorem fld_63_1 : ∀ b o w, (Instr.fieldAt 63 (.pointer (some ⟨b, o, none⟩)) 1).run Tryz.prog w = .ok (.pointer (some ⟨b, o + 1, none⟩)) w := fieldAt_run Tryz.runUnderlying63 rfl Tryz.sizeOf61 rfl rfl
theorem fld_63_2 : ∀ b o w, (Instr.fieldAt 63 (.pointer (some ⟨b, o, none⟩)) 2).run Tryz.prog w = .ok (.pointer (some ⟨b, o + 2, none⟩)) w := fieldAt_run Tryz.runUnderlying63 rfl Tryz.sizeOf55 rfl rfl
theorem fld_63_3 : ∀ b o w, (Instr.fieldAt 63 (.pointer (some ⟨b, o, none⟩)) 3).run Tryz.prog w = .ok (.pointer (some ⟨b, o + 3, none⟩)) w := fieldAt_run Tryz.runUnderlying63 rfl Tryz.sizeOf55 rfl rfl
theorem fld_63_4 : ∀ b o w, (Instr.fieldAt 63 (.pointer (some ⟨b, o, none⟩)) 4).run Tryz.prog w = .ok (.pointer (some ⟨b, o + 4, none⟩)) w := fieldAt_run Tryz.runUnderlying63 rfl Tryz.sizeOf3 rfl rfl
theorem fld_63_5 : ∀ b o w, (Instr.fieldAt 63 (.pointer (some ⟨b, o, none⟩)) 5).run Tryz.prog w = .ok (.pointer (some ⟨b, o + 5, none⟩)) w := fieldAt_run Tryz.runUnderlying63 rfl Tryz.sizeOf55 rfl rfl
theorem fld_63_6 : ∀ b o w, (Instr.fieldAt 63 (.pointer (some ⟨b, o, none⟩)) 6).run Tryz.prog w = .ok (.pointer (some ⟨b, o + 6, none⟩)) w := fieldAt_run Tryz.runUnderlying63 rfl Tryz.sizeOf3 rfl rfl
theorem fld_68_0 : ∀ b o w, (Instr.fieldAt 68 (.pointer (some ⟨b, o, none⟩)) 0).run Tryz.prog w = .ok (.pointer (some ⟨b, o + 0, none⟩)) w := fieldAt_run Tryz.runUnderlying68 rfl Tryz.sizeOf3 rfl rfl
theorem fld_68_1 : ∀ b o w, (Instr.fieldAt 68 (.pointer (some ⟨b, o, none⟩)) 1).run Tryz.prog w = .ok (.pointer (some ⟨b, o + 1, none⟩)) w := fieldAt_run Tryz.runUnderlying68 rfl Tryz.sizeOf3 rfl rfl
theorem fld_68_2 : ∀ b o w, (Instr.fieldAt 68 (.pointer (some ⟨b, o, none⟩)) 2).run Tryz.prog w = .ok (.pointer (some ⟨b, o + 2, none⟩)) w := fieldAt_run Tryz.runUnderlying68 rfl Tryz.sizeOf66 rfl rfl
theorem fld_68_3 : ∀ b o w, (Instr.fieldAt 68 (.pointer (some ⟨b, o, none⟩)) 3).run Tryz.prog w = .ok (.pointer (some ⟨b, o + 3, none⟩)) w := fieldAt_run Tryz.runUnderlying68 rfl Tryz.sizeOf3 rfl rfl
theorem fld_72_0 : ∀ b o w, (Instr.fieldAt 72 (.pointer (some ⟨b, o, none⟩)) 0).run Tryz.prog w = .ok (.pointer (some ⟨b, o + 0, none⟩)) w := fieldAt_run Tryz.runUnderlying72 rfl Tryz.sizeOf3 rfl rfl
theorem fld_72_1 : ∀ b o w, (Instr.fieldAt 72 (.pointer (some ⟨b, o, none⟩)) 1).run Tryz.prog w = .ok (.pointer (some ⟨b, o + 1, none⟩)) w := fieldAt_run Tryz.runUnderlying72 rfl Tryz.sizeOf3 rfl rfl
theorem fld_72_2 : ∀ b o w, (Instr.fieldAt 72 (.pointer (some ⟨b, o, none⟩)) 2).run Tryz.prog w = .ok (.pointer (some ⟨b, o + 2, none⟩)) w := fieldAt_run Tryz.runUnderlying72 rfl Tryz.sizeOf3 rfl rfl
theorem fld_72_3 : ∀ b o w, (Instr.fieldAt 72 (.pointer (some ⟨b, o, none⟩)) 3).run Tryz.prog w = .ok (.pointer (some ⟨b, o + 3, none⟩)) w := fieldAt_run Tryz.runUnderlying72 rfl Tryz.sizeOf3 rfl rfl
theorem fld_72_4 : ∀ b o w, (Instr.fieldAt 72 (.pointer (some ⟨b, o, none⟩)) 4).run Tryz.prog w = .ok (.pointer (some ⟨b, o + 4, none⟩)) w := fieldAt_run Tryz.runUnderlying72 rfl Tryz.sizeOf70 rfl rfl
theorem fld_92_0 : ∀ b o w, (Instr.fieldAt 92 (.pointer (some ⟨b, o, none⟩)) 0).run Tryz.prog w = .ok (.pointer (some ⟨b, o + 0, none⟩)) w := fieldAt_run Tryz.runUnderlying92 rfl Tryz.sizeOf68 rfl rfl
theorem fld_113_0 : ∀ b o w, (Instr.fieldAt 113 (.pointer (some ⟨b, o, none⟩)) 0).run Tryz.prog w = .ok (.pointer (some ⟨b, o + 0, none⟩)) w := fieldAt_run Tryz.runUnderlying113 rfl Tryz.sizeOf25 rfl rfl
theorem fld_113_1 : ∀ b o w, (Instr.fieldAt 113 (.pointer (some ⟨b, o, none⟩)) 1).run Tryz.prog w = .ok (.pointer (some ⟨b, o + 2, none⟩)) w := fieldAt_run Tryz.runUnderlying113 rfl Tryz.sizeOf25 rfl rfl
theorem fld_135_0 : ∀ b o w, (Instr.fieldAt 135 (.pointer (some ⟨b, o, none⟩)) 0).run Tryz.prog w = .ok (.pointer (some ⟨b, o + 0, none⟩)) w := fieldAt_run Tryz.runUnderlying135 rfl Tryz.sizeOf3 rfl rfl
theorem fld_135_1 : ∀ b o w, (Instr.fieldAt 135 (.pointer (some ⟨b, o, none⟩)) 1).run Tryz.prog w = .ok (.pointer (some ⟨b, o + 1, none⟩)) w := fieldAt_run Tryz.runUnderlying135 rfl Tryz.sizeOf3 rfl rfl
theorem fld_135_2 : ∀ b o w, (Instr.fieldAt 135 (.pointer (some ⟨b, o, none⟩)) 2).run Tryz.prog w = .ok (.pointer (some ⟨b, o + 2, none⟩)) w := fieldAt_run Tryz.runUnderlying135 rfl Tryz.sizeOf40 rfl rfl
theorem fld_135_3 : ∀ b o w, (Instr.fieldAt 135 (.pointer (some ⟨b, o, none⟩)) 3).run Tryz.prog w = .ok (.pointer (some ⟨b, o + 4, none⟩)) w := fieldAt_run Tryz.runUnderlying135 rfl Tryz.sizeOf3 rfl rfl
theorem fld_135_4 : ∀ b o w, (Instr.fieldAt 135 (.pointer (some ⟨b, o, none⟩)) 4).run Tryz.prog w = .ok (.pointer (some ⟨b, o + 5, none⟩)) w := fieldAt_run Tryz.runUnderlying135 rfl Tryz.sizeOf3 rfl rfl
theorem fld_143_0 : ∀ b o w, (Instr.fieldAt 143 (.pointer (some ⟨b, o, none⟩)) 0).run Tryz.prog w = .ok (.pointer (some ⟨b, o + 0, none⟩)) w := fieldAt_run Tryz.runUnderlying143 rfl Tryz.sizeOf3 rfl rfl
theorem fld_143_1 : ∀ b o w, (Instr.fieldAt 143 (.pointer (some ⟨b, o, none⟩)) 1).run Tryz.prog w = .ok (.pointer (some ⟨b, o + 1, none⟩)) w := fieldAt_run Tryz.runUnderlying143 rfl Tryz.sizeOf3 rfl rfl
theorem fld_143_2 : ∀ b o w, (Instr.fieldAt 143 (.pointer (some ⟨b, o, none⟩)) 2).run Tryz.prog w = .ok (.pointer (some ⟨b, o + 2, none⟩)) w := fieldAt_run Tryz.runUnderlying143 rfl Tryz.sizeOf3 rfl rfl
theorem fld_155_0 : ∀ b o w, (Instr.fieldAt 155 (.pointer (some ⟨b, o, none⟩)) 0).run Tryz.prog w = .ok (.pointer (some ⟨b, o + 0, none⟩)) w := fieldAt_run Tryz.runUnderlying155 rfl Tryz.sizeOf3 rfl rfl
theorem fld_155_1 : ∀ b o w, (Instr.fieldAt 155 (.pointer (some ⟨b, o, none⟩)) 1).run Tryz.prog w = .ok (.pointer (some ⟨b, o + 1, none⟩)) w := fieldAt_run Tryz.runUnderlying155 rfl Tryz.sizeOf3 rfl rfl
theorem fld_155_2 : ∀ b o w, (Instr.fieldAt 155 (.pointer (some ⟨b, o, none⟩)) 2).run Tryz.prog w = .ok (.pointer (some ⟨b, o + 2, none⟩)) w := fieldAt_run Tryz.runUnderlying155 rfl Tryz.sizeOf3 rfl rfl
theorem fld_155_3 : ∀ b o w, (Instr.fieldAt 155 (.pointer (some ⟨b, o, none⟩)) 3).run Tryz.prog w = .ok (.pointer (some ⟨b, o + 3, none⟩)) w := fieldAt_run Tryz.runUnderlying155 rfl Tryz.sizeOf3 rfl rfl
theorem fld_155_4 : ∀ b o w, (Instr.fieldAt 155 (.pointer (some ⟨b, o, none⟩)) 4).run Tryz.prog w = .ok (.pointer (some ⟨b, o + 4, none⟩)) w := fieldAt_run Tryz.runUnderlying155 rfl Tryz.sizeOf3 rfl rfl
theorem fld_155_5 : ∀ b o w, (Instr.fieldAt 155 (.pointer (some ⟨b, o, none⟩)) 5).run Tryz.prog w = .ok (.pointer (some ⟨b, o + 5, none⟩)) w := fieldAt_run Tryz.runUnderlying155 rfl Tryz.sizeOf3 rfl rfl
theorem fld_178_0 : ∀ b o w, (Instr.fieldAt 178 (.pointer (some ⟨b, o, none⟩)) 0).run Tryz.prog w = .ok (.pointer (some ⟨b, o + 0, none⟩)) w := fieldAt_run Tryz.runUnderlying178 rfl Tryz.sizeOf3 rfl rfl
theorem fld_178_1 : ∀ b o w, (Instr.fieldAt 178 (.pointer (some ⟨b, o, none⟩)) 1).run Tryz.prog w = .ok (.pointer (some ⟨b, o + 1, none⟩)) w := fieldAt_run Tryz.runUnderlying178 rfl Tryz.sizeOf3 rfl rfl
theorem fld_204_0 : ∀ b o w, (Instr.fieldAt 204 (.pointer (some ⟨b, o, none⟩)) 0).run Tryz.prog w = .ok (.pointer (some ⟨b, o + 0, none⟩)) w := fieldAt_run Tryz.runUnderlying204 rfl Tryz.sizeOf45 rfl rfl
theorem fld_204_1 : ∀ b o w, (Instr.fieldAt 204 (.pointer (some ⟨b, o, none⟩)) 1).run Tryz.prog w = .ok (.pointer (some ⟨b, o + 2, none⟩)) w := fieldAt_run Tryz.runUnderlying204 rfl Tryz.sizeOf45 rfl rfl
theorem fldr_25 {k off : Nat} (h : fldT25 k = some off) : ∀ b o w, (Instr.fieldAt 25 (.pointer (some ⟨b, o, none⟩)) k).run Tryz.prog w = .ok (.pointer (some ⟨b, o + off, none⟩)) w := by
  unfold fldT25 at h
  split at h <;> (try cases h)
  · exact fld_25_0
  · exact fld_25_1

theorem fldr_27 {k off : Nat} (h : fldT27 k = some off) : ∀ b o w, (Instr.fieldAt 27 (.pointer (some ⟨b, o, none⟩)) k).run Tryz.prog w = .ok (.pointer (some ⟨b, o + off, none⟩)) w := by
  unfold fldT27 at h
  split at h <;> (try cases h)
  · exact fld_27_0
  · exact fld_27_1
  · exact fld_27_2
  · exact fld_27_3
  · exact fld_27_4

theorem fldr_31 {k off : Nat} (h : fldT31 k = some off) : ∀ b o w, (Instr.fieldAt 31 (.pointer (some ⟨b, o, none⟩)) k).run Tryz.prog w = .ok (.pointer (some ⟨b, o + off, none⟩)) w := by
  unfold fldT31 at h
  split at h <;> (try cases h)
  · exact fld_31_0
  · exact fld_31_1
  · exact fld_31_2
  · exact fld_31_3

theorem fldr_40 {k off : Nat} (h : fldT40 k = some off) : ∀ b o w, (Instr.fieldAt 40 (.pointer (some ⟨b, o, none⟩)) k).run Tryz.prog w = .ok (.pointer (some ⟨b, o + off, none⟩)) w := by
  unfold fldT40 at h
  split at h <;> (try cases h)
  · exact fld_40_0
  · exact fld_40_1

theorem fldr_42 {k off : Nat} (h : fldT42 k = some off) : ∀ b o w, (Instr.fieldAt 42 (.pointer (some ⟨b, o, none⟩)) k).run Tryz.prog w = .ok (.pointer (some ⟨b, o + off, none⟩)) w := by
  unfold fldT42 at h
  split at h <;> (try cases h)
  · exact fld_42_0
  · exact fld_42_1
  · exact fld_42_2
  · exact fld_42_3

theorem fldr_45 {k off : Nat} (h : fldT45 k = some off) : ∀ b o w, (Instr.fieldAt 45 (.pointer (some ⟨b, o, none⟩)) k).run Tryz.prog w = .ok (.pointer (some ⟨b, o + off, none⟩)) w := by
  unfold fldT45 at h
  split at h <;> (try cases h)
  · exact fld_45_0
  · exact fld_45_1

theorem fldr_47 {k off : Nat} (h : fldT47 k = some off) : ∀ b o w, (Instr.fieldAt 47 (.pointer (some ⟨b, o, none⟩)) k).run Tryz.prog w = .ok (.pointer (some ⟨b, o + off, none⟩)) w := by
  unfold fldT47 at h
  split at h <;> (try cases h)
  · exact fld_47_0
  · exact fld_47_1
  · exact fld_47_2

theorem fldr_51 {k off : Nat} (h : fldT51 k = some off) : ∀ b o w, (Instr.fieldAt 51 (.pointer (some ⟨b, o, none⟩)) k).run Tryz.prog w = .ok (.pointer (some ⟨b, o + off, none⟩)) w := by
  unfold fldT51 at h
  split at h <;> (try cases h)
  · exact fld_51_0
  · exact fld_51_1
  · exact fld_51_2
  · exact fld_51_3
  · exact fld_51_4
  · exact fld_51_5
  · exact fld_51_6
  · exact fld_51_7
  · exact fld_51_8
  · exact fld_51_9
  · exact fld_51_10

theorem fldr_57 {k off : Nat} (h : fldT57 k = some off) : ∀ b o w, (Instr.fieldAt 57 (.pointer (some ⟨b, o, none⟩)) k).run Tryz.prog w = .ok (.pointer (some ⟨b, o + off, none⟩)) w := by
  unfold fldT57 at h
  split at h <;> (try cases h)
  · exact fld_57_0
  · exact fld_57_1
  · exact fld_57_2
  · exact fld_57_3
  · exact fld_57_4

theorem fldr_59 {k off : Nat} (h : fldT59 k = some off) : ∀ b o w, (Instr.fieldAt 59 (.pointer (some ⟨b, o, none⟩)) k).run Tryz.prog w = .ok (.pointer (some ⟨b, o + off, none⟩)) w := by
  unfold fldT59 at h
  split at h <;> (try cases h)
  · exact fld_59_0
  · exact fld_59_1
  · exact fld_59_2
  · exact fld_59_3
  · exact fld_59_4
  · exact fld_59_5

theorem fldr_63 {k off : Nat} (h : fldT63 k = some off) : ∀ b o w, (Instr.fieldAt 63 (.pointer (some ⟨b, o, none⟩)) k).run Tryz.prog w = .ok (.pointer (some ⟨b, o + off, none⟩)) w := by
  unfold fldT63 at h
  split at h <;> (try cases h)
  · exact fld_63_0
  · exact fld_63_1
  · exact fld_63_2
  · exact fld_63_3
  · exact fld_63_4
  · exact fld_63_5
  · exact fld_63_6

theorem fldr_68 {k off : Nat} (h : fldT68 k = some off) : ∀ b o w, (Instr.fieldAt 68 (.pointer (some ⟨b, o, none⟩)) k).run Tryz.prog w = .ok (.pointer (some ⟨b, o + off, none⟩)) w := by
  unfold fldT68 at h
  split at h <;> (try cases h)
  · exact fld_68_0
  · exact fld_68_1
  · exact fld_68_2
  · exact fld_68_3

theorem fldr_72 {k off : Nat} (h : fldT72 k = some off) : ∀ b o w, (Instr.fieldAt 72 (.pointer (some ⟨b, o, none⟩)) k).run Tryz.prog w = .ok (.pointer (some ⟨b, o + off, none⟩)) w := by
  unfold fldT72 at h
  split at h <;> (try cases h)
  · exact fld_72_0
  · exact fld_72_1
  · exact fld_72_2
  · exact fld_72_3
  · exact fld_72_4

theorem fldr_92 {k off : Nat} (h : fldT92 k = some off) : ∀ b o w, (Instr.fieldAt 92 (.pointer (some ⟨b, o, none⟩)) k).run Tryz.prog w = .ok (.pointer (some ⟨b, o + off, none⟩)) w := by
  unfold fldT92 at h
  split at h <;> (try cases h)
  · exact fld_92_0

theorem fldr_113 {k off : Nat} (h : fldT113 k = some off) : ∀ b o w, (Instr.fieldAt 113 (.pointer (some ⟨b, o, none⟩)) k).run Tryz.prog w = .ok (.pointer (some ⟨b, o + off, none⟩)) w := by
  unfold fldT113 at h
  split at h <;> (try cases h)
  · exact fld_113_0
  · exact fld_113_1

theorem fldr_135 {k off : Nat} (h : fldT135 k = some off) : ∀ b o w, (Instr.fieldAt 135 (.pointer (some ⟨b, o, none⟩)) k).run Tryz.prog w = .ok (.pointer (some ⟨b, o + off, none⟩)) w := by
  unfold fldT135 at h
  split at h <;> (try cases h)
  · exact fld_135_0
  · exact fld_135_1
  · exact fld_135_2
  · exact fld_135_3
  · exact fld_135_4

theorem fldr_143 {k off : Nat} (h : fldT143 k = some off) : ∀ b o w, (Instr.fieldAt 143 (.pointer (some ⟨b, o, none⟩)) k).run Tryz.prog w = .ok (.pointer (some ⟨b, o + off, none⟩)) w := by
  unfold fldT143 at h
  split at h <;> (try cases h)
  · exact fld_143_0
  · exact fld_143_1
  · exact fld_143_2

theorem fldr_155 {k off : Nat} (h : fldT155 k = some off) : ∀ b o w, (Instr.fieldAt 155 (.pointer (some ⟨b, o, none⟩)) k).run Tryz.prog w = .ok (.pointer (some ⟨b, o + off, none⟩)) w := by
  unfold fldT155 at h
  split at h <;> (try cases h)
  · exact fld_155_0
  · exact fld_155_1
  · exact fld_155_2
  · exact fld_155_3
  · exact fld_155_4
  · exact fld_155_5

theorem fldr_178 {k off : Nat} (h : fldT178 k = some off) : ∀ b o w, (Instr.fieldAt 178 (.pointer (some ⟨b, o, none⟩)) k).run Tryz.prog w = .ok (.pointer (some ⟨b, o + off, none⟩)) w := by
  unfold fldT178 at h
  split at h <;> (try cases h)
  · exact fld_178_0
  · exact fld_178_1

theorem fldr_204 {k off : Nat} (h : fldT204 k = some off) : ∀ b o w, (Instr.fieldAt 204 (.pointer (some ⟨b, o, none⟩)) k).run Tryz.prog w = .ok (.pointer (some ⟨b, o + off, none⟩)) w := by
  unfold fldT204 at h
  split at h <;> (try cases h)
  · exact fld_204_0
  · exact fld_204_1

set_option maxHeartbeats 2000000 in
theorem fld_run {s k off : Nat} (h : fldT s k = some off) : ∀ b o w, (Instr.fieldAt s (.pointer (some ⟨b, o, none⟩)) k).run Tryz.prog w = .ok (.pointer (some ⟨b, o + off, none⟩)) w := by
  unfold fldT at h
  split at h
  · exact fldr_25 h
  · exact fldr_27 h
  · exact fldr_31 h
  · exact fldr_40 h
  · exact fldr_42 h
  · exact fldr_45 h
  · exact fldr_47 h
  · exact fldr_51 h
  · exact fldr_57 h
  · exact fldr_59 h
  · exact fldr_63 h
  · exact fldr_68 h
  · exact fldr_72 h
  · exact fldr_92 h
  · exact fldr_113 h
  · exact fldr_135 h
  · exact fldr_143 h
  · exact fldr_155 h
  · exact fldr_178 h
  · exact fldr_204 h
  · cases h

theorem sl_22 : SlFact Tryz.prog 22 42 6 64 [.int .i64 0, .slice none 0 0, .int .i64 0, .int .i64 0, .int .i64 0, .int .i64 0] := SlFact.mk' (z := .agg #[.int .i64 0, .slice none 0 0, .int .i64 0, .int .i64 0, .int .i64 0, .int .i64 0]) Tryz.underlying22 (by kernel_rfl) rfl rfl (by decide)
theorem sl_23 : SlFact Tryz.prog 23 72 5 56 [.int .i64 0, .int .i64 0, .int .i64 0, .int .i64 0, .slice none 0 0] := SlFact.mk' (z := .agg #[.int .i64 0, .int .i64 0, .int .i64 0, .int .i64 0, .slice none 0 0]) Tryz.underlying23 (by kernel_rfl) rfl rfl (by decide)
theorem sl_37 : SlFact Tryz.prog 37 25 2 16 [.int .i64 0, .int .i64 0] := SlFact.mk' (z := .agg #[.int .i64 0, .int .i64 0]) Tryz.underlying37 (by kernel_rfl) rfl rfl (by decide)
theorem sl_38 : SlFact Tryz.prog 38 25 2 16 [.int .i64 0, .int .i64 0] := SlFact.mk' (z := .agg #[.int .i64 0, .int .i64 0]) Tryz.underlying38 (by kernel_rfl) rfl rfl (by decide)
theorem sl_48 : SlFact Tryz.prog 48 47 5 40 [.int .i64 0, .int .i64 0, .int .i64 0, .int .i64 0, .int .i64 0] := SlFact.mk' (z := .agg #[.int .i64 0, .int .i64 0, .int .i64 0, .int .i64 0, .int .i64 0]) Tryz.underlying48 (by kernel_rfl) rfl rfl (by decide)
theorem sl_49 : SlFact Tryz.prog 49 204 4 32 [.int .i64 0, .int .i64 0, .int .i64 0, .int .i64 0] := SlFact.mk' (z := .agg #[.int .i64 0, .int .i64 0, .int .i64 0, .int .i64 0]) Tryz.underlying49 (by kernel_rfl) rfl rfl (by decide)
theorem sl_52 : SlFact Tryz.prog 52 68 4 48 [.int .i64 0, .int .i64 0, .slice none 0 0, .int .i64 0] := SlFact.mk' (z := .agg #[.int .i64 0, .int .i64 0, .slice none 0 0, .int .i64 0]) Tryz.underlying52 (by kernel_rfl) rfl rfl (by decide)
theorem sl_55 : SlFact Tryz.prog 55 3 1 8 [.int .i64 0] := SlFact.mk' (z := .int .i64 0) Tryz.underlying55 (by kernel_rfl) rfl rfl (by decide)
theorem sl_60 : SlFact Tryz.prog 60 59 6 48 [.int .i64 0, .int .i64 0, .int .i64 0, .int .i64 0, .int .i64 0, .int .i64 0] := SlFact.mk' (z := .agg #[.int .i64 0, .int .i64 0, .int .i64 0, .int .i64 0, .int .i64 0, .int .i64 0]) Tryz.underlying60 (by kernel_rfl) rfl rfl (by decide)
theorem sl_61 : SlFact Tryz.prog 61 135 6 48 [.int .i64 0, .int .i64 0, .int .i64 0, .int .i64 0, .int .i64 0, .int .i64 0] := SlFact.mk' (z := .agg #[.int .i64 0, .int .i64 0, .int .i64 0, .int .i64 0, .int .i64 0, .int .i64 0]) Tryz.underlying61 (by kernel_rfl) rfl rfl (by decide)
theorem sl_64 : SlFact Tryz.prog 64 51 13 136 [.int .i64 0, .int .i64 0, .int .i64 0, .int .i64 0, .int .i64 0, .int .i64 0, .bool false, .slice none 0 0, .slice none 0 0, .int .i64 0, .int .i64 0, .int .i64 0, .int .i64 0] := SlFact.mk' (z := .agg #[.int .i64 0, .int .i64 0, .int .i64 0, .int .i64 0, .int .i64 0, .int .i64 0, .bool false, .slice none 0 0, .slice none 0 0, .int .i64 0, .int .i64 0, .int .i64 0, .int .i64 0]) Tryz.underlying64 (by kernel_rfl) rfl rfl (by decide)
theorem sl_65 : SlFact Tryz.prog 65 31 4 32 [.int .i64 0, .int .i64 0, .int .i64 0, .int .i64 0] := SlFact.mk' (z := .agg #[.int .i64 0, .int .i64 0, .int .i64 0, .int .i64 0]) Tryz.underlying65 (by kernel_rfl) rfl rfl (by decide)
theorem sl_66 : SlFact Tryz.prog 66 143 3 24 [.int .i64 0, .int .i64 0, .int .i64 0] := SlFact.mk' (z := .agg #[.int .i64 0, .int .i64 0, .int .i64 0]) Tryz.underlying66 (by kernel_rfl) rfl rfl (by decide)
theorem sl_70 : SlFact Tryz.prog 70 5 1 1 [.int .u8 0] := SlFact.mk' (z := .int .u8 0) Tryz.underlying70 (by kernel_rfl) rfl rfl (by decide)
theorem sl_87 : SlFact Tryz.prog 87 88 1 8 [.pointer none] := SlFact.mk' (z := .pointer none) Tryz.underlying87 (by kernel_rfl) rfl rfl (by decide)
theorem sl_109 : SlFact Tryz.prog 109 113 4 32 [.int .i64 0, .int .i64 0, .int .i64 0, .int .i64 0] := SlFact.mk' (z := .agg #[.int .i64 0, .int .i64 0, .int .i64 0, .int .i64 0]) Tryz.underlying109 (by kernel_rfl) rfl rfl (by decide)
theorem sl_156 : SlFact Tryz.prog 156 55 1 24 [.slice none 0 0] := SlFact.mk' (z := .slice none 0 0) Tryz.underlying156 (by kernel_rfl) rfl rfl (by decide)
theorem sl_179 : SlFact Tryz.prog 179 40 2 16 [.int .i64 0, .int .i64 0] := SlFact.mk' (z := .agg #[.int .i64 0, .int .i64 0]) Tryz.underlying179 (by kernel_rfl) rfl rfl (by decide)
theorem sl_215 : SlFact Tryz.prog 215 204 4 32 [.int .i64 0, .int .i64 0, .int .i64 0, .int .i64 0] := SlFact.mk' (z := .agg #[.int .i64 0, .int .i64 0, .int .i64 0, .int .i64 0]) Tryz.underlying215 (by kernel_rfl) rfl rfl (by decide)
def slT : Nat → Option (Nat × Nat × Nat × List Value)
  | 22 => some (42, 6, 64, [.int .i64 0, .slice none 0 0, .int .i64 0, .int .i64 0, .int .i64 0, .int .i64 0])
  | 23 => some (72, 5, 56, [.int .i64 0, .int .i64 0, .int .i64 0, .int .i64 0, .slice none 0 0])
  | 37 => some (25, 2, 16, [.int .i64 0, .int .i64 0])
  | 38 => some (25, 2, 16, [.int .i64 0, .int .i64 0])
  | 48 => some (47, 5, 40, [.int .i64 0, .int .i64 0, .int .i64 0, .int .i64 0, .int .i64 0])
  | 49 => some (204, 4, 32, [.int .i64 0, .int .i64 0, .int .i64 0, .int .i64 0])
  | 52 => some (68, 4, 48, [.int .i64 0, .int .i64 0, .slice none 0 0, .int .i64 0])
  | 55 => some (3, 1, 8, [.int .i64 0])
  | 60 => some (59, 6, 48, [.int .i64 0, .int .i64 0, .int .i64 0, .int .i64 0, .int .i64 0, .int .i64 0])
  | 61 => some (135, 6, 48, [.int .i64 0, .int .i64 0, .int .i64 0, .int .i64 0, .int .i64 0, .int .i64 0])
  | 64 => some (51, 13, 136, [.int .i64 0, .int .i64 0, .int .i64 0, .int .i64 0, .int .i64 0, .int .i64 0, .bool false, .slice none 0 0, .slice none 0 0, .int .i64 0, .int .i64 0, .int .i64 0, .int .i64 0])
  | 65 => some (31, 4, 32, [.int .i64 0, .int .i64 0, .int .i64 0, .int .i64 0])
  | 66 => some (143, 3, 24, [.int .i64 0, .int .i64 0, .int .i64 0])
  | 70 => some (5, 1, 1, [.int .u8 0])
  | 87 => some (88, 1, 8, [.pointer none])
  | 109 => some (113, 4, 32, [.int .i64 0, .int .i64 0, .int .i64 0, .int .i64 0])
  | 156 => some (55, 1, 24, [.slice none 0 0])
  | 179 => some (40, 2, 16, [.int .i64 0, .int .i64 0])
  | 215 => some (204, 4, 32, [.int .i64 0, .int .i64 0, .int .i64 0, .int .i64 0])
  | _ => none

theorem sl_run {t el sz bt : Nat} {zs : List Value} (h : slT t = some (el, sz, bt, zs)) : SlFact Tryz.prog t el sz bt zs := by
  unfold slT at h
  split at h <;> (try cases h)
  · exact sl_22
  · exact sl_23
  · exact sl_37
  · exact sl_38
  · exact sl_48
  · exact sl_49
  · exact sl_52
  · exact sl_55
  · exact sl_60
  · exact sl_61
  · exact sl_64
  · exact sl_65
  · exact sl_66
  · exact sl_70
  · exact sl_87
  · exact sl_109
  · exact sl_156
  · exact sl_179
  · exact sl_215

set_option maxHeartbeats 1000000 in
theorem bld_25_0_1 {e : Env} {x0 x1 : Operand} {n0 : Int} {n1 : Int} (h0 : ev e x0 = .int .i64 n0) (h1 : ev e x1 = .int .i64 n1) : ∀ w, (Instr.build 25 #[(0, ev e x0), (1, ev e x1)]).run Tryz.prog w = .ok (.agg #[.int .i64 n0, .int .i64 n1]) w := by
  intro w
  rw [h0, h1]
  simp [Instr.build, go_sem]

set_option maxHeartbeats 1000000 in
theorem bld_27_0_2_3_4 {e : Env} {x0 x1 x2 x3 : Operand} {n0 : Int} {n1 : Int} {v2_0 v2_1 : Value} {n3 : Int} (h0 : ev e x0 = .int .i64 n0) (h1 : ev e x1 = .int .i64 n1) (h2 : ev e x2 = .agg #[v2_0, v2_1]) (h3 : ev e x3 = .int .i64 n3) : ∀ w, (Instr.build 27 #[(0, ev e x0), (2, ev e x1), (3, ev e x2), (4, ev e x3)]).run Tryz.prog w = .ok (.agg #[.int .i64 n0, .int .i64 0, .int .i64 n1, v2_0, v2_1, .int .i64 n3]) w := by
  intro w
  rw [h0, h1, h2, h3]
  simp [Instr.build, go_sem]

set_option maxHeartbeats 1000000 in
theorem bld_31_ {e : Env}   : ∀ w, (Instr.build 31 #[]).run Tryz.prog w = .ok (.agg #[.int .i64 0, .int .i64 0, .int .i64 0, .int .i64 0]) w := by
  intro w
  simp [Instr.build, go_sem]

set_option maxHeartbeats 1000000 in
theorem bld_31_0_1_2_3 {e : Env} {x0 x1 x2 x3 : Operand} {n0 : Int} {n1 : Int} {n2 : Int} {n3 : Int} (h0 : ev e x0 = .int .i64 n0) (h1 : ev e x1 = .int .i64 n1) (h2 : ev e x2 = .int .i64 n2) (h3 : ev e x3 = .int .i64 n3) : ∀ w, (Instr.build 31 #[(0, ev e x0), (1, ev e x1), (2, ev e x2), (3, ev e x3)]).run Tryz.prog w = .ok (.agg #[.int .i64 n0, .int .i64 n1, .int .i64 n2, .int .i64 n3]) w := by
  intro w
  rw [h0, h1, h2, h3]
  simp [Instr.build, go_sem]

set_option maxHeartbeats 1000000 in
theorem bld_40_ {e : Env}   : ∀ w, (Instr.build 40 #[]).run Tryz.prog w = .ok (.agg #[.int .i64 0, .int .i64 0]) w := by
  intro w
  simp [Instr.build, go_sem]

set_option maxHeartbeats 1000000 in
theorem bld_40_0_1 {e : Env} {x0 x1 : Operand} {n0 : Int} {n1 : Int} (h0 : ev e x0 = .int .i64 n0) (h1 : ev e x1 = .int .i64 n1) : ∀ w, (Instr.build 40 #[(0, ev e x0), (1, ev e x1)]).run Tryz.prog w = .ok (.agg #[.int .i64 n0, .int .i64 n1]) w := by
  intro w
  rw [h0, h1]
  simp [Instr.build, go_sem]

set_option maxHeartbeats 1000000 in
theorem bld_40_1 {e : Env} {x0 : Operand} {n0 : Int} (h0 : ev e x0 = .int .i64 n0) : ∀ w, (Instr.build 40 #[(1, ev e x0)]).run Tryz.prog w = .ok (.agg #[.int .i64 0, .int .i64 n0]) w := by
  intro w
  rw [h0]
  simp [Instr.build, go_sem]

set_option maxHeartbeats 1000000 in
theorem bld_42_0_1_2_3 {e : Env} {x0 x1 x2 x3 : Operand} {n0 : Int} {A1 : Option Addr} {l1 c1 : Nat} {v2_0 v2_1 : Value} {v3_0 v3_1 : Value} (h0 : ev e x0 = .int .i64 n0) (h1 : ev e x1 = .slice A1 l1 c1) (h2 : ev e x2 = .agg #[v2_0, v2_1]) (h3 : ev e x3 = .agg #[v3_0, v3_1]) : ∀ w, (Instr.build 42 #[(0, ev e x0), (1, ev e x1), (2, ev e x2), (3, ev e x3)]).run Tryz.prog w = .ok (.agg #[.int .i64 n0, .slice A1 l1 c1, v2_0, v2_1, v3_0, v3_1]) w := by
  intro w
  rw [h0, h1, h2, h3]
  simp [Instr.build, go_sem]

set_option maxHeartbeats 1000000 in
theorem bld_45_ {e : Env}   : ∀ w, (Instr.build 45 #[]).run Tryz.prog w = .ok (.agg #[.int .i64 0, .int .i64 0]) w := by
  intro w
  simp [Instr.build, go_sem]

set_option maxHeartbeats 1000000 in
theorem bld_45_0_1 {e : Env} {x0 x1 : Operand} {n0 : Int} {n1 : Int} (h0 : ev e x0 = .int .i64 n0) (h1 : ev e x1 = .int .i64 n1) : ∀ w, (Instr.build 45 #[(0, ev e x0), (1, ev e x1)]).run Tryz.prog w = .ok (.agg #[.int .i64 n0, .int .i64 n1]) w := by
  intro w
  rw [h0, h1]
  simp [Instr.build, go_sem]

set_option maxHeartbeats 1000000 in
theorem bld_47_2 {e : Env} {x0 : Operand} {v0_0 v0_1 : Value} (h0 : ev e x0 = .agg #[v0_0, v0_1]) : ∀ w, (Instr.build 47 #[(2, ev e x0)]).run Tryz.prog w = .ok (.agg #[.int .i64 0, .int .i64 0, .int .i64 0, v0_0, v0_1]) w := by
  intro w
  rw [h0]
  simp [Instr.build, go_sem]

set_option maxHeartbeats 1000000 in
theorem bld_51_0_1_2_3_5_7_9 {e : Env} {x0 x1 x2 x3 x4 x5 x6 : Operand} {n0 : Int} {n1 : Int} {v2_0 v2_1 : Value} {v3_0 v3_1 : Value} {A4 : Option Addr} {l4 c4 : Nat} {n5 : Int} {n6 : Int} (h0 : ev e x0 = .int .i64 n0) (h1 : ev e x1 = .int .i64 n1) (h2 : ev e x2 = .agg #[v2_0, v2_1]) (h3 : ev e x3 = .agg #[v3_0, v3_1]) (h4 : ev e x4 = .slice A4 l4 c4) (h5 : ev e x5 = .int .i64 n5) (h6 : ev e x6 = .int .i64 n6) : ∀ w, (Instr.build 51 #[(0, ev e x0), (1, ev e x1), (2, ev e x2), (3, ev e x3), (5, ev e x4), (7, ev e x5), (9, ev e x6)]).run Tryz.prog w = .ok (.agg #[.int .i64 n0, .int .i64 n1, v2_0, v2_1, v3_0, v3_1, .bool false, .slice A4 l4 c4, .slice none 0 0, .int .i64 n5, .int .i64 0, .int .i64 n6, .int .i64 0]) w := by
  intro w
  rw [h0, h1, h2, h3, h4, h5, h6]
  simp [Instr.build, go_sem]

set_option maxHeartbeats 1000000 in
theorem bld_57_0_1_2 {e : Env} {x0 x1 x2 : Operand} {n0 : Int} {n1 : Int} {n2 : Int} (h0 : ev e x0 = .int .i64 n0) (h1 : ev e x1 = .int .i64 n1) (h2 : ev e x2 = .int .i64 n2) : ∀ w, (Instr.build 57 #[(0, ev e x0), (1, ev e x1), (2, ev e x2)]).run Tryz.prog w = .ok (.agg #[.int .i64 n0, .int .i64 n1, .int .i64 n2, .slice none 0 0, .slice none 0 0]) w := by
  intro w
  rw [h0, h1, h2]
  simp [Instr.build, go_sem]

set_option maxHeartbeats 1000000 in
theorem bld_59_1_2 {e : Env} {x0 x1 : Operand} {n0 : Int} {n1 : Int} (h0 : ev e x0 = .int .i64 n0) (h1 : ev e x1 = .int .i64 n1) : ∀ w, (Instr.build 59 #[(1, ev e x0), (2, ev e x1)]).run Tryz.prog w = .ok (.agg #[.int .i64 0, .int .i64 n0, .int .i64 n1, .int .i64 0, .int .i64 0, .int .i64 0]) w := by
  intro w
  rw [h0, h1]
  simp [Instr.build, go_sem]

set_option maxHeartbeats 1000000 in
theorem bld_63_0_5 {e : Env} {x0 x1 : Operand} {A0 : Option Addr} {l0 c0 : Nat} {A1 : Option Addr} {l1 c1 : Nat} (h0 : ev e x0 = .slice A0 l0 c0) (h1 : ev e x1 = .slice A1 l1 c1) : ∀ w, (Instr.build 63 #[(0, ev e x0), (5, ev e x1)]).run Tryz.prog w = .ok (.agg #[.slice A0 l0 c0, .slice none 0 0, .slice none 0 0, .slice none 0 0, .int .i64 0, .slice A1 l1 c1, .int .i64 0]) w := by
  intro w
  rw [h0, h1]
  simp [Instr.build, go_sem]

set_option maxHeartbeats 1000000 in
theorem bld_68_0_1 {e : Env} {x0 x1 : Operand} {n0 : Int} {n1 : Int} (h0 : ev e x0 = .int .i64 n0) (h1 : ev e x1 = .int .i64 n1) : ∀ w, (Instr.build 68 #[(0, ev e x0), (1, ev e x1)]).run Tryz.prog w = .ok (.agg #[.int .i64 n0, .int .i64 n1, .slice none 0 0, .int .i64 0]) w := by
  intro w
  rw [h0, h1]
  simp [Instr.build, go_sem]

set_option maxHeartbeats 1000000 in
theorem bld_92_0 {e : Env} {x0 : Operand} {v0_0 v0_1 v0_2 v0_3 : Value} (h0 : ev e x0 = .agg #[v0_0, v0_1, v0_2, v0_3]) : ∀ w, (Instr.build 92 #[(0, ev e x0)]).run Tryz.prog w = .ok (.agg #[v0_0, v0_1, v0_2, v0_3]) w := by
  intro w
  rw [h0]
  simp [Instr.build, go_sem]

set_option maxHeartbeats 1000000 in
theorem bld_113_0_1 {e : Env} {x0 x1 : Operand} {v0_0 v0_1 : Value} {v1_0 v1_1 : Value} (h0 : ev e x0 = .agg #[v0_0, v0_1]) (h1 : ev e x1 = .agg #[v1_0, v1_1]) : ∀ w, (Instr.build 113 #[(0, ev e x0), (1, ev e x1)]).run Tryz.prog w = .ok (.agg #[v0_0, v0_1, v1_0, v1_1]) w := by
  intro w
  rw [h0, h1]
  simp [Instr.build, go_sem]

set_option maxHeartbeats 1000000 in
theorem bld_143_0_1_2 {e : Env} {x0 x1 x2 : Operand} {n0 : Int} {n1 : Int} {n2 : Int} (h0 : ev e x0 = .int .i64 n0) (h1 : ev e x1 = .int .i64 n1) (h2 : ev e x2 = .int .i64 n2) : ∀ w, (Instr.build 143 #[(0, ev e x0), (1, ev e x1), (2, ev e x2)]).run Tryz.prog w = .ok (.agg #[.int .i64 n0, .int .i64 n1, .int .i64 n2]) w := by
  intro w
  rw [h0, h1, h2]
  simp [Instr.build, go_sem]

set_option maxHeartbeats 1000000 in
theorem bld_178_0_1 {e : Env} {x0 x1 : Operand} {n0 : Int} {n1 : Int} (h0 : ev e x0 = .int .i64 n0) (h1 : ev e x1 = .int .i64 n1) : ∀ w, (Instr.build 178 #[(0, ev e x0), (1, ev e x1)]).run Tryz.prog w = .ok (.agg #[.int .i64 n0, .int .i64 n1]) w := by
  intro w
  rw [h0, h1]
  simp [Instr.build, go_sem]

set_option maxHeartbeats 1000000 in
theorem bsl_22_1_0 {e : Env} {x0 : Operand} {v0_0 v0_1 v0_2 v0_3 v0_4 v0_5 : Value} (h0 : ev e x0 = .agg #[v0_0, v0_1, v0_2, v0_3, v0_4, v0_5]) : ∀ w, (Instr.buildSlice 22 1 #[(0, ev e x0)]).run Tryz.prog w = .ok (.slice (some ⟨w.heap.size, 0, none⟩) 1 1) (w.alloc (.cells ([v0_0, v0_1, v0_2, v0_3, v0_4, v0_5] : List Value).toArray 42)) := by
  intro w
  rw [h0]
  simp [Instr.buildSlice, go_sem]

set_option maxHeartbeats 1000000 in
theorem bsl_38_4_0_1_2_3 {e : Env} {x0 x1 x2 x3 : Operand} {v0_0 v0_1 : Value} {v1_0 v1_1 : Value} {v2_0 v2_1 : Value} {v3_0 v3_1 : Value} (h0 : ev e x0 = .agg #[v0_0, v0_1]) (h1 : ev e x1 = .agg #[v1_0, v1_1]) (h2 : ev e x2 = .agg #[v2_0, v2_1]) (h3 : ev e x3 = .agg #[v3_0, v3_1]) : ∀ w, (Instr.buildSlice 38 4 #[(0, ev e x0), (1, ev e x1), (2, ev e x2), (3, ev e x3)]).run Tryz.prog w = .ok (.slice (some ⟨w.heap.size, 0, none⟩) 4 4) (w.alloc (.cells ([v0_0, v0_1, v1_0, v1_1, v2_0, v2_1, v3_0, v3_1] : List Value).toArray 25)) := by
  intro w
  rw [h0, h1, h2, h3]
  simp [Instr.buildSlice, go_sem]

set_option maxHeartbeats 1000000 in
theorem bsl_48_1_0 {e : Env} {x0 : Operand} {v0_0 v0_1 v0_2 v0_3 v0_4 : Value} (h0 : ev e x0 = .agg #[v0_0, v0_1, v0_2, v0_3, v0_4]) : ∀ w, (Instr.buildSlice 48 1 #[(0, ev e x0)]).run Tryz.prog w = .ok (.slice (some ⟨w.heap.size, 0, none⟩) 1 1) (w.alloc (.cells ([v0_0, v0_1, v0_2, v0_3, v0_4] : List Value).toArray 47)) := by
  intro w
  rw [h0]
  simp [Instr.buildSlice, go_sem]

set_option maxHeartbeats 1000000 in
theorem bsl_52_1_0 {e : Env} {x0 : Operand} {v0_0 v0_1 v0_2 v0_3 : Value} (h0 : ev e x0 = .agg #[v0_0, v0_1, v0_2, v0_3]) : ∀ w, (Instr.buildSlice 52 1 #[(0, ev e x0)]).run Tryz.prog w = .ok (.slice (some ⟨w.heap.size, 0, none⟩) 1 1) (w.alloc (.cells ([v0_0, v0_1, v0_2, v0_3] : List Value).toArray 68)) := by
  intro w
  rw [h0]
  simp [Instr.buildSlice, go_sem]

set_option maxHeartbeats 1000000 in
theorem bsl_55_1_0 {e : Env} {x0 : Operand} {n0 : Int} (h0 : ev e x0 = .int .i64 n0) : ∀ w, (Instr.buildSlice 55 1 #[(0, ev e x0)]).run Tryz.prog w = .ok (.slice (some ⟨w.heap.size, 0, none⟩) 1 1) (w.alloc (.cells ([.int .i64 n0] : List Value).toArray 3)) := by
  intro w
  rw [h0]
  simp [Instr.buildSlice, go_sem]

set_option maxHeartbeats 1000000 in
theorem bsl_55_3_0_1_2 {e : Env} {x0 x1 x2 : Operand} {n0 : Int} {n1 : Int} {n2 : Int} (h0 : ev e x0 = .int .i64 n0) (h1 : ev e x1 = .int .i64 n1) (h2 : ev e x2 = .int .i64 n2) : ∀ w, (Instr.buildSlice 55 3 #[(0, ev e x0), (1, ev e x1), (2, ev e x2)]).run Tryz.prog w = .ok (.slice (some ⟨w.heap.size, 0, none⟩) 3 3) (w.alloc (.cells ([.int .i64 n0, .int .i64 n1, .int .i64 n2] : List Value).toArray 3)) := by
  intro w
  rw [h0, h1, h2]
  simp [Instr.buildSlice, go_sem]

set_option maxHeartbeats 1000000 in
theorem bsl_60_1_0 {e : Env} {x0 : Operand} {v0_0 v0_1 v0_2 v0_3 v0_4 v0_5 : Value} (h0 : ev e x0 = .agg #[v0_0, v0_1, v0_2, v0_3, v0_4, v0_5]) : ∀ w, (Instr.buildSlice 60 1 #[(0, ev e x0)]).run Tryz.prog w = .ok (.slice (some ⟨w.heap.size, 0, none⟩) 1 1) (w.alloc (.cells ([v0_0, v0_1, v0_2, v0_3, v0_4, v0_5] : List Value).toArray 59)) := by
  intro w
  rw [h0]
  simp [Instr.buildSlice, go_sem]

set_option maxHeartbeats 1000000 in
theorem bsl_64_1_0 {e : Env} {x0 : Operand} {v0_0 v0_1 v0_2 v0_3 v0_4 v0_5 v0_6 v0_7 v0_8 v0_9 v0_10 v0_11 v0_12 : Value} (h0 : ev e x0 = .agg #[v0_0, v0_1, v0_2, v0_3, v0_4, v0_5, v0_6, v0_7, v0_8, v0_9, v0_10, v0_11, v0_12]) : ∀ w, (Instr.buildSlice 64 1 #[(0, ev e x0)]).run Tryz.prog w = .ok (.slice (some ⟨w.heap.size, 0, none⟩) 1 1) (w.alloc (.cells ([v0_0, v0_1, v0_2, v0_3, v0_4, v0_5, v0_6, v0_7, v0_8, v0_9, v0_10, v0_11, v0_12] : List Value).toArray 51)) := by
  intro w
  rw [h0]
  simp [Instr.buildSlice, go_sem]

set_option maxHeartbeats 1000000 in
theorem bsl_65_1_0 {e : Env} {x0 : Operand} {v0_0 v0_1 v0_2 v0_3 : Value} (h0 : ev e x0 = .agg #[v0_0, v0_1, v0_2, v0_3]) : ∀ w, (Instr.buildSlice 65 1 #[(0, ev e x0)]).run Tryz.prog w = .ok (.slice (some ⟨w.heap.size, 0, none⟩) 1 1) (w.alloc (.cells ([v0_0, v0_1, v0_2, v0_3] : List Value).toArray 31)) := by
  intro w
  rw [h0]
  simp [Instr.buildSlice, go_sem]

set_option maxHeartbeats 1000000 in
theorem bsl_66_1_0 {e : Env} {x0 : Operand} {v0_0 v0_1 v0_2 : Value} (h0 : ev e x0 = .agg #[v0_0, v0_1, v0_2]) : ∀ w, (Instr.buildSlice 66 1 #[(0, ev e x0)]).run Tryz.prog w = .ok (.slice (some ⟨w.heap.size, 0, none⟩) 1 1) (w.alloc (.cells ([v0_0, v0_1, v0_2] : List Value).toArray 143)) := by
  intro w
  rw [h0]
  simp [Instr.buildSlice, go_sem]

set_option maxHeartbeats 1000000 in
theorem bsl_87_1_0 {e : Env} {x0 : Operand} {A0 : Option Addr} (h0 : ev e x0 = .pointer A0) : ∀ w, (Instr.buildSlice 87 1 #[(0, ev e x0)]).run Tryz.prog w = .ok (.slice (some ⟨w.heap.size, 0, none⟩) 1 1) (w.alloc (.cells ([.pointer A0] : List Value).toArray 88)) := by
  intro w
  rw [h0]
  simp [Instr.buildSlice, go_sem]

set_option maxHeartbeats 1000000 in
theorem bsl_109_1_0 {e : Env} {x0 : Operand} {v0_0 v0_1 v0_2 v0_3 : Value} (h0 : ev e x0 = .agg #[v0_0, v0_1, v0_2, v0_3]) : ∀ w, (Instr.buildSlice 109 1 #[(0, ev e x0)]).run Tryz.prog w = .ok (.slice (some ⟨w.heap.size, 0, none⟩) 1 1) (w.alloc (.cells ([v0_0, v0_1, v0_2, v0_3] : List Value).toArray 113)) := by
  intro w
  rw [h0]
  simp [Instr.buildSlice, go_sem]

set_option maxHeartbeats 1000000 in
theorem bsl_156_2_0_1 {e : Env} {x0 x1 : Operand} {A0 : Option Addr} {l0 c0 : Nat} {A1 : Option Addr} {l1 c1 : Nat} (h0 : ev e x0 = .slice A0 l0 c0) (h1 : ev e x1 = .slice A1 l1 c1) : ∀ w, (Instr.buildSlice 156 2 #[(0, ev e x0), (1, ev e x1)]).run Tryz.prog w = .ok (.slice (some ⟨w.heap.size, 0, none⟩) 2 2) (w.alloc (.cells ([.slice A0 l0 c0, .slice A1 l1 c1] : List Value).toArray 55)) := by
  intro w
  rw [h0, h1]
  simp [Instr.buildSlice, go_sem]

set_option maxHeartbeats 1000000 in
theorem bsl_179_1_0 {e : Env} {x0 : Operand} {v0_0 v0_1 : Value} (h0 : ev e x0 = .agg #[v0_0, v0_1]) : ∀ w, (Instr.buildSlice 179 1 #[(0, ev e x0)]).run Tryz.prog w = .ok (.slice (some ⟨w.heap.size, 0, none⟩) 1 1) (w.alloc (.cells ([v0_0, v0_1] : List Value).toArray 40)) := by
  intro w
  rw [h0]
  simp [Instr.buildSlice, go_sem]

def funT : Nat → Bool
  | 3 => true
  | 4 => true
  | 5 => true
  | 6 => true
  | 7 => true
  | 8 => true
  | 9 => true
  | 10 => true
  | 11 => true
  | 12 => true
  | 13 => true
  | 14 => true
  | 15 => true
  | 16 => true
  | 17 => true
  | 18 => true
  | 19 => true
  | 20 => true
  | 21 => true
  | 22 => true
  | 23 => true
  | 24 => true
  | 25 => true
  | 26 => true
  | 27 => true
  | 28 => true
  | 29 => true
  | 30 => true
  | 31 => true
  | 32 => true
  | 33 => true
  | 34 => true
  | 35 => true
  | 36 => true
  | 37 => true
  | 38 => true
  | 39 => true
  | 40 => true
  | 41 => true
  | 42 => true
  | 43 => true
  | 44 => true
  | 45 => true
  | 46 => true
  | 47 => true
  | 48 => true
  | 49 => true
  | 50 => true
  | 51 => true
  | 52 => true
  | 53 => true
  | 54 => true
  | 55 => true
  | 56 => true
  | 57 => true
  | 58 => true
  | 59 => true
  | 60 => true
  | 61 => true
  | 62 => true
  | 63 => true
  | 64 => true
  | 65 => true
  | 66 => true
  | 67 => true
  | 68 => true
  | 69 => true
  | 70 => true
  | 71 => true
  | 72 => true
  | 73 => true
  | 74 => true
  | 75 => true
  | 76 => true
  | 77 => true
  | 78 => true
  | 79 => true
  | 80 => true
  | 81 => true
  | 82 => true
  | 83 => true
  | 84 => true
  | 85 => true
  | 86 => true
  | 87 => true
  | 88 => true
  | 89 => true
  | 90 => true
  | 91 => true
  | 92 => true
  | 93 => true
  | 94 => true
  | 95 => true
  | 96 => true
  | 97 => true
  | 98 => true
  | 99 => true
  | 100 => true
  | 101 => true
  | 102 => true
  | 103 => true
  | 104 => true
  | 105 => true
  | 106 => true
  | 107 => true
  | 108 => true
  | 109 => true
  | 110 => true
  | 111 => true
  | 112 => true
  | 113 => true
  | 114 => true
  | 115 => true
  | 116 => true
  | 117 => true
  | 118 => true
  | 119 => true
  | 120 => true
  | 121 => true
  | 122 => true
  | 123 => true
  | 124 => true
  | 125 => true
  | 126 => true
  | 127 => true
  | 128 => true
  | 129 => true
  | 130 => true
  | 131 => true
  | 137 => true
  | 138 => true
  | 139 => true
  | 140 => true
  | 141 => true
  | 142 => true
  | 143 => true
  | 144 => true
  | 145 => true
  | 146 => true
  | 150 => true
  | 151 => true
  | 153 => true
  | 154 => true
  | 155 => true
  | 156 => true
  | 157 => true
  | 158 => true
  | 159 => true
  | 160 => true
  | 161 => true
  | 162 => true
  | 163 => true
  | 164 => true
  | 165 => true
  | 166 => true
  | 168 => true
  | 172 => true
  | 173 => true
  | 175 => true
  | 176 => true
  | 177 => true
  | 178 => true
  | 179 => true
  | 180 => true
  | 181 => true
  | 182 => true
  | _ => false

set_option maxRecDepth 100000 in
set_option maxHeartbeats 2000000 in
theorem fun_run {f : Nat} (h : funT f = true) : ∀ (args : Array Value) (w : World), (callFunc f args).run Tryz.prog w = .ok (.enter f args) w := by
  unfold funT at h
  split at h <;> (try cases h)
  · exact Tryz.call3
  · exact Tryz.call4
  · exact Tryz.call5
  · exact Tryz.call6
  · exact Tryz.call7
  · exact Tryz.call8
  · exact Tryz.call9
  · exact Tryz.call10
  · exact Tryz.call11
  · exact Tryz.call12
  · exact Tryz.call13
  · exact Tryz.call14
  · exact Tryz.call15
  · exact Tryz.call16
  · exact Tryz.call17
  · exact Tryz.call18
  · exact Tryz.call19
  · exact Tryz.call20
  · exact Tryz.call21
  · exact Tryz.call22
  · exact Tryz.call23
  · exact Tryz.call24
  · exact Tryz.call25
  · exact Tryz.call26
  · exact Tryz.call27
  · exact Tryz.call28
  · exact Tryz.call29
  · exact Tryz.call30
  · exact Tryz.call31
  · exact Tryz.call32
  · exact Tryz.call33
  · exact Tryz.call34
  · exact Tryz.call35
  · exact Tryz.call36
  · exact Tryz.call37
  · exact Tryz.call38
  · exact Tryz.call39
  · exact Tryz.call40
  · exact Tryz.call41
  · exact Tryz.call42
  · exact Tryz.call43
  · exact Tryz.call44
  · exact Tryz.call45
  · exact Tryz.call46
  · exact Tryz.call47
  · exact Tryz.call48
  · exact Tryz.call49
  · exact Tryz.call50
  · exact Tryz.call51
  · exact Tryz.call52
  · exact Tryz.call53
  · exact Tryz.call54
  · exact Tryz.call55
  · exact Tryz.call56
  · exact Tryz.call57
  · exact Tryz.call58
  · exact Tryz.call59
  · exact Tryz.call60
  · exact Tryz.call61
  · exact Tryz.call62
  · exact Tryz.call63
  · exact Tryz.call64
  · exact Tryz.call65
  · exact Tryz.call66
  · exact Tryz.call67
  · exact Tryz.call68
  · exact Tryz.call69
  · exact Tryz.call70
  · exact Tryz.call71
  · exact Tryz.call72
  · exact Tryz.call73
  · exact Tryz.call74
  · exact Tryz.call75
  · exact Tryz.call76
  · exact Tryz.call77
  · exact Tryz.call78
  · exact Tryz.call79
  · exact Tryz.call80
  · exact Tryz.call81
  · exact Tryz.call82
  · exact Tryz.call83
  · exact Tryz.call84
  · exact Tryz.call85
  · exact Tryz.call86
  · exact Tryz.call87
  · exact Tryz.call88
  · exact Tryz.call89
  · exact Tryz.call90
  · exact Tryz.call91
  · exact Tryz.call92
  · exact Tryz.call93
  · exact Tryz.call94
  · exact Tryz.call95
  · exact Tryz.call96
  · exact Tryz.call97
  · exact Tryz.call98
  · exact Tryz.call99
  · exact Tryz.call100
  · exact Tryz.call101
  · exact Tryz.call102
  · exact Tryz.call103
  · exact Tryz.call104
  · exact Tryz.call105
  · exact Tryz.call106
  · exact Tryz.call107
  · exact Tryz.call108
  · exact Tryz.call109
  · exact Tryz.call110
  · exact Tryz.call111
  · exact Tryz.call112
  · exact Tryz.call113
  · exact Tryz.call114
  · exact Tryz.call115
  · exact Tryz.call116
  · exact Tryz.call117
  · exact Tryz.call118
  · exact Tryz.call119
  · exact Tryz.call120
  · exact Tryz.call121
  · exact Tryz.call122
  · exact Tryz.call123
  · exact Tryz.call124
  · exact Tryz.call125
  · exact Tryz.call126
  · exact Tryz.call127
  · exact Tryz.call128
  · exact Tryz.call129
  · exact Tryz.call130
  · exact Tryz.call131
  · exact Tryz.call137
  · exact Tryz.call138
  · exact Tryz.call139
  · exact Tryz.call140
  · exact Tryz.call141
  · exact Tryz.call142
  · exact Tryz.call143
  · exact Tryz.call144
  · exact Tryz.call145
  · exact Tryz.call146
  · exact Tryz.call150
  · exact Tryz.call151
  · exact Tryz.call153
  · exact Tryz.call154
  · exact Tryz.call155
  · exact Tryz.call156
  · exact Tryz.call157
  · exact Tryz.call158
  · exact Tryz.call159
  · exact Tryz.call160
  · exact Tryz.call161
  · exact Tryz.call162
  · exact Tryz.call163
  · exact Tryz.call164
  · exact Tryz.call165
  · exact Tryz.call166
  · exact Tryz.call168
  · exact Tryz.call172
  · exact Tryz.call173
  · exact Tryz.call175
  · exact Tryz.call176
  · exact Tryz.call177
  · exact Tryz.call178
  · exact Tryz.call179
  · exact Tryz.call180
  · exact Tryz.call181
  · exact Tryz.call182

theorem mixed : Tryz.prog.follows .mixedOrders = true := by kernel_rfl

end Go.Proofs.YtjgdklhbegplfaaGreat

/-
  Regions whose order is open and that make memory in more than one place: quiet operations are taken first, over the others it is branched.
-/
set_option linter.all false
namespace Go.W
open Go.RowKit
structure OPH (P : Program) (N : Nat) (ops : Array Oper) (K : Env → World → Prop) (w0 : World) (S : List Nat) (L : List Blk) (fuel : Nat) (listed : Array Bool) (e : Env) (w : World) : Prop where
  run : ∀ a : Act, envOf a = e → a.tmps.size = N → a.defers = [] → wpAnyH P .any ops (post N K NoX NoR) (fun w' => SH w0 S w' L) fuel listed a w
section
variable {P : Program} {N : Nat} {ops : Array Oper} {K : Env → World → Prop} {Kn : Env → World → Prop} {Kx : Nat → Env → World → Prop} {Kr : Env → World → Prop} {e : Env} {w w0 : World} {S : List Nat} {L : List Blk} {fuel : Nat} {listed : Array Bool}
theorem WP.rheld {id : Nat} (hm : P.follows .mixedOrders = true) (H : SH w0 S w L) (h : ∀ w', Below w.heap.size w w' → SH w0 S w' L → OPH P N ops Kn w0 S L ops.size (Array.replicate ops.size false) e w') : WP P N (.region id ops true) Kn Kx Kr e w :=
  ⟨fun a h1 h2 h3 => Code.wp_mono post_up (wp_region_held (S := fun w' => SH w0 S w' L) hm ((h { w with drawn := w.drawn + 1 } ⟨rfl, rfl, rfl, Nat.le_refl _, fun _ _ => rfl⟩ H.drew).run a h1 h2 h3))⟩
theorem WP.rheldC {id : Nat} (M : List Nat) (I : Env → World → Prop) (hm : P.follows .mixedOrders = true) (H : SH w0 S w L)
    (h : ∀ w', Below w.heap.size w w' → SH w0 S w' L → OPH P N ops (fun e' w' => Agree M e' e ∧ I e' w') w0 S L ops.size (Array.replicate ops.size false) e w') (hk : ∀ u w', I u w' → Kn (W.mix M u e) w') : WP P N (.region id ops true) Kn Kx Kr e w :=
  WP.mono (WP.rheld (Kn := fun e' w' => Agree M e' e ∧ I e' w') (Kx := Kx) (Kr := Kr) hm H h) (fun e' w' hh => by rw [hh.1.eq]; exact hk e' w' hh.2) (fun _ _ _ h => h) (fun _ _ h => h)
theorem OPH.take (i : Nat) {oi : Oper} {d : Nat} {v : Value} {f : Nat} (hi : ops[i]? = some oi) (hg : oi.guard = none) (hd : oi.dst = some d) (hN : Nat.blt d N = true) (hs : Region.noSelect ops = true) (hf : Region.free .any ops listed i = true)
    (hr : (Region.ready .any ops listed).contains i = true) (hfu : fuel = f + 1) (H : SH w0 S w L) (hE : ∀ w', SH w0 S w' L → Ev P e w' oi.type oi.op v)
    (h : OPH P N ops K w0 S L f (listed.setIfInBounds i true) (upd e d v) w) : OPH P N ops K w0 S L fuel listed e w :=
  ⟨fun a h1 h2 h3 => by
    subst hfu
    have hn := h.run (a.put (some d) v) (by rw [envOf_put v h2 hN, h1]) (by rw [size_put]; exact h2) (by rw [defers_put]; exact h3)
    refine wpAnyH_take hi hs hf hr (fun c a w hh => by simp only [post] at hh) (v := v) (.inl ⟨wanted_none hg _, fun w' hw' => ?_⟩) H (by rw [hd]; exact hn)
    have := (hE w' hw').run w' (Below.refl _ _) oi rfl rfl
    rw [eval_eq, h1]; exact this⟩
theorem OPH.all (rs : List Nat) {f : Nat} (hr : Region.ready .any ops listed = rs) (hne : rs ≠ []) (hfu : fuel = f + 1)
    (h : ∀ i ∈ rs, ∃ o, ops[i]? = some o ∧ OPS P N .plain ops (fun e' w' => SH w0 S w' L ∧ OPH P N ops K w0 S L f (listed.setIfInBounds i true) e' w') [o] e w) : OPH P N ops K w0 S L fuel listed e w :=
  ⟨fun a h1 h2 h3 => by
    subst hfu
    refine wpAnyH_all hr hne fun i hi => ?_
    obtain ⟨o, ho, hO⟩ := h i hi
    have hl := hO.run a h1 h2 h3
    simp only at hl
    unfold wpList at hl
    unfold wpOp
    simp only [ho]
    split
    · rename_i hw
      rw [if_pos hw] at hl
      rcases hl with hl | ⟨_, _, _, hl⟩
      · refine .inl ?_
        unfold Oper.wp at hl ⊢
        generalize (execOp a.eval o).run P w = r at hl ⊢
        have key : ∀ a' w', wpList P ops (post N (fun e' w' => SH w0 S w' L ∧ OPH P N ops K w0 S L f (listed.setIfInBounds i true) e' w') NoX NoR) [] a' w' → SH w0 S w' L ∧ wpAnyH P .any ops (post N K NoX NoR) (fun w' => SH w0 S w' L) f (listed.setIfInBounds i true) a' w' := by
          intro a' w' hh
          have hh : a'.tmps.size = N ∧ a'.defers = [] ∧ _ := hh
          exact ⟨hh.2.2.1, hh.2.2.2.run a' rfl hh.1 hh.2.1⟩
        cases r with
        | ok n w' =>
          cases n <;> simp only [Oper.upon] at hl ⊢
          case value u => exact key _ _ hl
          case skip => exact key _ _ hl
          case defer d => exact key _ _ hl
          case enter g args =>
            refine Calls.mono hl ?_
            intro e' w'' he
            cases e' with
            | returned u => exact key _ _ he
            | panicked c => simp only [post] at he
            | outgrown => obtain ⟨_, _, he⟩ := he; simp only [post] at he
          case row row args => exact Rows.mono hl fun u w'' he => key _ _ he
        | halt x w' =>
          cases x <;> simp only [Oper.upon] at hl ⊢
          case panic u => simp only [post] at hl
      · simp only [post] at hl
    · rename_i hw
      rw [if_neg hw] at hl
      have hl : (a.put o.dst undef).tmps.size = N ∧ (a.put o.dst undef).defers = [] ∧ _ := hl
      exact ⟨hl.2.2.1, hl.2.2.2.run _ rfl hl.1 hl.2.1⟩⟩
theorem OPH.done (hr : Region.ready .any ops listed = []) (h : K e w) : OPH P N ops K w0 S L fuel listed e w := ⟨fun _ h1 h2 h3 => wpAnyH_done hr ⟨h2, h3, h1 ▸ h⟩ fuel⟩
end
end Go.W

/-
  Words for what arguments read as: lists of one-cell elements, lists of elements of several cells.
-/
set_option linter.all false
namespace Go.W
open Go.RowKit
abbrev I (n : Int) : Value := .int .i64 n
abbrev Bo (b : Bool) : Value := .bool b
/-- the slice of address A holds the list l, an element a cell -/
def OnesAt {α : Type} (enc : α → Value) (w : World) (A : Option Addr) (l : List α) : Prop := ∀ k (hk : k < l.length), ∃ b o, A = some ⟨b, o, none⟩ ∧ w.cell? ⟨b, o + k, none⟩ = some (enc (l[k]'hk))
theorem OnesAt.below {α : Type} {enc : α → Value} {w w' : World} {A : Option Addr} {l : List α} (h : OnesAt enc w A l) (hb : Below w.heap.size w w') : OnesAt enc w' A l := fun k hk => by
  obtain ⟨b, o, h1, h2⟩ := h k hk
  exact ⟨b, o, h1, cell_below hb h2⟩
theorem OnesAt.sh {α : Type} {enc : α → Value} {w0 w : World} {L : List Blk} {A : Option Addr} {l : List α} (h : OnesAt enc w0 A l) (H : SH w0 [] w L) : OnesAt enc w A l := fun k hk => by
  obtain ⟨b, o, h1, h2⟩ := h k hk
  exact ⟨b, o, h1, H.ld0 h2⟩
theorem OnesAt.nil {α : Type} {enc : α → Value} {w : World} {A : Option Addr} : OnesAt enc w A [] := fun k hk => absurd hk (by simp)
/-- an own block that begins with the list -/
theorem OnesAt.own {α : Type} {enc : α → Value} {w0 w : World} {S : List Nat} {L : List Blk} (H : SH w0 S w L) (i : Nat) {b : Blk} (hi : L[i]? = some b) {l : List α} {post : List Value} (hc : b.cs = l.map enc ++ post) :
    OnesAt enc w (some ⟨b.g, 0, none⟩) l := fun k hk => ⟨b.g, 0, rfl, by
  have h1 : b.cs[k]? = some (enc (l[k]'hk)) := by
    rw [hc, List.getElem?_append_left (by simpa using hk), List.getElem?_map, List.getElem?_eq_getElem hk]; rfl
  rw [Nat.zero_add]
  exact H.ldL i hi k h1⟩
abbrev IntsAt := OnesAt I
abbrev BoolsAt := OnesAt Bo
/-- the slice of address A holds the list l, an element sz cells -/
def RowsAt {α : Type} (sz : Nat) (enc : α → List Value) (w : World) (A : Option Addr) (l : List α) : Prop := ∀ k (hk : k < l.length), ∃ b o, A = some ⟨b, o, none⟩ ∧ cellsAt w b (o + k * sz) (enc (l[k]'hk))
theorem RowsAt.below {α : Type} {sz : Nat} {enc : α → List Value} {w w' : World} {A : Option Addr} {l : List α} (h : RowsAt sz enc w A l) (hb : Below w.heap.size w w') : RowsAt sz enc w' A l := fun k hk => by
  obtain ⟨b, o, h1, h2⟩ := h k hk
  exact ⟨b, o, h1, cellsAt_below hb h2⟩
theorem cellsAt_sh {w0 w : World} {L : List Blk} (H : SH w0 [] w L) {b : Nat} : ∀ {vs : List Value} {o : Nat}, cellsAt w0 b o vs → cellsAt w b o vs
  | [], _, _ => trivial
  | _ :: _, _, h => ⟨H.ld0 h.1, cellsAt_sh H h.2⟩
theorem RowsAt.sh {α : Type} {sz : Nat} {enc : α → List Value} {w0 w : World} {L : List Blk} {A : Option Addr} {l : List α} (h : RowsAt sz enc w0 A l) (H : SH w0 [] w L) : RowsAt sz enc w A l := fun k hk => by
  obtain ⟨b, o, h1, h2⟩ := h k hk
  exact ⟨b, o, h1, cellsAt_sh H h2⟩
theorem RowsAt.nil {α : Type} {sz : Nat} {enc : α → List Value} {w : World} {A : Option Addr} : RowsAt sz enc w A [] := fun k hk => absurd hk (by simp)
theorem SH.ldS {w0 w : World} {S : List Nat} {L : List Blk} (h : SH w0 S w L) {a : Addr} {v : Value} (hc : w0.cell? a = some v) (hS : a.block ∉ S) : w.cell? a = some v :=
  (World.cell?_of_block (w := w0) (h.low a.block (cell_lt hc) hS)).trans hc
/-- the address of a slice lies in none of these blocks -/
def Off (A : Option Addr) (S : List Nat) : Prop := ∀ b o, A = some ⟨b, o, none⟩ → b ∉ S
theorem Off.nil {A : Option Addr} : Off A [] := fun _ _ _ => by simp
theorem OnesAt.shS {α : Type} {enc : α → Value} {w0 w : World} {S : List Nat} {L : List Blk} {A : Option Addr} {l : List α} (h : OnesAt enc w0 A l) (hS : Off A S) (H : SH w0 S w L) : OnesAt enc w A l := fun k hk => by
  obtain ⟨b, o, h1, h2⟩ := h k hk
  exact ⟨b, o, h1, H.ldS h2 (hS b o h1)⟩
theorem cellsAt_shS {w0 w : World} {S : List Nat} {L : List Blk} (H : SH w0 S w L) {b : Nat} (hS : b ∉ S) : ∀ {vs : List Value} {o : Nat}, cellsAt w0 b o vs → cellsAt w b o vs
  | [], _, _ => trivial
  | _ :: _, _, h => ⟨H.ldS h.1 hS, cellsAt_shS H hS h.2⟩
theorem RowsAt.shS {α : Type} {sz : Nat} {enc : α → List Value} {w0 w : World} {S : List Nat} {L : List Blk} {A : Option Addr} {l : List α} (h : RowsAt sz enc w0 A l) (hS : Off A S) (H : SH w0 S w L) : RowsAt sz enc w A l := fun k hk => by
  obtain ⟨b, o, h1, h2⟩ := h k hk
  exact ⟨b, o, h1, cellsAt_shS H (hS b o h1) h2⟩
/-- the blocks of a list, as a callee that may write them gets them -/
theorem SH.restart {w0 w : World} {S : List Nat} {L Lv : List Blk} (H : SH w0 S w L) (hs : Lv.Sublist L) : SH w (Lv.map (·.g)) w Lv :=
  ⟨rfl, rfl, rfl, Nat.le_refl _, fun _ _ _ => rfl, fun b hb => H.own b (hs.subset hb), fun b hb => .inr (List.mem_map_of_mem hb), (hs.map _).nodup H.nodup⟩
/-- behind a call that may have written the blocks Lv -/
theorem SH.call {w0 w w' : World} {S : List Nat} {L1 Lv Lv' : List Blk} (H : SH w0 S w (L1 ++ Lv)) (Hc : SH w (Lv.map (·.g)) w' Lv') : SH w0 S w' (L1 ++ Lv') where
  os := Hc.os.trans H.os
  tape := Hc.tape.trans H.tape
  output := Hc.output.trans H.output
  size := Nat.le_trans H.size Hc.size
  low k hk hS := by
    rw [Hc.low k (Nat.lt_of_lt_of_le hk H.size) (fun hm => ?_)]
    · exact H.low k hk hS
    · obtain ⟨b, hb, rfl⟩ := List.mem_map.1 hm
      rcases H.may b (List.mem_append_right _ hb) with h | h
      · omega
      · exact hS h
  own b hb := by
    rcases List.mem_append.1 hb with h | h
    · rw [Hc.low b.g (H.lt (List.mem_append_left _ h)) (fun hm => ?_)]
      · exact H.own b (List.mem_append_left _ h)
      · have hn := H.nodup
        rw [List.map_append, List.nodup_append] at hn
        exact hn.2.2 b.g (List.mem_map_of_mem h) b.g hm rfl
    · exact Hc.own b h
  may b hb := by
    rcases List.mem_append.1 hb with h | h
    · exact H.may b (List.mem_append_left _ h)
    · rcases Hc.may b h with h2 | h2
      · exact .inl (Nat.le_trans H.size h2)
      · obtain ⟨c, hc, he⟩ := List.mem_map.1 h2
        rw [← he]; exact H.may c (List.mem_append_right _ hc)
  nodup := by
    have hn := H.nodup
    rw [List.map_append, List.nodup_append] at hn ⊢
    refine ⟨hn.1, Hc.nodup, fun a ha b hb he => ?_⟩
    subst he
    obtain ⟨c, hc, rfl⟩ := List.mem_map.1 ha
    obtain ⟨d, hd, hde⟩ := List.mem_map.1 hb
    rcases Hc.may d hd with h2 | h2
    · have := H.lt (List.mem_append_left _ hc); omega
    · rw [hde] at h2
      exact hn.2.2 c.g (List.mem_map_of_mem hc) c.g h2 rfl
theorem SH.fresh {w0 w : World} {L : List Blk} (H : SH w0 [] w L) : ∀ g ∈ L.map (·.g), w0.heap.size ≤ g := fun g hg => by
  obtain ⟨b, hb, rfl⟩ := List.mem_map.1 hg
  rcases H.may b hb with h | h
  · exact h
  · simp at h
theorem OnesAt.off {α : Type} {enc : α → Value} {w0 : World} {A : Option Addr} {l : List α} {gs : List Nat} (h : OnesAt enc w0 A l) (hg : ∀ g ∈ gs, w0.heap.size ≤ g) : l ≠ [] → Off A gs := fun hl b o he hm => by
  subst he
  obtain ⟨b', o', h1, h2⟩ := h 0 (List.length_pos_iff.2 hl)
  cases h1
  have h3 := cell_lt h2
  have h3 : b < w0.heap.size := h3
  have := hg b hm
  omega
theorem RowsAt.off {α : Type} {sz : Nat} {enc : α → List Value} {w0 : World} {A : Option Addr} {l : List α} {gs : List Nat} (h : RowsAt sz enc w0 A l) (hne : ∀ x, enc x ≠ []) (hg : ∀ g ∈ gs, w0.heap.size ≤ g) : l ≠ [] → Off A gs := fun hl b o he hm => by
  subst he
  obtain ⟨b', o', h1, h2⟩ := h 0 (List.length_pos_iff.2 hl)
  cases h1
  have hgb := hg b hm
  generalize hx : enc (l[0]'(List.length_pos_iff.2 hl)) = vs at h2
  match vs, h2 with
  | [], _ => exact hne _ hx
  | v :: vs, h2 =>
    have h3 : b < w0.heap.size := cell_lt h2.1
    omega
/-- some of the blocks, in another order -/
theorem SH.reidx {w0 w : World} {S : List Nat} {L L' : List Blk} (H : SH w0 S w L) (idx : List Nat) (hn : idx.Nodup) (hi : idx.map (fun i => L[i]?) = L'.map some) : SH w0 S w L' := by
  have hlen : idx.length = L'.length := by have := congrArg List.length hi; simpa using this
  have hat : ∀ p (h : p < L'.length), L[idx[p]'(by omega)]? = some L'[p] := by
    intro p h
    have := congrArg (fun l => l[p]?) hi
    simp only [List.getElem?_map] at this
    rw [List.getElem?_eq_getElem (by omega), List.getElem?_eq_getElem h] at this
    simpa using this
  have hmem : ∀ b ∈ L', b ∈ L := by
    intro b hb
    obtain ⟨p, hp, rfl⟩ := List.mem_iff_getElem.1 hb
    exact List.mem_of_getElem? (hat p hp)
  refine ⟨H.os, H.tape, H.output, H.size, H.low, fun b hb => H.own b (hmem b hb), fun b hb => H.may b (hmem b hb), ?_⟩
  rw [List.nodup_iff_pairwise_ne, List.pairwise_iff_getElem]
  intro p q hp hq hpq
  simp only [List.length_map] at hp hq
  have h1 := hat p hp
  have h2 := hat q hq
  have hne : idx[p]'(by omega) ≠ idx[q]'(by omega) := by
    rw [List.nodup_iff_pairwise_ne, List.pairwise_iff_getElem] at hn
    exact hn p q (by omega) (by omega) hpq
  generalize idx[p]'(by omega) = i at *
  generalize idx[q]'(by omega) = j at *
  obtain ⟨hi1, hi2⟩ := List.getElem?_eq_some_iff.1 h1
  obtain ⟨hj1, hj2⟩ := List.getElem?_eq_some_iff.1 h2
  have hd := H.nodup
  rw [List.nodup_iff_pairwise_ne, List.pairwise_iff_getElem] at hd
  simp only [List.getElem_map]
  rcases Nat.lt_or_gt_of_ne hne with h | h
  · have := hd i j (by simpa) (by simpa) h
    simpa [hi2, hj2] using this
  · have := hd j i (by simpa) (by simpa) h
    simp [hi2, hj2] at this
    exact fun he => this he.symm
/-- what lies off the blocks at the start lies off those that stand later -/
theorem Off.later {α : Type} {enc : α → Value} {w0 w : World} {gs : List Nat} {L : List Blk} {A : Option Addr} {l : List α} (h : OnesAt enc w0 A l) (hg : l ≠ [] → Off A gs) (H : SH w0 gs w L) : l ≠ [] → Off A (L.map (·.g)) := fun hl b o he hm => by
  have hoff := hg hl b o he
  subst he
  obtain ⟨b', o', h1, h2⟩ := h 0 (List.length_pos_iff.2 hl)
  cases h1
  have h3 : b < w0.heap.size := cell_lt h2
  obtain ⟨c, hc, rfl⟩ := List.mem_map.1 hm
  rcases H.may c hc with h4 | h4
  · omega
  · exact hoff h4
theorem ret_eq {v v' : Value} (h : v = v') : Ending.returned v = .returned v' := by rw [h]
theorem ret_int {a b : Int} (h : a = b) : Ending.returned (I a) = .returned (I b) := by rw [h]
end Go.W

/-
  Own blocks that hold rows of several cells: reading and writing an element.
-/
set_option linter.all false
namespace Go.W
open Go.RowKit
section
variable {α : Type} {enc : α → List Value} {sz : Nat}
theorem rows_length (hsz : ∀ x, (enc x).length = sz) (l : List α) : (l.flatMap enc).length = l.length * sz := by
  induction l with
  | nil => simp
  | cons x l ih => simp only [List.flatMap_cons, List.length_append, hsz, ih, List.length_cons, Nat.succ_mul]; omega
theorem rows_get (hsz : ∀ x, (enc x).length = sz) : ∀ (l : List α) (k j : Nat) (hk : k < l.length), j < sz → (l.flatMap enc)[k * sz + j]? = (enc (l[k]'hk))[j]?
  | [], _, _, hk, _ => by simp at hk
  | x :: l, 0, j, _, hj => by
    simp only [List.flatMap_cons, Nat.zero_mul, Nat.zero_add, List.getElem_cons_zero]
    rw [List.getElem?_append_left (by rw [hsz]; exact hj)]
  | x :: l, k + 1, j, hk, hj => by
    simp only [List.flatMap_cons, List.getElem_cons_succ]
    rw [List.getElem?_append_right (by rw [hsz, Nat.succ_mul]; omega), hsz, show (k + 1) * sz + j - sz = k * sz + j by rw [Nat.succ_mul]; omega]
    exact rows_get hsz l k j (by simpa using hk) hj
theorem putL_append_right (pre : List Value) : ∀ (vs cs : List Value) (k : Nat), putL (pre ++ cs) (pre.length + k) vs = pre ++ putL cs k vs
  | [], _, _ => rfl
  | v :: vs, cs, k => by
    rw [putL, putL, List.set_append_right _ _ (by omega), show pre.length + k - pre.length = k by omega, show pre.length + k + 1 = pre.length + (k + 1) by omega]
    exact putL_append_right pre vs _ _
theorem putL_whole : ∀ (vs old : List Value) (post : List Value), old.length = vs.length → putL (old ++ post) 0 vs = vs ++ post
  | [], [], _, _ => rfl
  | v :: vs, u :: old, post, h => by
    rw [putL]
    have := putL_append_right [v] vs (old ++ post) 0
    simp only [List.cons_append, List.set_cons_zero, List.nil_append, List.length_cons, List.length_nil, Nat.zero_add, Nat.add_zero] at this ⊢
    rw [this, putL_whole vs old post (by simpa using h)]
  | [], _ :: _, _, h => by simp at h
  | _ :: _, [], _, h => by simp at h
theorem putL_rows (hsz : ∀ x, (enc x).length = sz) : ∀ (l : List α) (k : Nat) (x : α), k < l.length → putL (l.flatMap enc) (k * sz) (enc x) = (l.set k x).flatMap enc
  | [], _, _, h => by simp at h
  | y :: l, 0, x, _ => by
    simp only [List.flatMap_cons, Nat.zero_mul, List.set_cons_zero]
    exact putL_whole _ _ _ (by rw [hsz, hsz])
  | y :: l, k + 1, x, h => by
    simp only [List.flatMap_cons, List.set_cons_succ]
    rw [show (k + 1) * sz = (enc y).length + k * sz by rw [hsz, Nat.succ_mul]; omega, putL_append_right, putL_rows hsz l k x (by simpa using h)]
theorem rowsOwn {w0 w : World} {S : List Nat} {L : List Blk} (hsz : ∀ x, (enc x).length = sz) (H : SH w0 S w L) (i : Nat) {g : Nat} {T : TypeId} {l : List α} {post : List Value} (hi : L[i]? = some ⟨g, T, l.flatMap enc ++ post⟩) :
    RowsAt sz enc w (some ⟨g, 0, none⟩) l := fun k hk => ⟨g, 0, rfl, by
  refine cellsAt_own H i hi _ _ fun j hj => ?_
  rw [hsz] at hj
  have hlen := rows_length hsz l
  have hkk : k * sz + sz ≤ l.length * sz := by rw [← Nat.succ_mul]; exact Nat.mul_le_mul_right _ hk
  rw [Nat.zero_add, List.getElem?_append_left (by rw [hlen]; omega), rows_get hsz l k j hk hj, List.getElem?_eq_getElem]⟩
theorem rowsOwn' {w0 w : World} {S : List Nat} {L : List Blk} (hsz : ∀ x, (enc x).length = sz) (H : SH w0 S w L) (i : Nat) {g : Nat} {T : TypeId} {l : List α} (hi : L[i]? = some ⟨g, T, l.flatMap enc⟩) :
    RowsAt sz enc w (some ⟨g, 0, none⟩) l := rowsOwn (post := []) hsz H i (by simpa using hi)
theorem mkL_rows (n : Nat) (x : α) : mkL n (enc x) = (List.replicate n x).flatMap enc := by
  induction n with
  | zero => rfl
  | succ n ih => simp only [mkL, List.replicate_succ, List.flatten_cons, List.flatMap_cons] at ih ⊢; rw [ih]
theorem mkL_ones {enc1 : α → Value} (n : Nat) (x : α) : mkL n [enc1 x] = (List.replicate n x).map enc1 := by rw [mkL_one]; simp
end
theorem OwnS.rows {α : Type} {enc : α → List Value} {sz : Nat} (hsz : ∀ x, (enc x).length = sz) (hp : 0 < sz) {w0 w : World} {S : List Nat} {A : Option Addr} {cap n el : Nat} {l : List α} {R Lo : List Blk} (h : OwnS A cap n (l.flatMap enc) el sz Lo) (H : SH w0 S w (R ++ Lo)) :
    RowsAt sz enc w A l ∧ l.length = n := by
  have hl : l.length = n := by
    have := h.len
    rw [rows_length hsz] at this
    exact Nat.eq_of_mul_eq_mul_right hp this
  refine ⟨?_, hl⟩
  rcases h.form with ⟨rfl, h0, _, _⟩ | ⟨g, sp, rfl, rfl, _⟩
  · intro k hk; omega
  · exact rowsOwn (T := el) (post := sp) hsz H R.length (by simp)
theorem OwnS.ones {α : Type} {enc : α → Value} {w0 w : World} {S : List Nat} {A : Option Addr} {cap n el : Nat} {l : List α} {R Lo : List Blk} (h : OwnS A cap n (l.map enc) el 1 Lo) (H : SH w0 S w (R ++ Lo)) :
    OnesAt enc w A l ∧ l.length = n := by
  have hl : l.length = n := by simpa using h.len
  refine ⟨?_, hl⟩
  rcases h.form with ⟨rfl, h0, _, _⟩ | ⟨g, sp, rfl, rfl, _⟩
  · intro k hk; omega
  · exact OnesAt.own (b := ⟨g, el, l.map enc ++ sp⟩) H R.length (by simp) (post := sp) rfl
theorem onesOwn {α : Type} {enc : α → Value} {w0 w : World} {S : List Nat} {L : List Blk} (H : SH w0 S w L) (i : Nat) {g : Nat} {T : TypeId} {l : List α} (hi : L[i]? = some ⟨g, T, l.map enc⟩) : OnesAt enc w (some ⟨g, 0, none⟩) l :=
  OnesAt.own (b := ⟨g, T, l.map enc⟩) H i hi (post := []) (by simp)
/-- a store of one element -/
theorem putL_ones {α : Type} {enc : α → Value} (l : List α) (k : Nat) (x : α) : putL (l.map enc) k [enc x] = (l.set k x).map enc := by simp [putL, List.map_set]
end Go.W

/-
  More rules: copy.
-/
set_option linter.all false
namespace Go.W
open Go.RowKit
section
variable {P : Program} {N : Nat} {ops : Array Oper} {K : Env → World → Prop} {e : Env} {w w0 : World} {S : List Nat} {L : List Blk} {rest : List Oper} {o : Oper} {t : TypeId} {x y : Operand}
/-- copy of a whole list into a block of the call's own; elements of one cell -/
theorem OPS.copy {d el n sb so c c' : Nat} {b : Blk} {vs : List Value} (i k : Nat) (hg : o.guard = none) (hd : o.dst = some d) (hN : Nat.blt d N = true)
    (hop : o.op = .call { callee := .builtin .copy, args := #[x, y], argTypes := #[t, t] }) (hU : ∀ w, (underlying t).run P w = .ok (.slice el) w) (hs : ∀ w, (Go.sizeOf el).run P w = .ok 1 w)
    (hx : ev e x = .slice (some ⟨b.g, k, none⟩) n c) (hy : ev e y = .slice (some ⟨sb, so, none⟩) n c') (hn : vs.length = n) (hsrc : cellsAt w sb so vs) (h1 : (vs.all (·.oneCell')) = true)
    (H : SH w0 S w L) (hi : L[i]? = some b) (hk : k + n ≤ b.cs.length)
    (h : ∀ w', SH w0 S w' (L.set i ⟨b.g, b.T, putL b.cs k vs⟩) → OPS P N .plain ops K rest (upd e d (.int .i64 n)) w') : OPS P N .plain ops K (o :: rest) e w := by
  obtain ⟨w', hr, H'⟩ := store_run (P := P) vs w L b k 0 H hi (by omega) h1
  refine OPS.act (v := .int .i64 n) (w' := w') hg hd hN ?_ (h w' H')
  unfold execOp; rw [hop]
  have hl := loadCells_at (P := P) vs hsrc
  rw [hn] at hl
  simp [resolve, invoke, builtin, hx, hy, Builtin.copy_, hU, hs, Builtin.lenOf, Builtin.firstCells, hl, hr, goInt]
/-- as OPS.box, OPS.alloc, OPS.makeSlice, OPS.buildSlice, with what the new world keeps -/
theorem OPS.boxB {d : Nat} {cs : List Value} (hg : o.guard = none) (hd : o.dst = some d) (hN : Nat.blt d N = true) (hop : o.op = .box t x) (hx : (ev e x).cells = cs.toArray) (H : SH w0 S w L)
    (h : ∀ g w', Below w.heap.size w w' → SH w0 S w' (⟨g, t, cs⟩ :: L) → OPS P N .plain ops K rest (upd e d (.pointer (some ⟨g, 0, none⟩))) w') : OPS P N .plain ops K (o :: rest) e w :=
  OPS.act (v := .pointer (some ⟨w.heap.size, 0, none⟩)) (w' := w.alloc (.cells cs.toArray t)) hg hd hN (by unfold execOp; rw [hop]; simp [Instr.box, newVar, newRow, newObj, Sem.run, hx]) (h _ _ ((Below.refl _ _).alloc (Nat.le_refl _) _) (H.alloc t cs))
theorem OPS.allocB {d : Nat} {z : Value} {cs : List Value} (hg : o.guard = none) (hd : o.dst = some d) (hN : Nat.blt d N = true) (hop : o.op = .alloc t) (hz : ∀ w, (zeroValue t).run P w = .ok z w) (hx : z.cells = cs.toArray) (H : SH w0 S w L)
    (h : ∀ g w', Below w.heap.size w w' → SH w0 S w' (⟨g, t, cs⟩ :: L) → OPS P N .plain ops K rest (upd e d (.pointer (some ⟨g, 0, none⟩))) w') : OPS P N .plain ops K (o :: rest) e w :=
  OPS.act (v := .pointer (some ⟨w.heap.size, 0, none⟩)) (w' := w.alloc (.cells cs.toArray t)) hg hd hN (by unfold execOp; rw [hop]; simp [Instr.alloc, hz, newVar, newRow, newObj, Sem.run, hx]) (h _ _ ((Below.refl _ _).alloc (Nat.le_refl _) _) (H.alloc t cs))
theorem OPS.makeSliceB {d el sz bt m : Nat} {n : Int} {k k' : IntKind} {zs : List Value} (hg : o.guard = none) (hd : o.dst = some d) (hN : Nat.blt d N = true) (hop : o.op = .makeSlice t x y) (hf : SlFact P t el sz bt zs)
    (hx : ev e x = .int k n) (hy : ev e y = .int k' n) (hn : n = (m : Int)) (hb : bt * m ≤ 140737488355328) (hm : m ≤ 9223372036854775807) (H : SH w0 S w L)
    (h : ∀ g w', Below w.heap.size w w' → SH w0 S w' (⟨g, el, mkL m zs⟩ :: L) → OPS P N .plain ops K rest (upd e d (.slice (some ⟨g, 0, none⟩) m m)) w') : OPS P N .plain ops K (o :: rest) e w := by
  subst hn
  refine OPS.act (v := .slice (some ⟨w.heap.size, 0, none⟩) m m) (w' := w.alloc (.cells (mkL m zs).toArray el)) hg hd hN ?_ (h _ _ ((Below.refl _ _).alloc (Nat.le_refl _) _) (H.alloc _ _))
  unfold execOp; rw [hop]
  simp only [hx, hy, Sem.run_bind, run_makeSlice_own hf m k k' hb hm w, Result.andThen_ok, Sem.run_pure]
theorem OPS.buildSliceB {d el n : Nat} {cs : List Value} {parts : List (Nat × Operand)} (hg : o.guard = none) (hd : o.dst = some d) (hN : Nat.blt d N = true) (hop : o.op = .buildSlice t n parts.toArray)
    (hr : ∀ w, (Instr.buildSlice t n (parts.map fun p => (p.1, ev e p.2)).toArray).run P w = .ok (.slice (some ⟨w.heap.size, 0, none⟩) n n) (w.alloc (.cells cs.toArray el))) (H : SH w0 S w L)
    (h : ∀ g w', Below w.heap.size w w' → SH w0 S w' (⟨g, el, cs⟩ :: L) → OPS P N .plain ops K rest (upd e d (.slice (some ⟨g, 0, none⟩) n n)) w') : OPS P N .plain ops K (o :: rest) e w := by
  refine OPS.act (v := .slice (some ⟨w.heap.size, 0, none⟩) n n) (w' := w.alloc (.cells cs.toArray el)) hg hd hN ?_ (h _ _ ((Below.refl _ _).alloc (Nat.le_refl _) _) (H.alloc _ _))
  unfold execOp; rw [hop]
  simp only [List.map_toArray, Sem.run_bind, hr, Result.andThen_ok, Sem.run_pure]
/-- a guarded call in a quiet region, the contract first -/
theorem OPS.gcallq2 {d j dj : Nat} {want b : Bool} {f : FuncId} {args : List Value} {v : Value}
    (hC : b = want → ∀ w', Below w.heap.size w w' → Calls P f args.toArray w' fun e' w'' => e' = .returned v ∧ Below w'.heap.size w' w'')
    (hg : o.guard = some (j, want)) (hj : ops[j]?.bind (·.dst) = some dj) (hb : e dj = .bool b) (hd : o.dst = some d) (hN : Nat.blt d N = true) (hE : b = want → EvC P e o.op f args)
    (h : OPS P N .quiet ops K rest (upd e d (gv b want v)) w) : OPS P N .quiet ops K (o :: rest) e w :=
  ⟨fun a h1 h2 h3 => by
    have hn := h.run (a.put (some d) (gv b want v)) (by rw [envOf_put _ h2 hN, h1]) (by rw [size_put]; exact h2) (by rw [defers_put]; exact h3)
    have hy := yielded_of (a := a) hj (h1 ▸ hb)
    simp only at hn ⊢
    unfold wpQuiet
    by_cases hw : b = want
    · subst hw
      have hwt : Region.wanted o (yielded ops a.tmps) = true := by simp [Region.wanted, hg, hy]
      have hgv : gv b b v = v := by simp [gv]
      rw [hgv] at hn
      rw [if_pos hwt]
      refine ⟨v, fun w' hb => ?_, by rw [hd]; exact hn⟩
      unfold Oper.quietAt
      have hr := (hE rfl).run w' o rfl
      rw [← h1, ← eval_eq] at hr
      rw [hr]
      exact ⟨rfl, (hC rfl w' hb).mono fun e' w'' ⟨he, hb2⟩ => ⟨he, hb.trans (hb2.mono hb.size)⟩⟩
    · have hwt : Region.wanted o (yielded ops a.tmps) = false := by simp [Region.wanted, hg, hy, hw]
      have hgv : gv b want v = undef := by simp [gv, hw]
      rw [hgv] at hn
      rw [hwt, hd]; exact hn⟩
/-- a guarded call whose result is not known beforehand -/
theorem OPS.gcallX {α : Type} [Inhabited α] (val : α → Value) (R : α → World → Prop) {d j dj : Nat} {want b : Bool} {f : FuncId} {args : List Value}
    (hC : b = want → Calls P f args.toArray w fun e' w' => ∃ x, e' = .returned (val x) ∧ R x w' ∧ Below w.heap.size w w') (hg : o.guard = some (j, want)) (hj : ops[j]?.bind (·.dst) = some dj) (hb : e dj = .bool b) (hd : o.dst = some d) (hN : Nat.blt d N = true)
    (hE : b = want → EvC P e o.op f args)
    (h : ∀ x w', (b = want → R x w') → Below w.heap.size w w' → OPS P N .plain ops K rest (upd e d (gv b want (val x))) w') : OPS P N .plain ops K (o :: rest) e w :=
  ⟨fun a h1 h2 h3 => by
    have hy := yielded_of (a := a) hj (h1 ▸ hb)
    simp only
    unfold wpList
    by_cases hw : b = want
    · subst hw
      have hwt : Region.wanted o (yielded ops a.tmps) = true := by simp [Region.wanted, hg, hy]
      rw [if_pos hwt]
      refine .inl ?_
      unfold Oper.wp
      have hr := (hE rfl).run w o rfl
      rw [← h1, ← eval_eq] at hr
      rw [hr]
      refine (hC rfl).mono fun e' w' ⟨x, he, hR, hb2⟩ => ?_
      subst he
      have hn := (h x w' (fun _ => hR) hb2).run (a.put (some d) (gv b b (val x))) (by rw [envOf_put _ h2 hN, h1]) (by rw [size_put]; exact h2) (by rw [defers_put]; exact h3)
      have hgv : gv b b (val x) = val x := by simp [gv]
      rw [hgv] at hn
      rw [hd]
      exact hn
    · have hwt : Region.wanted o (yielded ops a.tmps) = false := by simp [Region.wanted, hg, hy, hw]
      have hn := (h default w (fun hx => absurd hx hw) (Below.refl _ _)).run (a.put (some d) (gv b want (val default))) (by rw [envOf_put _ h2 hN, h1]) (by rw [size_put]; exact h2) (by rw [defers_put]; exact h3)
      have hgv : gv b want (val default) = undef := by simp [gv, hw]
      rw [hgv] at hn
      rw [hwt, hd]; exact hn⟩
end
section
variable {P : Program} {e : Env} {w : World} {ty t : TypeId} {x y : Operand}
theorem Ev.pickT {c : Operand} {b : Bool} {v : Value} (hc : ev e c = .bool b) (hb : b = true) (hx : ev e x = v) : Ev P e w ty (.pick c x y) v := by
  have := Ev.pick (P := P) (w := w) (ty := ty) (x := x) (y := y) hc
  rw [if_pos hb, hx] at this; exact this
theorem Ev.pickF {c : Operand} {b : Bool} {v : Value} (hc : ev e c = .bool b) (hb : b = false) (hy : ev e y = v) : Ev P e w ty (.pick c x y) v := by
  have := Ev.pick (P := P) (w := w) (ty := ty) (x := x) (y := y) hc
  rw [if_neg (by simp [hb]), hy] at this; exact this
theorem equalB {a b : Bool} (hU : ∀ w, (underlying t).run P w = .ok .bool w) (w : World) : (Op.equal t (.bool a) (.bool b)).run P w = .ok (a == b) w := by
  unfold Op.equal
  rw [show Op.maxDepth = 9999 + 1 from rfl, Op.equalIn]
  simp [hU]
theorem Ev.neqB {t' : TypeId} {a b : Bool} (hU : ∀ w, (underlying t).run P w = .ok .bool w) (hx : ev e x = .bool a) (hy : ev e y = .bool b) : Ev P e w ty (.binOp .neq t x y t') (.bool (a != b)) :=
  ⟨fun w' _ o ho _ => by unfold execOp; rw [ho]; simp [hx, hy, eqGuard, binOp, equalB hU, bne]⟩
theorem Ev.eqlB {t' : TypeId} {a b : Bool} (hU : ∀ w, (underlying t).run P w = .ok .bool w) (hx : ev e x = .bool a) (hy : ev e y = .bool b) : Ev P e w ty (.binOp .eql t x y t') (.bool (a == b)) :=
  ⟨fun w' _ o ho _ => by unfold execOp; rw [ho]; simp [hx, hy, eqGuard, binOp, equalB hU]⟩
/-- two structs of one type, compared -/
theorem Ev.eqlA {t' : TypeId} {vs us : Array Value} {q : Bool} (hg : P.eqGuardType P.depth t = false) (hr : ∀ w, (Op.equal t (.agg vs) (.agg us)).run P w = .ok q w) (hx : ev e x = .agg vs) (hy : ev e y = .agg us) : Ev P e w ty (.binOp .eql t x y t') (.bool q) :=
  ⟨fun w' _ o ho _ => by
    have hp : (program : Sem Program).run P w' = .ok P w' := rfl
    unfold execOp; rw [ho]; simp [hx, hy, eqGuard, binOp, hr, hp, hg]⟩
end
theorem zero_of {P : Program} {t : TypeId} {z : Value} (h : (P.info? t).map (·.zero) = some (some z)) : ∀ w, (zeroValue t).run P w = .ok z w := by
  intro w
  cases hi : P.info? t with
  | none => simp [hi] at h
  | some i =>
    simp [hi] at h
    have ht : (typeInfo t).run P w = .ok i w := by unfold typeInfo program; simp only [Sem.run_bind, Sem.run, Result.andThen_ok, hi, Sem.run_pure]
    unfold zeroValue; simp only [Sem.run_bind, ht, Result.andThen_ok, h, Sem.run_pure]
/-- a cell of a block of ints -/
theorem intCell {w0 w : World} {S : List Nat} {L : List Blk} (H : SH w0 S w L) (i : Nat) {g : Nat} {T : TypeId} {ms : List Int} (hi : L[i]? = some ⟨g, T, ms.map fun n => Value.int .i64 n⟩) (k : Nat) (hk : k < ms.length) : w.cell? ⟨g, k, none⟩ = some (.int .i64 (ms.getD k 0)) :=
  H.ldL i hi k (by simp [hk])
/-- a list that is being filled: the first j elements stand, the others are z -/
def fillL {α : Type} (l : List α) (z : α) (j : Nat) : List α := l.take j ++ List.replicate (l.length - j) z
theorem fillL_length {α : Type} (l : List α) (z : α) (j : Nat) (h : j ≤ l.length) : (fillL l z j).length = l.length := by simp [fillL]; omega
theorem fillL_zero {α : Type} (l : List α) (z : α) : fillL l z 0 = List.replicate l.length z := by simp [fillL]
theorem fillL_all {α : Type} (l : List α) (z : α) : fillL l z l.length = l := by simp [fillL]
theorem fillL_set {α : Type} (l : List α) (z : α) (j : Nat) (h : j < l.length) : (fillL l z j).set j (l[j]) = fillL l z (j + 1) := by
  have e : l.length - j = (l.length - (j + 1)) + 1 := by omega
  unfold fillL
  have e2 : j - (l.take j).length = 0 := by simp; omega
  rw [List.set_append_right _ _ (by simp; omega), e, List.replicate_succ, e2, List.set_cons_zero, ← List.take_append_getElem h, List.append_assoc]
  rfl
/-- how many are not set yet -/
def openN (l : List Bool) : Nat := (l.filter (fun b => !b)).length
theorem openN_set : ∀ (l : List Bool) (k : Nat), k < l.length → l.getD k false = false → openN (l.set k true) < openN l
  | [], _, h, _ => by simp at h
  | b :: l, 0, _, hb => by
    simp at hb; subst hb
    simp [openN]
  | b :: l, k + 1, h, hb => by
    have := openN_set l k (by simpa using h) (by simpa using hb)
    cases b <;> simpa [openN] using this
end Go.W
