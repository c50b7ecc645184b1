/-
  The types and functions of this seat, as the walk wants them (written by a program from the translation).
-/
import Derived.Test.YtcgicnfjcndedaaProg
import Derived.Test.YtcgicnfjcndedaaMem
set_option linter.all false
namespace Go.Proofs.Ytcgicnfjcndedaa
open Go Go.W

def aggT : Nat → Option Bool
  | 2 => some false
  | 3 => some false
  | 4 => some false
  | 5 => some false
  | 6 => some false
  | 21 => some false
  | 22 => some false
  | 23 => some true
  | 24 => some true
  | 25 => some false
  | 26 => some false
  | 27 => some true
  | 28 => some true
  | 29 => some false
  | 30 => some false
  | 31 => some false
  | 32 => some false
  | 33 => some false
  | 34 => some true
  | 35 => some true
  | 36 => some false
  | 38 => some false
  | 40 => some false
  | 41 => some false
  | 42 => some false
  | 43 => some false
  | 44 => some true
  | 45 => some true
  | 46 => some false
  | 47 => some false
  | 48 => some false
  | 49 => some true
  | 50 => some true
  | 51 => some true
  | 52 => some true
  | 53 => some true
  | 54 => some true
  | 55 => some true
  | 56 => some true
  | 58 => some false
  | 59 => some false
  | 60 => some true
  | 61 => some true
  | 62 => some true
  | 63 => some false
  | 64 => some false
  | 65 => some false
  | 66 => some false
  | 67 => some false
  | 68 => some false
  | 69 => some false
  | 70 => some false
  | 71 => some false
  | 72 => some false
  | 74 => some false
  | 75 => some true
  | 76 => some true
  | 78 => some false
  | 79 => some false
  | 80 => some false
  | 81 => some false
  | 83 => some false
  | 84 => some false
  | 85 => some false
  | 86 => some false
  | 88 => some false
  | 89 => some false
  | 90 => some false
  | 91 => some false
  | 92 => some false
  | 93 => some false
  | 94 => some false
  | 95 => some false
  | 96 => some false
  | 97 => some false
  | 99 => some false
  | 100 => some false
  | 101 => some true
  | 102 => some true
  | 103 => some false
  | 104 => some false
  | 105 => some true
  | 106 => some true
  | 107 => some false
  | 108 => some false
  | 109 => some false
  | 111 => some false
  | 113 => some false
  | 114 => some true
  | 115 => some true
  | 116 => some true
  | 117 => some true
  | 118 => some false
  | 119 => some false
  | 120 => some false
  | 121 => some true
  | 122 => some true
  | 123 => some true
  | 124 => some true
  | 125 => some true
  | 126 => some false
  | 127 => some false
  | 128 => some false
  | 129 => some false
  | 130 => some false
  | 131 => some false
  | 132 => some false
  | 133 => some true
  | 134 => some true
  | _ => none

set_option maxHeartbeats 2000000 in
theorem agg_run {t : Nat} {v : _} (h : aggT t = some v) : ∀ w, (isAgg t).run Try.prog w = .ok v w := by
  unfold aggT at h
  split at h <;> (try cases h)
  · exact Try.isAgg2
  · exact Try.isAgg3
  · exact Try.isAgg4
  · exact Try.isAgg5
  · exact Try.isAgg6
  · exact Try.isAgg21
  · exact Try.isAgg22
  · exact Try.isAgg23
  · exact Try.isAgg24
  · exact Try.isAgg25
  · exact Try.isAgg26
  · exact Try.isAgg27
  · exact Try.isAgg28
  · exact Try.isAgg29
  · exact Try.isAgg30
  · exact Try.isAgg31
  · exact Try.isAgg32
  · exact Try.isAgg33
  · exact Try.isAgg34
  · exact Try.isAgg35
  · exact Try.isAgg36
  · exact Try.isAgg38
  · exact Try.isAgg40
  · exact Try.isAgg41
  · exact Try.isAgg42
  · exact Try.isAgg43
  · exact Try.isAgg44
  · exact Try.isAgg45
  · exact Try.isAgg46
  · exact Try.isAgg47
  · exact Try.isAgg48
  · exact Try.isAgg49
  · exact Try.isAgg50
  · exact Try.isAgg51
  · exact Try.isAgg52
  · exact Try.isAgg53
  · exact Try.isAgg54
  · exact Try.isAgg55
  · exact Try.isAgg56
  · exact Try.isAgg58
  · exact Try.isAgg59
  · exact Try.isAgg60
  · exact Try.isAgg61
  · exact Try.isAgg62
  · exact Try.isAgg63
  · exact Try.isAgg64
  · exact Try.isAgg65
  · exact Try.isAgg66
  · exact Try.isAgg67
  · exact Try.isAgg68
  · exact Try.isAgg69
  · exact Try.isAgg70
  · exact Try.isAgg71
  · exact Try.isAgg72
  · exact Try.isAgg74
  · exact Try.isAgg75
  · exact Try.isAgg76
  · exact Try.isAgg78
  · exact Try.isAgg79
  · exact Try.isAgg80
  · exact Try.isAgg81
  · exact Try.isAgg83
  · exact Try.isAgg84
  · exact Try.isAgg85
  · exact Try.isAgg86
  · exact Try.isAgg88
  · exact Try.isAgg89
  · exact Try.isAgg90
  · exact Try.isAgg91
  · exact Try.isAgg92
  · exact Try.isAgg93
  · exact Try.isAgg94
  · exact Try.isAgg95
  · exact Try.isAgg96
  · exact Try.isAgg97
  · exact Try.isAgg99
  · exact Try.isAgg100
  · exact Try.isAgg101
  · exact Try.isAgg102
  · exact Try.isAgg103
  · exact Try.isAgg104
  · exact Try.isAgg105
  · exact Try.isAgg106
  · exact Try.isAgg107
  · exact Try.isAgg108
  · exact Try.isAgg109
  · exact Try.isAgg111
  · exact Try.isAgg113
  · exact Try.isAgg114
  · exact Try.isAgg115
  · exact Try.isAgg116
  · exact Try.isAgg117
  · exact Try.isAgg118
  · exact Try.isAgg119
  · exact Try.isAgg120
  · exact Try.isAgg121
  · exact Try.isAgg122
  · exact Try.isAgg123
  · exact Try.isAgg124
  · exact Try.isAgg125
  · exact Try.isAgg126
  · exact Try.isAgg127
  · exact Try.isAgg128
  · exact Try.isAgg129
  · exact Try.isAgg130
  · exact Try.isAgg131
  · exact Try.isAgg132
  · exact Try.isAgg133
  · exact Try.isAgg134

def sizeT : Nat → Option Nat
  | 2 => some 1
  | 3 => some 1
  | 4 => some 1
  | 5 => some 1
  | 6 => some 1
  | 21 => some 1
  | 22 => some 1
  | 23 => some 2
  | 24 => some 2
  | 25 => some 1
  | 26 => some 1
  | 27 => some 5
  | 28 => some 5
  | 29 => some 1
  | 30 => some 1
  | 31 => some 1
  | 32 => some 1
  | 33 => some 1
  | 34 => some 2
  | 35 => some 2
  | 36 => some 1
  | 38 => some 1
  | 40 => some 1
  | 41 => some 1
  | 42 => some 1
  | 43 => some 1
  | 44 => some 2
  | 45 => some 2
  | 46 => some 1
  | 47 => some 1
  | 48 => some 1
  | 49 => some 2
  | 50 => some 2
  | 51 => some 4
  | 52 => some 4
  | 53 => some 4
  | 54 => some 4
  | 55 => some 2
  | 56 => some 2
  | 58 => some 1
  | 59 => some 1
  | 60 => some 3
  | 61 => some 3
  | 62 => some 3
  | 63 => some 1
  | 64 => some 1
  | 65 => some 1
  | 66 => some 1
  | 67 => some 1
  | 68 => some 1
  | 69 => some 1
  | 70 => some 1
  | 71 => some 1
  | 72 => some 1
  | 74 => some 1
  | 75 => some 13
  | 76 => some 13
  | 78 => some 1
  | 79 => some 1
  | 80 => some 1
  | 81 => some 1
  | 83 => some 1
  | 84 => some 1
  | 85 => some 1
  | 86 => some 1
  | 88 => some 1
  | 89 => some 1
  | 90 => some 1
  | 91 => some 1
  | 92 => some 1
  | 93 => some 1
  | 94 => some 1
  | 95 => some 1
  | 96 => some 1
  | 97 => some 1
  | 99 => some 1
  | 100 => some 1
  | 101 => some 2
  | 102 => some 2
  | 103 => some 1
  | 104 => some 1
  | 105 => some 3
  | 106 => some 3
  | 107 => some 1
  | 108 => some 1
  | 109 => some 1
  | 111 => some 1
  | 113 => some 1
  | 114 => some 3
  | 115 => some 3
  | 116 => some 4
  | 117 => some 4
  | 118 => some 1
  | 119 => some 1
  | 120 => some 1
  | 121 => some 4
  | 122 => some 4
  | 123 => some 0
  | 124 => some 0
  | 125 => some 0
  | 126 => some 1
  | 127 => some 1
  | 128 => some 1
  | 129 => some 1
  | 130 => some 1
  | 131 => some 1
  | 132 => some 1
  | 133 => some 11
  | 134 => some 11
  | _ => none

set_option maxHeartbeats 2000000 in
theorem size_run {t : Nat} {v : _} (h : sizeT t = some v) : ∀ w, (Go.sizeOf t).run Try.prog w = .ok v w := by
  unfold sizeT at h
  split at h <;> (try cases h)
  · exact Try.sizeOf2
  · exact Try.sizeOf3
  · exact Try.sizeOf4
  · exact Try.sizeOf5
  · exact Try.sizeOf6
  · exact Try.sizeOf21
  · exact Try.sizeOf22
  · exact Try.sizeOf23
  · exact Try.sizeOf24
  · exact Try.sizeOf25
  · exact Try.sizeOf26
  · exact Try.sizeOf27
  · exact Try.sizeOf28
  · exact Try.sizeOf29
  · exact Try.sizeOf30
  · exact Try.sizeOf31
  · exact Try.sizeOf32
  · exact Try.sizeOf33
  · exact Try.sizeOf34
  · exact Try.sizeOf35
  · exact Try.sizeOf36
  · exact Try.sizeOf38
  · exact Try.sizeOf40
  · exact Try.sizeOf41
  · exact Try.sizeOf42
  · exact Try.sizeOf43
  · exact Try.sizeOf44
  · exact Try.sizeOf45
  · exact Try.sizeOf46
  · exact Try.sizeOf47
  · exact Try.sizeOf48
  · exact Try.sizeOf49
  · exact Try.sizeOf50
  · exact Try.sizeOf51
  · exact Try.sizeOf52
  · exact Try.sizeOf53
  · exact Try.sizeOf54
  · exact Try.sizeOf55
  · exact Try.sizeOf56
  · exact Try.sizeOf58
  · exact Try.sizeOf59
  · exact Try.sizeOf60
  · exact Try.sizeOf61
  · exact Try.sizeOf62
  · exact Try.sizeOf63
  · exact Try.sizeOf64
  · exact Try.sizeOf65
  · exact Try.sizeOf66
  · exact Try.sizeOf67
  · exact Try.sizeOf68
  · exact Try.sizeOf69
  · exact Try.sizeOf70
  · exact Try.sizeOf71
  · exact Try.sizeOf72
  · exact Try.sizeOf74
  · exact Try.sizeOf75
  · exact Try.sizeOf76
  · exact Try.sizeOf78
  · exact Try.sizeOf79
  · exact Try.sizeOf80
  · exact Try.sizeOf81
  · exact Try.sizeOf83
  · exact Try.sizeOf84
  · exact Try.sizeOf85
  · exact Try.sizeOf86
  · exact Try.sizeOf88
  · exact Try.sizeOf89
  · exact Try.sizeOf90
  · exact Try.sizeOf91
  · exact Try.sizeOf92
  · exact Try.sizeOf93
  · exact Try.sizeOf94
  · exact Try.sizeOf95
  · exact Try.sizeOf96
  · exact Try.sizeOf97
  · exact Try.sizeOf99
  · exact Try.sizeOf100
  · exact Try.sizeOf101
  · exact Try.sizeOf102
  · exact Try.sizeOf103
  · exact Try.sizeOf104
  · exact Try.sizeOf105
  · exact Try.sizeOf106
  · exact Try.sizeOf107
  · exact Try.sizeOf108
  · exact Try.sizeOf109
  · exact Try.sizeOf111
  · exact Try.sizeOf113
  · exact Try.sizeOf114
  · exact Try.sizeOf115
  · exact Try.sizeOf116
  · exact Try.sizeOf117
  · exact Try.sizeOf118
  · exact Try.sizeOf119
  · exact Try.sizeOf120
  · exact Try.sizeOf121
  · exact Try.sizeOf122
  · exact Try.sizeOf123
  · exact Try.sizeOf124
  · exact Try.sizeOf125
  · exact Try.sizeOf126
  · exact Try.sizeOf127
  · exact Try.sizeOf128
  · exact Try.sizeOf129
  · exact Try.sizeOf130
  · exact Try.sizeOf131
  · exact Try.sizeOf132
  · exact Try.sizeOf133
  · exact Try.sizeOf134

def elT : Nat → Option Nat
  | 22 => some 62
  | 25 => some 52
  | 26 => some 56
  | 33 => some 3
  | 36 => some 54
  | 43 => some 35
  | 96 => some 102
  | 97 => some 4
  | 113 => some 117
  | _ => none

set_option maxHeartbeats 2000000 in
theorem el_run {t : Nat} {v : _} (h : elT t = some v) : ∀ w, (underlying t).run Try.prog w = .ok (.slice v) w := by
  unfold elT at h
  split at h <;> (try cases h)
  · exact Try.runUnderlying22
  · exact Try.runUnderlying25
  · exact Try.runUnderlying26
  · exact Try.runUnderlying33
  · exact Try.runUnderlying36
  · exact Try.runUnderlying43
  · exact Try.runUnderlying96
  · exact Try.runUnderlying97
  · exact Try.runUnderlying113

def ikT : Nat → Option IntKind
  | 2 => some .i64
  | 3 => some .i64
  | 5 => some .u8
  | 6 => some .u8
  | 21 => some .i32
  | 31 => some .i64
  | 59 => some .u16
  | 126 => some .u32
  | 127 => some .u8
  | 128 => some .u8
  | 131 => some .i32
  | 132 => some .i32
  | _ => none

set_option maxHeartbeats 2000000 in
theorem ik_run {t : Nat} {v : _} (h : ikT t = some v) : ∀ w, (underlying t).run Try.prog w = .ok (.int v) w := by
  unfold ikT at h
  split at h <;> (try cases h)
  · exact Try.runUnderlying2
  · exact Try.runUnderlying3
  · exact Try.runUnderlying5
  · exact Try.runUnderlying6
  · exact Try.runUnderlying21
  · exact Try.runUnderlying31
  · exact Try.runUnderlying59
  · exact Try.runUnderlying126
  · exact Try.runUnderlying127
  · exact Try.runUnderlying128
  · exact Try.runUnderlying131
  · exact Try.runUnderlying132

def arrT : Nat → Option (Nat × Nat)
  | 60 => some (3, 59)
  | 123 => some (0, 16)
  | _ => none

set_option maxHeartbeats 2000000 in
theorem arr_run {t : Nat} {v : _} (h : arrT t = some v) : ∀ w, (underlying t).run Try.prog w = .ok (.array v.1 v.2) w := by
  unfold arrT at h
  split at h <;> (try cases h)
  · exact Try.runUnderlying60
  · exact Try.runUnderlying123

def zeroT : Nat → Option Value
  | 2 => some (.int .i64 0)
  | 3 => some (.int .i64 0)
  | 4 => some (.bool false)
  | 5 => some (.int .u8 0)
  | 6 => some (.int .u8 0)
  | 21 => some (.int .i32 0)
  | 22 => some (.slice none 0 0)
  | 23 => some (.agg #[.int .i64 0, .slice none 0 0])
  | 24 => some (.agg #[.int .i64 0, .slice none 0 0])
  | 25 => some (.slice none 0 0)
  | 26 => some (.slice none 0 0)
  | 27 => some (.agg #[.int .i64 0, .slice none 0 0, .slice none 0 0, .slice none 0 0, .int .i64 0])
  | 28 => some (.agg #[.int .i64 0, .slice none 0 0, .slice none 0 0, .slice none 0 0, .int .i64 0])
  | 29 => some (.nilFunc)
  | 30 => some (.nilFunc)
  | 31 => some (.int .i64 0)
  | 32 => some (.nilFunc)
  | 33 => some (.slice none 0 0)
  | 34 => some (.agg #[.int .i64 0, .slice none 0 0])
  | 35 => some (.agg #[.int .i64 0, .slice none 0 0])
  | 36 => some (.slice none 0 0)
  | 38 => some (.nilFunc)
  | 40 => some (.nilFunc)
  | 41 => some (.nilFunc)
  | 42 => some (.nilFunc)
  | 43 => some (.slice none 0 0)
  | 44 => some (.agg #[.slice none 0 0, .slice none 0 0])
  | 45 => some (.agg #[.slice none 0 0, .slice none 0 0])
  | 46 => some (.nilFunc)
  | 47 => some (.nilFunc)
  | 48 => some (.nilFunc)
  | 49 => some (.agg #[.int .i64 0, .int .i64 0])
  | 50 => some (.agg #[.int .i64 0, .int .i64 0])
  | 51 => some (.agg #[.int .i64 0, .int .i64 0, .int .i64 0, .int .i64 0])
  | 52 => some (.agg #[.int .i64 0, .int .i64 0, .int .i64 0, .int .i64 0])
  | 53 => some (.agg #[.int .i64 0, .int .i64 0, .int .i64 0, .int .i64 0])
  | 54 => some (.agg #[.int .i64 0, .int .i64 0, .int .i64 0, .int .i64 0])
  | 55 => some (.agg #[.int .i64 0, .int .i64 0])
  | 56 => some (.agg #[.int .i64 0, .int .i64 0])
  | 58 => some (.nilFunc)
  | 59 => some (.int .u16 0)
  | 60 => some (.agg #[.int .u16 0, .int .u16 0, .int .u16 0])
  | 61 => some (.agg #[.int .i64 0, .int .i64 0, .int .i64 0])
  | 62 => some (.agg #[.int .i64 0, .int .i64 0, .int .i64 0])
  | 63 => some (.pointer none)
  | 64 => some (.nilFunc)
  | 65 => some (.nilFunc)
  | 66 => some (.nilFunc)
  | 67 => some (.nilFunc)
  | 68 => some (.nilFunc)
  | 69 => some (.nilFunc)
  | 70 => some (.nilFunc)
  | 71 => some (.nilFunc)
  | 72 => some (.pointer none)
  | 74 => some (.nilFunc)
  | 75 => some (.agg #[.int .i64 0, .int .i64 0, .int .i64 0, .int .i64 0, .int .i64 0, .slice none 0 0, .slice none 0 0, .slice none 0 0, .int .i64 0, .int .i64 0, .int .i64 0, .int .i64 0, .int .i64 0])
  | 76 => some (.agg #[.int .i64 0, .int .i64 0, .int .i64 0, .int .i64 0, .int .i64 0, .slice none 0 0, .slice none 0 0, .slice none 0 0, .int .i64 0, .int .i64 0, .int .i64 0, .int .i64 0, .int .i64 0])
  | 78 => some (.nilFunc)
  | 79 => some (.nilFunc)
  | 80 => some (.nilFunc)
  | 81 => some (.nilFunc)
  | 83 => some (.nilFunc)
  | 84 => some (.nilFunc)
  | 85 => some (.nilFunc)
  | 86 => some (.nilFunc)
  | 88 => some (.nilFunc)
  | 89 => some (.nilFunc)
  | 90 => some (.nilFunc)
  | 91 => some (.nilFunc)
  | 92 => some (.nilFunc)
  | 93 => some (.nilFunc)
  | 94 => some (.nilFunc)
  | 95 => some (.nilFunc)
  | 96 => some (.slice none 0 0)
  | 97 => some (.slice none 0 0)
  | 99 => some (.nilFunc)
  | 100 => some (.nilFunc)
  | 101 => some (.agg #[.int .i64 0, .int .i64 0])
  | 102 => some (.agg #[.int .i64 0, .int .i64 0])
  | 103 => some (.pointer none)
  | 104 => some (.nilFunc)
  | 105 => some (.agg #[.int .i64 0, .int .i64 0, .int .i64 0])
  | 106 => some (.agg #[.int .i64 0, .int .i64 0, .int .i64 0])
  | 107 => some (.nilFunc)
  | 108 => some (.nilFunc)
  | 109 => some (.nilFunc)
  | 111 => some (.nilFunc)
  | 113 => some (.slice none 0 0)
  | 114 => some (.agg #[.nilFunc, .slice none 0 0, .int .i64 0])
  | 115 => some (.agg #[.nilFunc, .slice none 0 0, .int .i64 0])
  | 116 => some (.agg #[.int .i64 0, .int .i64 0, .int .i64 0, .int .i64 0])
  | 117 => some (.agg #[.int .i64 0, .int .i64 0, .int .i64 0, .int .i64 0])
  | 118 => some (.nilFunc)
  | 119 => some (.nilFunc)
  | 120 => some (.nilFunc)
  | 123 => some (.agg #[])
  | 124 => some (.agg #[])
  | 125 => some (.agg #[])
  | 126 => some (.int .u32 0)
  | 127 => some (.int .u8 0)
  | 128 => some (.int .u8 0)
  | 129 => some (.nilFunc)
  | 130 => some (.pointer none)
  | 131 => some (.int .i32 0)
  | 132 => some (.int .i32 0)
  | 133 => some (.agg #[.int .u64 0, .int .u64 0, .int .u32 0, .int .u8 0, .int .u8 0, .int .u8 0, .int .u8 0, .nilFunc, .pointer none, .int .i32 0, .int .i32 0])
  | 134 => some (.agg #[.int .u64 0, .int .u64 0, .int .u32 0, .int .u8 0, .int .u8 0, .int .u8 0, .int .u8 0, .nilFunc, .pointer none, .int .i32 0, .int .i32 0])
  | _ => none

set_option maxHeartbeats 2000000 in
theorem zero_run {t : Nat} {v : _} (h : zeroT t = some v) : ∀ w, (zeroValue t).run Try.prog w = .ok v w := by
  unfold zeroT at h
  split at h <;> (try cases h)
  · exact Try.zeroValue2
  · exact Try.zeroValue3
  · exact Try.zeroValue4
  · exact Try.zeroValue5
  · exact Try.zeroValue6
  · exact Try.zeroValue21
  · exact Try.zeroValue22
  · exact Try.zeroValue23
  · exact Try.zeroValue24
  · exact Try.zeroValue25
  · exact Try.zeroValue26
  · exact Try.zeroValue27
  · exact Try.zeroValue28
  · exact Try.zeroValue29
  · exact Try.zeroValue30
  · exact Try.zeroValue31
  · exact Try.zeroValue32
  · exact Try.zeroValue33
  · exact Try.zeroValue34
  · exact Try.zeroValue35
  · exact Try.zeroValue36
  · exact Try.zeroValue38
  · exact Try.zeroValue40
  · exact Try.zeroValue41
  · exact Try.zeroValue42
  · exact Try.zeroValue43
  · exact Try.zeroValue44
  · exact Try.zeroValue45
  · exact Try.zeroValue46
  · exact Try.zeroValue47
  · exact Try.zeroValue48
  · exact Try.zeroValue49
  · exact Try.zeroValue50
  · exact Try.zeroValue51
  · exact Try.zeroValue52
  · exact Try.zeroValue53
  · exact Try.zeroValue54
  · exact Try.zeroValue55
  · exact Try.zeroValue56
  · exact Try.zeroValue58
  · exact Try.zeroValue59
  · exact Try.zeroValue60
  · exact Try.zeroValue61
  · exact Try.zeroValue62
  · exact Try.zeroValue63
  · exact Try.zeroValue64
  · exact Try.zeroValue65
  · exact Try.zeroValue66
  · exact Try.zeroValue67
  · exact Try.zeroValue68
  · exact Try.zeroValue69
  · exact Try.zeroValue70
  · exact Try.zeroValue71
  · exact Try.zeroValue72
  · exact Try.zeroValue74
  · exact Try.zeroValue75
  · exact Try.zeroValue76
  · exact Try.zeroValue78
  · exact Try.zeroValue79
  · exact Try.zeroValue80
  · exact Try.zeroValue81
  · exact Try.zeroValue83
  · exact Try.zeroValue84
  · exact Try.zeroValue85
  · exact Try.zeroValue86
  · exact Try.zeroValue88
  · exact Try.zeroValue89
  · exact Try.zeroValue90
  · exact Try.zeroValue91
  · exact Try.zeroValue92
  · exact Try.zeroValue93
  · exact Try.zeroValue94
  · exact Try.zeroValue95
  · exact Try.zeroValue96
  · exact Try.zeroValue97
  · exact Try.zeroValue99
  · exact Try.zeroValue100
  · exact Try.zeroValue101
  · exact Try.zeroValue102
  · exact Try.zeroValue103
  · exact Try.zeroValue104
  · exact Try.zeroValue105
  · exact Try.zeroValue106
  · exact Try.zeroValue107
  · exact Try.zeroValue108
  · exact Try.zeroValue109
  · exact Try.zeroValue111
  · exact Try.zeroValue113
  · exact Try.zeroValue114
  · exact Try.zeroValue115
  · exact Try.zeroValue116
  · exact Try.zeroValue117
  · exact Try.zeroValue118
  · exact Try.zeroValue119
  · exact Try.zeroValue120
  · exact Try.zeroValue123
  · exact Try.zeroValue124
  · exact Try.zeroValue125
  · exact Try.zeroValue126
  · exact Try.zeroValue127
  · exact Try.zeroValue128
  · exact Try.zeroValue129
  · exact Try.zeroValue130
  · exact Try.zeroValue131
  · exact Try.zeroValue132
  · exact Try.zeroValue133
  · exact Try.zeroValue134

def bytT : Nat → Option (Nat × Nat)
  | 2 => some (1, 8)
  | 3 => some (1, 8)
  | 4 => some (1, 1)
  | 5 => some (1, 1)
  | 6 => some (1, 1)
  | 21 => some (1, 4)
  | 22 => some (1, 24)
  | 23 => some (2, 32)
  | 24 => some (2, 32)
  | 25 => some (1, 24)
  | 26 => some (1, 24)
  | 27 => some (5, 88)
  | 28 => some (5, 88)
  | 29 => some (1, 8)
  | 30 => some (1, 8)
  | 31 => some (1, 8)
  | 32 => some (1, 8)
  | 33 => some (1, 24)
  | 34 => some (2, 32)
  | 35 => some (2, 32)
  | 36 => some (1, 24)
  | 38 => some (1, 8)
  | 40 => some (1, 8)
  | 41 => some (1, 8)
  | 42 => some (1, 8)
  | 43 => some (1, 24)
  | 44 => some (2, 48)
  | 45 => some (2, 48)
  | 46 => some (1, 8)
  | 47 => some (1, 8)
  | 48 => some (1, 8)
  | 49 => some (2, 16)
  | 50 => some (2, 16)
  | 51 => some (4, 32)
  | 52 => some (4, 32)
  | 53 => some (4, 32)
  | 54 => some (4, 32)
  | 55 => some (2, 16)
  | 56 => some (2, 16)
  | 58 => some (1, 8)
  | 59 => some (1, 2)
  | 60 => some (3, 6)
  | 61 => some (3, 24)
  | 62 => some (3, 24)
  | 63 => some (1, 8)
  | 64 => some (1, 8)
  | 65 => some (1, 8)
  | 66 => some (1, 8)
  | 67 => some (1, 8)
  | 68 => some (1, 8)
  | 69 => some (1, 8)
  | 70 => some (1, 8)
  | 71 => some (1, 8)
  | 72 => some (1, 8)
  | 74 => some (1, 8)
  | 75 => some (13, 152)
  | 76 => some (13, 152)
  | 78 => some (1, 8)
  | 79 => some (1, 8)
  | 80 => some (1, 8)
  | 81 => some (1, 8)
  | 83 => some (1, 8)
  | 84 => some (1, 8)
  | 85 => some (1, 8)
  | 86 => some (1, 8)
  | 88 => some (1, 8)
  | 89 => some (1, 8)
  | 90 => some (1, 8)
  | 91 => some (1, 8)
  | 92 => some (1, 8)
  | 93 => some (1, 8)
  | 94 => some (1, 8)
  | 95 => some (1, 8)
  | 96 => some (1, 24)
  | 97 => some (1, 24)
  | 99 => some (1, 8)
  | 100 => some (1, 8)
  | 101 => some (2, 16)
  | 102 => some (2, 16)
  | 103 => some (1, 8)
  | 104 => some (1, 8)
  | 105 => some (3, 24)
  | 106 => some (3, 24)
  | 107 => some (1, 8)
  | 108 => some (1, 8)
  | 109 => some (1, 8)
  | 111 => some (1, 8)
  | 113 => some (1, 24)
  | 114 => some (3, 40)
  | 115 => some (3, 40)
  | 116 => some (4, 32)
  | 117 => some (4, 32)
  | 118 => some (1, 8)
  | 119 => some (1, 8)
  | 120 => some (1, 8)
  | 121 => some (4, 40)
  | 122 => some (4, 40)
  | 123 => some (0, 0)
  | 124 => some (0, 0)
  | 125 => some (0, 0)
  | 126 => some (1, 4)
  | 127 => some (1, 1)
  | 128 => some (1, 1)
  | 129 => some (1, 8)
  | 130 => some (1, 8)
  | 131 => some (1, 4)
  | 132 => some (1, 4)
  | 133 => some (11, 48)
  | 134 => some (11, 48)
  | _ => none

set_option maxHeartbeats 2000000 in
theorem byt_run {t : Nat} {v : _} (h : bytT t = some v) : ∃ i, (∀ w, (typeInfo t).run Try.prog w = .ok i w) ∧ i.size = v.1 ∧ i.bytes = v.2 := by
  unfold bytT at h
  split at h <;> (try cases h)
  · exact ⟨_, Try.typeInfo2, rfl, rfl⟩
  · exact ⟨_, Try.typeInfo3, rfl, rfl⟩
  · exact ⟨_, Try.typeInfo4, rfl, rfl⟩
  · exact ⟨_, Try.typeInfo5, rfl, rfl⟩
  · exact ⟨_, Try.typeInfo6, rfl, rfl⟩
  · exact ⟨_, Try.typeInfo21, rfl, rfl⟩
  · exact ⟨_, Try.typeInfo22, rfl, rfl⟩
  · exact ⟨_, Try.typeInfo23, rfl, rfl⟩
  · exact ⟨_, Try.typeInfo24, rfl, rfl⟩
  · exact ⟨_, Try.typeInfo25, rfl, rfl⟩
  · exact ⟨_, Try.typeInfo26, rfl, rfl⟩
  · exact ⟨_, Try.typeInfo27, rfl, rfl⟩
  · exact ⟨_, Try.typeInfo28, rfl, rfl⟩
  · exact ⟨_, Try.typeInfo29, rfl, rfl⟩
  · exact ⟨_, Try.typeInfo30, rfl, rfl⟩
  · exact ⟨_, Try.typeInfo31, rfl, rfl⟩
  · exact ⟨_, Try.typeInfo32, rfl, rfl⟩
  · exact ⟨_, Try.typeInfo33, rfl, rfl⟩
  · exact ⟨_, Try.typeInfo34, rfl, rfl⟩
  · exact ⟨_, Try.typeInfo35, rfl, rfl⟩
  · exact ⟨_, Try.typeInfo36, rfl, rfl⟩
  · exact ⟨_, Try.typeInfo38, rfl, rfl⟩
  · exact ⟨_, Try.typeInfo40, rfl, rfl⟩
  · exact ⟨_, Try.typeInfo41, rfl, rfl⟩
  · exact ⟨_, Try.typeInfo42, rfl, rfl⟩
  · exact ⟨_, Try.typeInfo43, rfl, rfl⟩
  · exact ⟨_, Try.typeInfo44, rfl, rfl⟩
  · exact ⟨_, Try.typeInfo45, rfl, rfl⟩
  · exact ⟨_, Try.typeInfo46, rfl, rfl⟩
  · exact ⟨_, Try.typeInfo47, rfl, rfl⟩
  · exact ⟨_, Try.typeInfo48, rfl, rfl⟩
  · exact ⟨_, Try.typeInfo49, rfl, rfl⟩
  · exact ⟨_, Try.typeInfo50, rfl, rfl⟩
  · exact ⟨_, Try.typeInfo51, rfl, rfl⟩
  · exact ⟨_, Try.typeInfo52, rfl, rfl⟩
  · exact ⟨_, Try.typeInfo53, rfl, rfl⟩
  · exact ⟨_, Try.typeInfo54, rfl, rfl⟩
  · exact ⟨_, Try.typeInfo55, rfl, rfl⟩
  · exact ⟨_, Try.typeInfo56, rfl, rfl⟩
  · exact ⟨_, Try.typeInfo58, rfl, rfl⟩
  · exact ⟨_, Try.typeInfo59, rfl, rfl⟩
  · exact ⟨_, Try.typeInfo60, rfl, rfl⟩
  · exact ⟨_, Try.typeInfo61, rfl, rfl⟩
  · exact ⟨_, Try.typeInfo62, rfl, rfl⟩
  · exact ⟨_, Try.typeInfo63, rfl, rfl⟩
  · exact ⟨_, Try.typeInfo64, rfl, rfl⟩
  · exact ⟨_, Try.typeInfo65, rfl, rfl⟩
  · exact ⟨_, Try.typeInfo66, rfl, rfl⟩
  · exact ⟨_, Try.typeInfo67, rfl, rfl⟩
  · exact ⟨_, Try.typeInfo68, rfl, rfl⟩
  · exact ⟨_, Try.typeInfo69, rfl, rfl⟩
  · exact ⟨_, Try.typeInfo70, rfl, rfl⟩
  · exact ⟨_, Try.typeInfo71, rfl, rfl⟩
  · exact ⟨_, Try.typeInfo72, rfl, rfl⟩
  · exact ⟨_, Try.typeInfo74, rfl, rfl⟩
  · exact ⟨_, Try.typeInfo75, rfl, rfl⟩
  · exact ⟨_, Try.typeInfo76, rfl, rfl⟩
  · exact ⟨_, Try.typeInfo78, rfl, rfl⟩
  · exact ⟨_, Try.typeInfo79, rfl, rfl⟩
  · exact ⟨_, Try.typeInfo80, rfl, rfl⟩
  · exact ⟨_, Try.typeInfo81, rfl, rfl⟩
  · exact ⟨_, Try.typeInfo83, rfl, rfl⟩
  · exact ⟨_, Try.typeInfo84, rfl, rfl⟩
  · exact ⟨_, Try.typeInfo85, rfl, rfl⟩
  · exact ⟨_, Try.typeInfo86, rfl, rfl⟩
  · exact ⟨_, Try.typeInfo88, rfl, rfl⟩
  · exact ⟨_, Try.typeInfo89, rfl, rfl⟩
  · exact ⟨_, Try.typeInfo90, rfl, rfl⟩
  · exact ⟨_, Try.typeInfo91, rfl, rfl⟩
  · exact ⟨_, Try.typeInfo92, rfl, rfl⟩
  · exact ⟨_, Try.typeInfo93, rfl, rfl⟩
  · exact ⟨_, Try.typeInfo94, rfl, rfl⟩
  · exact ⟨_, Try.typeInfo95, rfl, rfl⟩
  · exact ⟨_, Try.typeInfo96, rfl, rfl⟩
  · exact ⟨_, Try.typeInfo97, rfl, rfl⟩
  · exact ⟨_, Try.typeInfo99, rfl, rfl⟩
  · exact ⟨_, Try.typeInfo100, rfl, rfl⟩
  · exact ⟨_, Try.typeInfo101, rfl, rfl⟩
  · exact ⟨_, Try.typeInfo102, rfl, rfl⟩
  · exact ⟨_, Try.typeInfo103, rfl, rfl⟩
  · exact ⟨_, Try.typeInfo104, rfl, rfl⟩
  · exact ⟨_, Try.typeInfo105, rfl, rfl⟩
  · exact ⟨_, Try.typeInfo106, rfl, rfl⟩
  · exact ⟨_, Try.typeInfo107, rfl, rfl⟩
  · exact ⟨_, Try.typeInfo108, rfl, rfl⟩
  · exact ⟨_, Try.typeInfo109, rfl, rfl⟩
  · exact ⟨_, Try.typeInfo111, rfl, rfl⟩
  · exact ⟨_, Try.typeInfo113, rfl, rfl⟩
  · exact ⟨_, Try.typeInfo114, rfl, rfl⟩
  · exact ⟨_, Try.typeInfo115, rfl, rfl⟩
  · exact ⟨_, Try.typeInfo116, rfl, rfl⟩
  · exact ⟨_, Try.typeInfo117, rfl, rfl⟩
  · exact ⟨_, Try.typeInfo118, rfl, rfl⟩
  · exact ⟨_, Try.typeInfo119, rfl, rfl⟩
  · exact ⟨_, Try.typeInfo120, rfl, rfl⟩
  · exact ⟨_, Try.typeInfo121, rfl, rfl⟩
  · exact ⟨_, Try.typeInfo122, rfl, rfl⟩
  · exact ⟨_, Try.typeInfo123, rfl, rfl⟩
  · exact ⟨_, Try.typeInfo124, rfl, rfl⟩
  · exact ⟨_, Try.typeInfo125, rfl, rfl⟩
  · exact ⟨_, Try.typeInfo126, rfl, rfl⟩
  · exact ⟨_, Try.typeInfo127, rfl, rfl⟩
  · exact ⟨_, Try.typeInfo128, rfl, rfl⟩
  · exact ⟨_, Try.typeInfo129, rfl, rfl⟩
  · exact ⟨_, Try.typeInfo130, rfl, rfl⟩
  · exact ⟨_, Try.typeInfo131, rfl, rfl⟩
  · exact ⟨_, Try.typeInfo132, rfl, rfl⟩
  · exact ⟨_, Try.typeInfo133, rfl, rfl⟩
  · exact ⟨_, Try.typeInfo134, rfl, rfl⟩

def fldT : Nat → Nat → Option Nat
  | 24, 0 => some 0
  | 24, 1 => some 1
  | 28, 0 => some 0
  | 28, 1 => some 2
  | 28, 2 => some 3
  | 28, 3 => some 4
  | 35, 0 => some 0
  | 35, 1 => some 1
  | 45, 0 => some 0
  | 45, 1 => some 1
  | 50, 0 => some 0
  | 50, 1 => some 1
  | 52, 0 => some 0
  | 52, 1 => some 1
  | 52, 2 => some 2
  | 54, 0 => some 0
  | 54, 1 => some 1
  | 54, 2 => some 2
  | 54, 3 => some 3
  | 56, 0 => some 0
  | 56, 1 => some 1
  | 62, 0 => some 0
  | 62, 1 => some 1
  | 62, 2 => some 2
  | 76, 0 => some 0
  | 76, 1 => some 4
  | 76, 2 => some 9
  | 76, 3 => some 10
  | 76, 4 => some 11
  | 76, 5 => some 12
  | 102, 0 => some 0
  | 102, 1 => some 1
  | 106, 0 => some 0
  | 106, 1 => some 1
  | 115, 0 => some 0
  | 115, 1 => some 1
  | 115, 2 => some 2
  | 117, 0 => some 0
  | 117, 1 => some 3
  | 122, 0 => some 0
  | 122, 1 => some 1
  | 122, 2 => some 2
  | 122, 3 => some 3
  | 134, 0 => some 0
  | 134, 1 => some 1
  | 134, 2 => some 2
  | 134, 3 => some 3
  | 134, 4 => some 4
  | 134, 5 => some 5
  | 134, 6 => some 6
  | 134, 7 => some 7
  | 134, 8 => some 8
  | 134, 9 => some 9
  | 134, 10 => some 10
  | _, _ => none

theorem fld_24_0 : ∀ b o w, (Instr.fieldAt 24 (.pointer (some ⟨b, o, none⟩)) 0).run Try.prog w = .ok (.pointer (some ⟨b, o + 0, none⟩)) w := fieldAt_run Try.runUnderlying24 rfl Try.sizeOf3 rfl rfl
theorem fld_24_1 : ∀ b o w, (Instr.fieldAt 24 (.pointer (some ⟨b, o, none⟩)) 1).run Try.prog w = .ok (.pointer (some ⟨b, o + 1, none⟩)) w := fieldAt_run Try.runUnderlying24 rfl Try.sizeOf22 rfl rfl
theorem fld_28_0 : ∀ b o w, (Instr.fieldAt 28 (.pointer (some ⟨b, o, none⟩)) 0).run Try.prog w = .ok (.pointer (some ⟨b, o + 0, none⟩)) w := fieldAt_run Try.runUnderlying28 rfl Try.sizeOf24 rfl rfl
theorem fld_28_1 : ∀ b o w, (Instr.fieldAt 28 (.pointer (some ⟨b, o, none⟩)) 1).run Try.prog w = .ok (.pointer (some ⟨b, o + 2, none⟩)) w := fieldAt_run Try.runUnderlying28 rfl Try.sizeOf25 rfl rfl
theorem fld_28_2 : ∀ b o w, (Instr.fieldAt 28 (.pointer (some ⟨b, o, none⟩)) 2).run Try.prog w = .ok (.pointer (some ⟨b, o + 3, none⟩)) w := fieldAt_run Try.runUnderlying28 rfl Try.sizeOf26 rfl rfl
theorem fld_28_3 : ∀ b o w, (Instr.fieldAt 28 (.pointer (some ⟨b, o, none⟩)) 3).run Try.prog w = .ok (.pointer (some ⟨b, o + 4, none⟩)) w := fieldAt_run Try.runUnderlying28 rfl Try.sizeOf3 rfl rfl
theorem fld_35_0 : ∀ b o w, (Instr.fieldAt 35 (.pointer (some ⟨b, o, none⟩)) 0).run Try.prog w = .ok (.pointer (some ⟨b, o + 0, none⟩)) w := fieldAt_run Try.runUnderlying35 rfl Try.sizeOf3 rfl rfl
theorem fld_35_1 : ∀ b o w, (Instr.fieldAt 35 (.pointer (some ⟨b, o, none⟩)) 1).run Try.prog w = .ok (.pointer (some ⟨b, o + 1, none⟩)) w := fieldAt_run Try.runUnderlying35 rfl Try.sizeOf33 rfl rfl
theorem fld_45_0 : ∀ b o w, (Instr.fieldAt 45 (.pointer (some ⟨b, o, none⟩)) 0).run Try.prog w = .ok (.pointer (some ⟨b, o + 0, none⟩)) w := fieldAt_run Try.runUnderlying45 rfl Try.sizeOf43 rfl rfl
theorem fld_45_1 : ∀ b o w, (Instr.fieldAt 45 (.pointer (some ⟨b, o, none⟩)) 1).run Try.prog w = .ok (.pointer (some ⟨b, o + 1, none⟩)) w := fieldAt_run Try.runUnderlying45 rfl Try.sizeOf33 rfl rfl
theorem fld_50_0 : ∀ b o w, (Instr.fieldAt 50 (.pointer (some ⟨b, o, none⟩)) 0).run Try.prog w = .ok (.pointer (some ⟨b, o + 0, none⟩)) w := fieldAt_run Try.runUnderlying50 rfl Try.sizeOf3 rfl rfl
theorem fld_50_1 : ∀ b o w, (Instr.fieldAt 50 (.pointer (some ⟨b, o, none⟩)) 1).run Try.prog w = .ok (.pointer (some ⟨b, o + 1, none⟩)) w := fieldAt_run Try.runUnderlying50 rfl Try.sizeOf3 rfl rfl
theorem fld_52_0 : ∀ b o w, (Instr.fieldAt 52 (.pointer (some ⟨b, o, none⟩)) 0).run Try.prog w = .ok (.pointer (some ⟨b, o + 0, none⟩)) w := fieldAt_run Try.runUnderlying52 rfl Try.sizeOf3 rfl rfl
theorem fld_52_1 : ∀ b o w, (Instr.fieldAt 52 (.pointer (some ⟨b, o, none⟩)) 1).run Try.prog w = .ok (.pointer (some ⟨b, o + 1, none⟩)) w := fieldAt_run Try.runUnderlying52 rfl Try.sizeOf3 rfl rfl
theorem fld_52_2 : ∀ b o w, (Instr.fieldAt 52 (.pointer (some ⟨b, o, none⟩)) 2).run Try.prog w = .ok (.pointer (some ⟨b, o + 2, none⟩)) w := fieldAt_run Try.runUnderlying52 rfl Try.sizeOf50 rfl rfl
theorem fld_54_0 : ∀ b o w, (Instr.fieldAt 54 (.pointer (some ⟨b, o, none⟩)) 0).run Try.prog w = .ok (.pointer (some ⟨b, o + 0, none⟩)) w := fieldAt_run Try.runUnderlying54 rfl Try.sizeOf3 rfl rfl
theorem fld_54_1 : ∀ b o w, (Instr.fieldAt 54 (.pointer (some ⟨b, o, none⟩)) 1).run Try.prog w = .ok (.pointer (some ⟨b, o + 1, none⟩)) w := fieldAt_run Try.runUnderlying54 rfl Try.sizeOf3 rfl rfl
theorem fld_54_2 : ∀ b o w, (Instr.fieldAt 54 (.pointer (some ⟨b, o, none⟩)) 2).run Try.prog w = .ok (.pointer (some ⟨b, o + 2, none⟩)) w := fieldAt_run Try.runUnderlying54 rfl Try.sizeOf3 rfl rfl
theorem fld_54_3 : ∀ b o w, (Instr.fieldAt 54 (.pointer (some ⟨b, o, none⟩)) 3).run Try.prog w = .ok (.pointer (some ⟨b, o + 3, none⟩)) w := fieldAt_run Try.runUnderlying54 rfl Try.sizeOf3 rfl rfl
theorem fld_56_0 : ∀ b o w, (Instr.fieldAt 56 (.pointer (some ⟨b, o, none⟩)) 0).run Try.prog w = .ok (.pointer (some ⟨b, o + 0, none⟩)) w := fieldAt_run Try.runUnderlying56 rfl Try.sizeOf3 rfl rfl
theorem fld_56_1 : ∀ b o w, (Instr.fieldAt 56 (.pointer (some ⟨b, o, none⟩)) 1).run Try.prog w = .ok (.pointer (some ⟨b, o + 1, none⟩)) w := fieldAt_run Try.runUnderlying56 rfl Try.sizeOf3 rfl rfl
theorem fld_62_0 : ∀ b o w, (Instr.fieldAt 62 (.pointer (some ⟨b, o, none⟩)) 0).run Try.prog w = .ok (.pointer (some ⟨b, o + 0, none⟩)) w := fieldAt_run Try.runUnderlying62 rfl Try.sizeOf3 rfl rfl
theorem fld_62_1 : ∀ b o w, (Instr.fieldAt 62 (.pointer (some ⟨b, o, none⟩)) 1).run Try.prog w = .ok (.pointer (some ⟨b, o + 1, none⟩)) w := fieldAt_run Try.runUnderlying62 rfl Try.sizeOf3 rfl rfl
theorem fld_62_2 : ∀ b o w, (Instr.fieldAt 62 (.pointer (some ⟨b, o, none⟩)) 2).run Try.prog w = .ok (.pointer (some ⟨b, o + 2, none⟩)) w := fieldAt_run Try.runUnderlying62 rfl Try.sizeOf3 rfl rfl
theorem fld_76_0 : ∀ b o w, (Instr.fieldAt 76 (.pointer (some ⟨b, o, none⟩)) 0).run Try.prog w = .ok (.pointer (some ⟨b, o + 0, none⟩)) w := fieldAt_run Try.runUnderlying76 rfl Try.sizeOf52 rfl rfl
theorem fld_76_1 : ∀ b o w, (Instr.fieldAt 76 (.pointer (some ⟨b, o, none⟩)) 1).run Try.prog w = .ok (.pointer (some ⟨b, o + 4, none⟩)) w := fieldAt_run Try.runUnderlying76 rfl Try.sizeOf28 rfl rfl
theorem fld_76_2 : ∀ b o w, (Instr.fieldAt 76 (.pointer (some ⟨b, o, none⟩)) 2).run Try.prog w = .ok (.pointer (some ⟨b, o + 9, none⟩)) w := fieldAt_run Try.runUnderlying76 rfl Try.sizeOf3 rfl rfl
theorem fld_76_3 : ∀ b o w, (Instr.fieldAt 76 (.pointer (some ⟨b, o, none⟩)) 3).run Try.prog w = .ok (.pointer (some ⟨b, o + 10, none⟩)) w := fieldAt_run Try.runUnderlying76 rfl Try.sizeOf3 rfl rfl
theorem fld_76_4 : ∀ b o w, (Instr.fieldAt 76 (.pointer (some ⟨b, o, none⟩)) 4).run Try.prog w = .ok (.pointer (some ⟨b, o + 11, none⟩)) w := fieldAt_run Try.runUnderlying76 rfl Try.sizeOf3 rfl rfl
theorem fld_76_5 : ∀ b o w, (Instr.fieldAt 76 (.pointer (some ⟨b, o, none⟩)) 5).run Try.prog w = .ok (.pointer (some ⟨b, o + 12, none⟩)) w := fieldAt_run Try.runUnderlying76 rfl Try.sizeOf3 rfl rfl
theorem fld_102_0 : ∀ b o w, (Instr.fieldAt 102 (.pointer (some ⟨b, o, none⟩)) 0).run Try.prog w = .ok (.pointer (some ⟨b, o + 0, none⟩)) w := fieldAt_run Try.runUnderlying102 rfl Try.sizeOf3 rfl rfl
theorem fld_102_1 : ∀ b o w, (Instr.fieldAt 102 (.pointer (some ⟨b, o, none⟩)) 1).run Try.prog w = .ok (.pointer (some ⟨b, o + 1, none⟩)) w := fieldAt_run Try.runUnderlying102 rfl Try.sizeOf3 rfl rfl
theorem fld_106_0 : ∀ b o w, (Instr.fieldAt 106 (.pointer (some ⟨b, o, none⟩)) 0).run Try.prog w = .ok (.pointer (some ⟨b, o + 0, none⟩)) w := fieldAt_run Try.runUnderlying106 rfl Try.sizeOf3 rfl rfl
theorem fld_106_1 : ∀ b o w, (Instr.fieldAt 106 (.pointer (some ⟨b, o, none⟩)) 1).run Try.prog w = .ok (.pointer (some ⟨b, o + 1, none⟩)) w := fieldAt_run Try.runUnderlying106 rfl Try.sizeOf102 rfl rfl
theorem fld_115_0 : ∀ b o w, (Instr.fieldAt 115 (.pointer (some ⟨b, o, none⟩)) 0).run Try.prog w = .ok (.pointer (some ⟨b, o + 0, none⟩)) w := fieldAt_run Try.runUnderlying115 rfl Try.sizeOf108 rfl rfl
theorem fld_115_1 : ∀ b o w, (Instr.fieldAt 115 (.pointer (some ⟨b, o, none⟩)) 1).run Try.prog w = .ok (.pointer (some ⟨b, o + 1, none⟩)) w := fieldAt_run Try.runUnderlying115 rfl Try.sizeOf113 rfl rfl
theorem fld_115_2 : ∀ b o w, (Instr.fieldAt 115 (.pointer (some ⟨b, o, none⟩)) 2).run Try.prog w = .ok (.pointer (some ⟨b, o + 2, none⟩)) w := fieldAt_run Try.runUnderlying115 rfl Try.sizeOf3 rfl rfl
theorem fld_117_0 : ∀ b o w, (Instr.fieldAt 117 (.pointer (some ⟨b, o, none⟩)) 0).run Try.prog w = .ok (.pointer (some ⟨b, o + 0, none⟩)) w := fieldAt_run Try.runUnderlying117 rfl Try.sizeOf106 rfl rfl
theorem fld_117_1 : ∀ b o w, (Instr.fieldAt 117 (.pointer (some ⟨b, o, none⟩)) 1).run Try.prog w = .ok (.pointer (some ⟨b, o + 3, none⟩)) w := fieldAt_run Try.runUnderlying117 rfl Try.sizeOf3 rfl rfl
theorem fld_122_0 : ∀ b o w, (Instr.fieldAt 122 (.pointer (some ⟨b, o, none⟩)) 0).run Try.prog w = .ok (.pointer (some ⟨b, o + 0, none⟩)) w := fieldAt_run Try.runUnderlying122 rfl Try.sizeOf17 rfl rfl
theorem fld_122_1 : ∀ b o w, (Instr.fieldAt 122 (.pointer (some ⟨b, o, none⟩)) 1).run Try.prog w = .ok (.pointer (some ⟨b, o + 1, none⟩)) w := fieldAt_run Try.runUnderlying122 rfl Try.sizeOf17 rfl rfl
theorem fld_122_2 : ∀ b o w, (Instr.fieldAt 122 (.pointer (some ⟨b, o, none⟩)) 2).run Try.prog w = .ok (.pointer (some ⟨b, o + 2, none⟩)) w := fieldAt_run Try.runUnderlying122 rfl Try.sizeOf17 rfl rfl
theorem fld_122_3 : ∀ b o w, (Instr.fieldAt 122 (.pointer (some ⟨b, o, none⟩)) 3).run Try.prog w = .ok (.pointer (some ⟨b, o + 3, none⟩)) w := fieldAt_run Try.runUnderlying122 rfl Try.sizeOf9 rfl rfl
theorem fld_134_0 : ∀ b o w, (Instr.fieldAt 134 (.pointer (some ⟨b, o, none⟩)) 0).run Try.prog w = .ok (.pointer (some ⟨b, o + 0, none⟩)) w := fieldAt_run Try.runUnderlying134 rfl Try.sizeOf12 rfl rfl
theorem fld_134_1 : ∀ b o w, (Instr.fieldAt 134 (.pointer (some ⟨b, o, none⟩)) 1).run Try.prog w = .ok (.pointer (some ⟨b, o + 1, none⟩)) w := fieldAt_run Try.runUnderlying134 rfl Try.sizeOf12 rfl rfl
theorem fld_134_2 : ∀ b o w, (Instr.fieldAt 134 (.pointer (some ⟨b, o, none⟩)) 2).run Try.prog w = .ok (.pointer (some ⟨b, o + 2, none⟩)) w := fieldAt_run Try.runUnderlying134 rfl Try.sizeOf126 rfl rfl
theorem fld_134_3 : ∀ b o w, (Instr.fieldAt 134 (.pointer (some ⟨b, o, none⟩)) 3).run Try.prog w = .ok (.pointer (some ⟨b, o + 3, none⟩)) w := fieldAt_run Try.runUnderlying134 rfl Try.sizeOf127 rfl rfl
theorem fld_134_4 : ∀ b o w, (Instr.fieldAt 134 (.pointer (some ⟨b, o, none⟩)) 4).run Try.prog w = .ok (.pointer (some ⟨b, o + 4, none⟩)) w := fieldAt_run Try.runUnderlying134 rfl Try.sizeOf5 rfl rfl
theorem fld_134_5 : ∀ b o w, (Instr.fieldAt 134 (.pointer (some ⟨b, o, none⟩)) 5).run Try.prog w = .ok (.pointer (some ⟨b, o + 5, none⟩)) w := fieldAt_run Try.runUnderlying134 rfl Try.sizeOf5 rfl rfl
theorem fld_134_6 : ∀ b o w, (Instr.fieldAt 134 (.pointer (some ⟨b, o, none⟩)) 6).run Try.prog w = .ok (.pointer (some ⟨b, o + 6, none⟩)) w := fieldAt_run Try.runUnderlying134 rfl Try.sizeOf128 rfl rfl
theorem fld_134_7 : ∀ b o w, (Instr.fieldAt 134 (.pointer (some ⟨b, o, none⟩)) 7).run Try.prog w = .ok (.pointer (some ⟨b, o + 7, none⟩)) w := fieldAt_run Try.runUnderlying134 rfl Try.sizeOf129 rfl rfl
theorem fld_134_8 : ∀ b o w, (Instr.fieldAt 134 (.pointer (some ⟨b, o, none⟩)) 8).run Try.prog w = .ok (.pointer (some ⟨b, o + 8, none⟩)) w := fieldAt_run Try.runUnderlying134 rfl Try.sizeOf130 rfl rfl
theorem fld_134_9 : ∀ b o w, (Instr.fieldAt 134 (.pointer (some ⟨b, o, none⟩)) 9).run Try.prog w = .ok (.pointer (some ⟨b, o + 9, none⟩)) w := fieldAt_run Try.runUnderlying134 rfl Try.sizeOf131 rfl rfl
theorem fld_134_10 : ∀ b o w, (Instr.fieldAt 134 (.pointer (some ⟨b, o, none⟩)) 10).run Try.prog w = .ok (.pointer (some ⟨b, o + 10, none⟩)) w := fieldAt_run Try.runUnderlying134 rfl Try.sizeOf132 rfl rfl
set_option maxHeartbeats 2000000 in
theorem fld_run {s k off : Nat} (h : fldT s k = some off) : ∀ b o w, (Instr.fieldAt s (.pointer (some ⟨b, o, none⟩)) k).run Try.prog w = .ok (.pointer (some ⟨b, o + off, none⟩)) w := by
  unfold fldT at h
  split at h <;> (try cases h)
  · exact fld_24_0
  · exact fld_24_1
  · exact fld_28_0
  · exact fld_28_1
  · exact fld_28_2
  · exact fld_28_3
  · exact fld_35_0
  · exact fld_35_1
  · exact fld_45_0
  · exact fld_45_1
  · exact fld_50_0
  · exact fld_50_1
  · exact fld_52_0
  · exact fld_52_1
  · exact fld_52_2
  · exact fld_54_0
  · exact fld_54_1
  · exact fld_54_2
  · exact fld_54_3
  · exact fld_56_0
  · exact fld_56_1
  · exact fld_62_0
  · exact fld_62_1
  · exact fld_62_2
  · exact fld_76_0
  · exact fld_76_1
  · exact fld_76_2
  · exact fld_76_3
  · exact fld_76_4
  · exact fld_76_5
  · exact fld_102_0
  · exact fld_102_1
  · exact fld_106_0
  · exact fld_106_1
  · exact fld_115_0
  · exact fld_115_1
  · exact fld_115_2
  · exact fld_117_0
  · exact fld_117_1
  · exact fld_122_0
  · exact fld_122_1
  · exact fld_122_2
  · exact fld_122_3
  · exact fld_134_0
  · exact fld_134_1
  · exact fld_134_2
  · exact fld_134_3
  · exact fld_134_4
  · exact fld_134_5
  · exact fld_134_6
  · exact fld_134_7
  · exact fld_134_8
  · exact fld_134_9
  · exact fld_134_10

theorem sl_22 : SlFact Try.prog 22 62 3 24 [.int .i64 0, .int .i64 0, .int .i64 0] := SlFact.mk' (z := .agg #[.int .i64 0, .int .i64 0, .int .i64 0]) Try.underlying22 (by kernel_rfl) rfl rfl (by decide)
theorem sl_25 : SlFact Try.prog 25 52 4 32 [.int .i64 0, .int .i64 0, .int .i64 0, .int .i64 0] := SlFact.mk' (z := .agg #[.int .i64 0, .int .i64 0, .int .i64 0, .int .i64 0]) Try.underlying25 (by kernel_rfl) rfl rfl (by decide)
theorem sl_26 : SlFact Try.prog 26 56 2 16 [.int .i64 0, .int .i64 0] := SlFact.mk' (z := .agg #[.int .i64 0, .int .i64 0]) Try.underlying26 (by kernel_rfl) rfl rfl (by decide)
theorem sl_33 : SlFact Try.prog 33 3 1 8 [.int .i64 0] := SlFact.mk' (z := .int .i64 0) Try.underlying33 (by kernel_rfl) rfl rfl (by decide)
theorem sl_36 : SlFact Try.prog 36 54 4 32 [.int .i64 0, .int .i64 0, .int .i64 0, .int .i64 0] := SlFact.mk' (z := .agg #[.int .i64 0, .int .i64 0, .int .i64 0, .int .i64 0]) Try.underlying36 (by kernel_rfl) rfl rfl (by decide)
theorem sl_43 : SlFact Try.prog 43 35 2 32 [.int .i64 0, .slice none 0 0] := SlFact.mk' (z := .agg #[.int .i64 0, .slice none 0 0]) Try.underlying43 (by kernel_rfl) rfl rfl (by decide)
theorem sl_96 : SlFact Try.prog 96 102 2 16 [.int .i64 0, .int .i64 0] := SlFact.mk' (z := .agg #[.int .i64 0, .int .i64 0]) Try.underlying96 (by kernel_rfl) rfl rfl (by decide)
theorem sl_97 : SlFact Try.prog 97 4 1 1 [.bool false] := SlFact.mk' (z := .bool false) Try.underlying97 (by kernel_rfl) rfl rfl (by decide)
theorem sl_113 : SlFact Try.prog 113 117 4 32 [.int .i64 0, .int .i64 0, .int .i64 0, .int .i64 0] := SlFact.mk' (z := .agg #[.int .i64 0, .int .i64 0, .int .i64 0, .int .i64 0]) Try.underlying113 (by kernel_rfl) rfl rfl (by decide)
def slT : Nat → Option (Nat × Nat × Nat × List Value)
  | 22 => some (62, 3, 24, [.int .i64 0, .int .i64 0, .int .i64 0])
  | 25 => some (52, 4, 32, [.int .i64 0, .int .i64 0, .int .i64 0, .int .i64 0])
  | 26 => some (56, 2, 16, [.int .i64 0, .int .i64 0])
  | 33 => some (3, 1, 8, [.int .i64 0])
  | 36 => some (54, 4, 32, [.int .i64 0, .int .i64 0, .int .i64 0, .int .i64 0])
  | 43 => some (35, 2, 32, [.int .i64 0, .slice none 0 0])
  | 96 => some (102, 2, 16, [.int .i64 0, .int .i64 0])
  | 97 => some (4, 1, 1, [.bool false])
  | 113 => some (117, 4, 32, [.int .i64 0, .int .i64 0, .int .i64 0, .int .i64 0])
  | _ => none

theorem sl_run {t el sz bt : Nat} {zs : List Value} (h : slT t = some (el, sz, bt, zs)) : SlFact Try.prog t el sz bt zs := by
  unfold slT at h
  split at h <;> (try cases h)
  · exact sl_22
  · exact sl_25
  · exact sl_26
  · exact sl_33
  · exact sl_36
  · exact sl_43
  · exact sl_96
  · exact sl_97
  · exact sl_113

set_option maxHeartbeats 1000000 in
theorem bld_24_0 {e : Env} {x0 : Operand} {n0 : Int} (h0 : ev e x0 = .int .i64 n0) : ∀ w, (Instr.build 24 #[(0, ev e x0)]).run Try.prog w = .ok (.agg #[.int .i64 n0, .slice none 0 0]) w := by
  intro w
  rw [h0]
  simp [Instr.build, go_sem]

set_option maxHeartbeats 1000000 in
theorem bld_24_0_1 {e : Env} {x0 x1 : Operand} {n0 : Int} {A1 : Option Addr} {l1 c1 : Nat} (h0 : ev e x0 = .int .i64 n0) (h1 : ev e x1 = .slice A1 l1 c1) : ∀ w, (Instr.build 24 #[(0, ev e x0), (1, ev e x1)]).run Try.prog w = .ok (.agg #[.int .i64 n0, .slice A1 l1 c1]) w := by
  intro w
  rw [h0, h1]
  simp [Instr.build, go_sem]

set_option maxHeartbeats 1000000 in
theorem bld_28_0_1_2_3 {e : Env} {x0 x1 x2 x3 : Operand} {v0_0 v0_1 : Value} {A1 : Option Addr} {l1 c1 : Nat} {A2 : Option Addr} {l2 c2 : Nat} {n3 : Int} (h0 : ev e x0 = .agg #[v0_0, v0_1]) (h1 : ev e x1 = .slice A1 l1 c1) (h2 : ev e x2 = .slice A2 l2 c2) (h3 : ev e x3 = .int .i64 n3) : ∀ w, (Instr.build 28 #[(0, ev e x0), (1, ev e x1), (2, ev e x2), (3, ev e x3)]).run Try.prog w = .ok (.agg #[v0_0, v0_1, .slice A1 l1 c1, .slice A2 l2 c2, .int .i64 n3]) w := by
  intro w
  rw [h0, h1, h2, h3]
  simp [Instr.build, go_sem]

set_option maxHeartbeats 1000000 in
theorem bld_35_0_1 {e : Env} {x0 x1 : Operand} {n0 : Int} {A1 : Option Addr} {l1 c1 : Nat} (h0 : ev e x0 = .int .i64 n0) (h1 : ev e x1 = .slice A1 l1 c1) : ∀ w, (Instr.build 35 #[(0, ev e x0), (1, ev e x1)]).run Try.prog w = .ok (.agg #[.int .i64 n0, .slice A1 l1 c1]) w := by
  intro w
  rw [h0, h1]
  simp [Instr.build, go_sem]

set_option maxHeartbeats 1000000 in
theorem bld_35_1 {e : Env} {x0 : Operand} {A0 : Option Addr} {l0 c0 : Nat} (h0 : ev e x0 = .slice A0 l0 c0) : ∀ w, (Instr.build 35 #[(1, ev e x0)]).run Try.prog w = .ok (.agg #[.int .i64 0, .slice A0 l0 c0]) w := by
  intro w
  rw [h0]
  simp [Instr.build, go_sem]

set_option maxHeartbeats 1000000 in
theorem bld_45_0_1 {e : Env} {x0 x1 : Operand} {A0 : Option Addr} {l0 c0 : Nat} {A1 : Option Addr} {l1 c1 : Nat} (h0 : ev e x0 = .slice A0 l0 c0) (h1 : ev e x1 = .slice A1 l1 c1) : ∀ w, (Instr.build 45 #[(0, ev e x0), (1, ev e x1)]).run Try.prog w = .ok (.agg #[.slice A0 l0 c0, .slice A1 l1 c1]) w := by
  intro w
  rw [h0, h1]
  simp [Instr.build, go_sem]

set_option maxHeartbeats 1000000 in
theorem bld_45_1 {e : Env} {x0 : Operand} {A0 : Option Addr} {l0 c0 : Nat} (h0 : ev e x0 = .slice A0 l0 c0) : ∀ w, (Instr.build 45 #[(1, ev e x0)]).run Try.prog w = .ok (.agg #[.slice none 0 0, .slice A0 l0 c0]) w := by
  intro w
  rw [h0]
  simp [Instr.build, go_sem]

set_option maxHeartbeats 1000000 in
theorem bld_50_0_1 {e : Env} {x0 x1 : Operand} {n0 : Int} {n1 : Int} (h0 : ev e x0 = .int .i64 n0) (h1 : ev e x1 = .int .i64 n1) : ∀ w, (Instr.build 50 #[(0, ev e x0), (1, ev e x1)]).run Try.prog w = .ok (.agg #[.int .i64 n0, .int .i64 n1]) w := by
  intro w
  rw [h0, h1]
  simp [Instr.build, go_sem]

set_option maxHeartbeats 1000000 in
theorem bld_52_1_2 {e : Env} {x0 x1 : Operand} {n0 : Int} {v1_0 v1_1 : Value} (h0 : ev e x0 = .int .i64 n0) (h1 : ev e x1 = .agg #[v1_0, v1_1]) : ∀ w, (Instr.build 52 #[(1, ev e x0), (2, ev e x1)]).run Try.prog w = .ok (.agg #[.int .i64 0, .int .i64 n0, v1_0, v1_1]) w := by
  intro w
  rw [h0, h1]
  simp [Instr.build, go_sem]

set_option maxHeartbeats 1000000 in
theorem bld_54_ {e : Env}   : ∀ w, (Instr.build 54 #[]).run Try.prog w = .ok (.agg #[.int .i64 0, .int .i64 0, .int .i64 0, .int .i64 0]) w := by
  intro w
  simp [Instr.build, go_sem]

set_option maxHeartbeats 1000000 in
theorem bld_54_0_1 {e : Env} {x0 x1 : Operand} {n0 : Int} {n1 : Int} (h0 : ev e x0 = .int .i64 n0) (h1 : ev e x1 = .int .i64 n1) : ∀ w, (Instr.build 54 #[(0, ev e x0), (1, ev e x1)]).run Try.prog w = .ok (.agg #[.int .i64 n0, .int .i64 n1, .int .i64 0, .int .i64 0]) w := by
  intro w
  rw [h0, h1]
  simp [Instr.build, go_sem]

set_option maxHeartbeats 1000000 in
theorem bld_54_0_1_2_3 {e : Env} {x0 x1 x2 x3 : Operand} {n0 : Int} {n1 : Int} {n2 : Int} {n3 : Int} (h0 : ev e x0 = .int .i64 n0) (h1 : ev e x1 = .int .i64 n1) (h2 : ev e x2 = .int .i64 n2) (h3 : ev e x3 = .int .i64 n3) : ∀ w, (Instr.build 54 #[(0, ev e x0), (1, ev e x1), (2, ev e x2), (3, ev e x3)]).run Try.prog w = .ok (.agg #[.int .i64 n0, .int .i64 n1, .int .i64 n2, .int .i64 n3]) w := by
  intro w
  rw [h0, h1, h2, h3]
  simp [Instr.build, go_sem]

set_option maxHeartbeats 1000000 in
theorem bld_56_0_1 {e : Env} {x0 x1 : Operand} {n0 : Int} {n1 : Int} (h0 : ev e x0 = .int .i64 n0) (h1 : ev e x1 = .int .i64 n1) : ∀ w, (Instr.build 56 #[(0, ev e x0), (1, ev e x1)]).run Try.prog w = .ok (.agg #[.int .i64 n0, .int .i64 n1]) w := by
  intro w
  rw [h0, h1]
  simp [Instr.build, go_sem]

set_option maxHeartbeats 1000000 in
theorem bld_62_0_1_2 {e : Env} {x0 x1 x2 : Operand} {n0 : Int} {n1 : Int} {n2 : Int} (h0 : ev e x0 = .int .i64 n0) (h1 : ev e x1 = .int .i64 n1) (h2 : ev e x2 = .int .i64 n2) : ∀ w, (Instr.build 62 #[(0, ev e x0), (1, ev e x1), (2, ev e x2)]).run Try.prog w = .ok (.agg #[.int .i64 n0, .int .i64 n1, .int .i64 n2]) w := by
  intro w
  rw [h0, h1, h2]
  simp [Instr.build, go_sem]

set_option maxHeartbeats 1000000 in
theorem bld_76_0_1 {e : Env} {x0 x1 : Operand} {v0_0 v0_1 v0_2 v0_3 : Value} {v1_0 v1_1 v1_2 v1_3 v1_4 : Value} (h0 : ev e x0 = .agg #[v0_0, v0_1, v0_2, v0_3]) (h1 : ev e x1 = .agg #[v1_0, v1_1, v1_2, v1_3, v1_4]) : ∀ w, (Instr.build 76 #[(0, ev e x0), (1, ev e x1)]).run Try.prog w = .ok (.agg #[v0_0, v0_1, v0_2, v0_3, v1_0, v1_1, v1_2, v1_3, v1_4, .int .i64 0, .int .i64 0, .int .i64 0, .int .i64 0]) w := by
  intro w
  rw [h0, h1]
  simp [Instr.build, go_sem]

set_option maxHeartbeats 1000000 in
theorem bld_102_0_1 {e : Env} {x0 x1 : Operand} {n0 : Int} {n1 : Int} (h0 : ev e x0 = .int .i64 n0) (h1 : ev e x1 = .int .i64 n1) : ∀ w, (Instr.build 102 #[(0, ev e x0), (1, ev e x1)]).run Try.prog w = .ok (.agg #[.int .i64 n0, .int .i64 n1]) w := by
  intro w
  rw [h0, h1]
  simp [Instr.build, go_sem]

set_option maxHeartbeats 1000000 in
theorem bld_106_0 {e : Env} {x0 : Operand} {n0 : Int} (h0 : ev e x0 = .int .i64 n0) : ∀ w, (Instr.build 106 #[(0, ev e x0)]).run Try.prog w = .ok (.agg #[.int .i64 n0, .int .i64 0, .int .i64 0]) w := by
  intro w
  rw [h0]
  simp [Instr.build, go_sem]

set_option maxHeartbeats 1000000 in
theorem bld_106_0_1 {e : Env} {x0 x1 : Operand} {n0 : Int} {v1_0 v1_1 : Value} (h0 : ev e x0 = .int .i64 n0) (h1 : ev e x1 = .agg #[v1_0, v1_1]) : ∀ w, (Instr.build 106 #[(0, ev e x0), (1, ev e x1)]).run Try.prog w = .ok (.agg #[.int .i64 n0, v1_0, v1_1]) w := by
  intro w
  rw [h0, h1]
  simp [Instr.build, go_sem]

set_option maxHeartbeats 1000000 in
theorem bld_115_0 {e : Env} {x0 : Operand} {fn0 : Fn} {fa0 fb0 : Array Value} (h0 : ev e x0 = .func fn0 fa0 fb0) : ∀ w, (Instr.build 115 #[(0, ev e x0)]).run Try.prog w = .ok (.agg #[.func fn0 fa0 fb0, .slice none 0 0, .int .i64 0]) w := by
  intro w
  rw [h0]
  simp [Instr.build, go_sem]

set_option maxHeartbeats 1000000 in
theorem bld_117_0_1 {e : Env} {x0 x1 : Operand} {v0_0 v0_1 v0_2 : Value} {n1 : Int} (h0 : ev e x0 = .agg #[v0_0, v0_1, v0_2]) (h1 : ev e x1 = .int .i64 n1) : ∀ w, (Instr.build 117 #[(0, ev e x0), (1, ev e x1)]).run Try.prog w = .ok (.agg #[v0_0, v0_1, v0_2, .int .i64 n1]) w := by
  intro w
  rw [h0, h1]
  simp [Instr.build, go_sem]

set_option maxHeartbeats 1000000 in
theorem bsl_22_0_ {e : Env}   : ∀ w, (Instr.buildSlice 22 0 #[]).run Try.prog w = .ok (.slice (some ⟨w.heap.size, 0, none⟩) 0 0) (w.alloc (.cells ([] : List Value).toArray 62)) := by
  intro w
  simp [Instr.buildSlice, go_sem]

set_option maxHeartbeats 1000000 in
theorem bsl_22_1_0 {e : Env} {x0 : Operand} {v0_0 v0_1 v0_2 : Value} (h0 : ev e x0 = .agg #[v0_0, v0_1, v0_2]) : ∀ w, (Instr.buildSlice 22 1 #[(0, ev e x0)]).run Try.prog w = .ok (.slice (some ⟨w.heap.size, 0, none⟩) 1 1) (w.alloc (.cells ([v0_0, v0_1, v0_2] : List Value).toArray 62)) := by
  intro w
  rw [h0]
  simp [Instr.buildSlice, go_sem]

set_option maxHeartbeats 1000000 in
theorem bsl_22_6_0_1_2_3_4_5 {e : Env} {x0 x1 x2 x3 x4 x5 : Operand} {v0_0 v0_1 v0_2 : Value} {v1_0 v1_1 v1_2 : Value} {v2_0 v2_1 v2_2 : Value} {v3_0 v3_1 v3_2 : Value} {v4_0 v4_1 v4_2 : Value} {v5_0 v5_1 v5_2 : Value} (h0 : ev e x0 = .agg #[v0_0, v0_1, v0_2]) (h1 : ev e x1 = .agg #[v1_0, v1_1, v1_2]) (h2 : ev e x2 = .agg #[v2_0, v2_1, v2_2]) (h3 : ev e x3 = .agg #[v3_0, v3_1, v3_2]) (h4 : ev e x4 = .agg #[v4_0, v4_1, v4_2]) (h5 : ev e x5 = .agg #[v5_0, v5_1, v5_2]) : ∀ w, (Instr.buildSlice 22 6 #[(0, ev e x0), (1, ev e x1), (2, ev e x2), (3, ev e x3), (4, ev e x4), (5, ev e x5)]).run Try.prog w = .ok (.slice (some ⟨w.heap.size, 0, none⟩) 6 6) (w.alloc (.cells ([v0_0, v0_1, v0_2, v1_0, v1_1, v1_2, v2_0, v2_1, v2_2, v3_0, v3_1, v3_2, v4_0, v4_1, v4_2, v5_0, v5_1, v5_2] : List Value).toArray 62)) := by
  intro w
  rw [h0, h1, h2, h3, h4, h5]
  simp [Instr.buildSlice, go_sem]

set_option maxHeartbeats 1000000 in
theorem bsl_25_0_ {e : Env}   : ∀ w, (Instr.buildSlice 25 0 #[]).run Try.prog w = .ok (.slice (some ⟨w.heap.size, 0, none⟩) 0 0) (w.alloc (.cells ([] : List Value).toArray 52)) := by
  intro w
  simp [Instr.buildSlice, go_sem]

set_option maxHeartbeats 1000000 in
theorem bsl_25_1_0 {e : Env} {x0 : Operand} {v0_0 v0_1 v0_2 v0_3 : Value} (h0 : ev e x0 = .agg #[v0_0, v0_1, v0_2, v0_3]) : ∀ w, (Instr.buildSlice 25 1 #[(0, ev e x0)]).run Try.prog w = .ok (.slice (some ⟨w.heap.size, 0, none⟩) 1 1) (w.alloc (.cells ([v0_0, v0_1, v0_2, v0_3] : List Value).toArray 52)) := by
  intro w
  rw [h0]
  simp [Instr.buildSlice, go_sem]

set_option maxHeartbeats 1000000 in
theorem bsl_26_2_0_1 {e : Env} {x0 x1 : Operand} {v0_0 v0_1 : Value} {v1_0 v1_1 : Value} (h0 : ev e x0 = .agg #[v0_0, v0_1]) (h1 : ev e x1 = .agg #[v1_0, v1_1]) : ∀ w, (Instr.buildSlice 26 2 #[(0, ev e x0), (1, ev e x1)]).run Try.prog w = .ok (.slice (some ⟨w.heap.size, 0, none⟩) 2 2) (w.alloc (.cells ([v0_0, v0_1, v1_0, v1_1] : List Value).toArray 56)) := by
  intro w
  rw [h0, h1]
  simp [Instr.buildSlice, go_sem]

set_option maxHeartbeats 1000000 in
theorem bsl_33_1_0 {e : Env} {x0 : Operand} {n0 : Int} (h0 : ev e x0 = .int .i64 n0) : ∀ w, (Instr.buildSlice 33 1 #[(0, ev e x0)]).run Try.prog w = .ok (.slice (some ⟨w.heap.size, 0, none⟩) 1 1) (w.alloc (.cells ([.int .i64 n0] : List Value).toArray 3)) := by
  intro w
  rw [h0]
  simp [Instr.buildSlice, go_sem]

set_option maxHeartbeats 1000000 in
theorem bsl_33_2_0_1 {e : Env} {x0 x1 : Operand} {n0 : Int} {n1 : Int} (h0 : ev e x0 = .int .i64 n0) (h1 : ev e x1 = .int .i64 n1) : ∀ w, (Instr.buildSlice 33 2 #[(0, ev e x0), (1, ev e x1)]).run Try.prog w = .ok (.slice (some ⟨w.heap.size, 0, none⟩) 2 2) (w.alloc (.cells ([.int .i64 n0, .int .i64 n1] : List Value).toArray 3)) := by
  intro w
  rw [h0, h1]
  simp [Instr.buildSlice, go_sem]

set_option maxHeartbeats 1000000 in
theorem bsl_36_1_0 {e : Env} {x0 : Operand} {v0_0 v0_1 v0_2 v0_3 : Value} (h0 : ev e x0 = .agg #[v0_0, v0_1, v0_2, v0_3]) : ∀ w, (Instr.buildSlice 36 1 #[(0, ev e x0)]).run Try.prog w = .ok (.slice (some ⟨w.heap.size, 0, none⟩) 1 1) (w.alloc (.cells ([v0_0, v0_1, v0_2, v0_3] : List Value).toArray 54)) := by
  intro w
  rw [h0]
  simp [Instr.buildSlice, go_sem]

set_option maxHeartbeats 1000000 in
theorem bsl_36_2_0_1 {e : Env} {x0 x1 : Operand} {v0_0 v0_1 v0_2 v0_3 : Value} {v1_0 v1_1 v1_2 v1_3 : Value} (h0 : ev e x0 = .agg #[v0_0, v0_1, v0_2, v0_3]) (h1 : ev e x1 = .agg #[v1_0, v1_1, v1_2, v1_3]) : ∀ w, (Instr.buildSlice 36 2 #[(0, ev e x0), (1, ev e x1)]).run Try.prog w = .ok (.slice (some ⟨w.heap.size, 0, none⟩) 2 2) (w.alloc (.cells ([v0_0, v0_1, v0_2, v0_3, v1_0, v1_1, v1_2, v1_3] : List Value).toArray 54)) := by
  intro w
  rw [h0, h1]
  simp [Instr.buildSlice, go_sem]

set_option maxHeartbeats 1000000 in
theorem bsl_43_1_0 {e : Env} {x0 : Operand} {v0_0 v0_1 : Value} (h0 : ev e x0 = .agg #[v0_0, v0_1]) : ∀ w, (Instr.buildSlice 43 1 #[(0, ev e x0)]).run Try.prog w = .ok (.slice (some ⟨w.heap.size, 0, none⟩) 1 1) (w.alloc (.cells ([v0_0, v0_1] : List Value).toArray 35)) := by
  intro w
  rw [h0]
  simp [Instr.buildSlice, go_sem]

set_option maxHeartbeats 1000000 in
theorem bsl_113_1_0 {e : Env} {x0 : Operand} {v0_0 v0_1 v0_2 v0_3 : Value} (h0 : ev e x0 = .agg #[v0_0, v0_1, v0_2, v0_3]) : ∀ w, (Instr.buildSlice 113 1 #[(0, ev e x0)]).run Try.prog w = .ok (.slice (some ⟨w.heap.size, 0, none⟩) 1 1) (w.alloc (.cells ([v0_0, v0_1, v0_2, v0_3] : List Value).toArray 117)) := by
  intro w
  rw [h0]
  simp [Instr.buildSlice, go_sem]

def funT : Nat → Bool
  | 3 => true
  | 4 => true
  | 5 => true
  | 6 => true
  | 7 => true
  | 8 => true
  | 9 => true
  | 10 => true
  | 11 => true
  | 12 => true
  | 13 => true
  | 14 => true
  | 15 => true
  | 16 => true
  | 17 => true
  | 18 => true
  | 19 => true
  | 20 => true
  | 21 => true
  | 22 => true
  | 23 => true
  | 24 => true
  | 25 => true
  | 26 => true
  | 27 => true
  | 28 => true
  | 29 => true
  | 30 => true
  | 31 => true
  | 32 => true
  | 33 => true
  | 34 => true
  | 35 => true
  | 36 => true
  | 37 => true
  | 38 => true
  | 39 => true
  | 40 => true
  | 41 => true
  | 42 => true
  | 43 => true
  | 44 => true
  | 45 => true
  | 46 => true
  | 47 => true
  | 48 => true
  | 49 => true
  | 50 => true
  | 51 => true
  | 52 => true
  | 53 => true
  | 54 => true
  | 55 => true
  | 56 => true
  | 57 => true
  | 58 => true
  | 59 => true
  | 60 => true
  | 61 => true
  | 62 => true
  | 63 => true
  | 64 => true
  | _ => false

set_option maxHeartbeats 2000000 in
theorem fun_run {f : Nat} (h : funT f = true) : ∀ (args : Array Value) (w : World), (callFunc f args).run Try.prog w = .ok (.enter f args) w := by
  unfold funT at h
  split at h <;> (try cases h)
  · exact Try.call3
  · exact Try.call4
  · exact Try.call5
  · exact Try.call6
  · exact Try.call7
  · exact Try.call8
  · exact Try.call9
  · exact Try.call10
  · exact Try.call11
  · exact Try.call12
  · exact Try.call13
  · exact Try.call14
  · exact Try.call15
  · exact Try.call16
  · exact Try.call17
  · exact Try.call18
  · exact Try.call19
  · exact Try.call20
  · exact Try.call21
  · exact Try.call22
  · exact Try.call23
  · exact Try.call24
  · exact Try.call25
  · exact Try.call26
  · exact Try.call27
  · exact Try.call28
  · exact Try.call29
  · exact Try.call30
  · exact Try.call31
  · exact Try.call32
  · exact Try.call33
  · exact Try.call34
  · exact Try.call35
  · exact Try.call36
  · exact Try.call37
  · exact Try.call38
  · exact Try.call39
  · exact Try.call40
  · exact Try.call41
  · exact Try.call42
  · exact Try.call43
  · exact Try.call44
  · exact Try.call45
  · exact Try.call46
  · exact Try.call47
  · exact Try.call48
  · exact Try.call49
  · exact Try.call50
  · exact Try.call51
  · exact Try.call52
  · exact Try.call53
  · exact Try.call54
  · exact Try.call55
  · exact Try.call56
  · exact Try.call57
  · exact Try.call58
  · exact Try.call59
  · exact Try.call60
  · exact Try.call61
  · exact Try.call62
  · exact Try.call63
  · exact Try.call64

theorem mixed : Try.prog.follows .mixedOrders = true := by kernel_rfl

end Go.Proofs.Ytcgicnfjcndedaa
