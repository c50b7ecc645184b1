/-
  The types and functions of this seat, as the walk wants them (written by a program from the translation).
-/
import Derived.Test.YtkfklebaeifdnaaProg
import Derived.Test.YtkfklebaeifdnaaMem
set_option linter.all false
namespace Go.Proofs.Ytkfklebaeifdnaa
open Go Go.W

def aggT : Nat → Option Bool
  | 2 => some false
  | 3 => some false
  | 4 => some false
  | 5 => some false
  | 6 => some false
  | 21 => some false
  | 22 => some false
  | 23 => some false
  | 24 => some false
  | 25 => some true
  | 26 => some true
  | 27 => some true
  | 28 => some true
  | 29 => some false
  | 30 => some false
  | 31 => some false
  | 32 => some false
  | 33 => some false
  | 34 => some false
  | 35 => some true
  | 36 => some true
  | 37 => some true
  | 38 => some true
  | 39 => some false
  | 41 => some false
  | 42 => some false
  | 43 => some false
  | 44 => some false
  | 45 => some false
  | 47 => some false
  | 48 => some false
  | 49 => some false
  | 50 => some false
  | 51 => some false
  | 53 => some false
  | 54 => some false
  | 55 => some false
  | 56 => some false
  | 57 => some false
  | 58 => some false
  | 59 => some false
  | 60 => some false
  | 61 => some false
  | 63 => some false
  | 64 => some false
  | 65 => some false
  | 66 => some false
  | 67 => some false
  | 68 => some true
  | 70 => some false
  | 71 => some false
  | 72 => some false
  | 73 => some false
  | 74 => some false
  | 75 => some false
  | 76 => some false
  | 77 => some false
  | 78 => some false
  | 79 => some false
  | 80 => some false
  | 81 => some false
  | 82 => some false
  | 83 => some false
  | 84 => some false
  | 85 => some false
  | 86 => some true
  | 87 => some true
  | 88 => some false
  | 89 => some false
  | 91 => some false
  | 92 => some false
  | 93 => some false
  | 94 => some false
  | 96 => some false
  | 97 => some false
  | 98 => some false
  | 99 => some false
  | 101 => some false
  | 102 => some false
  | 103 => some false
  | 104 => some false
  | 105 => some false
  | 106 => some false
  | 107 => some false
  | 108 => some false
  | 109 => some false
  | 110 => some false
  | 111 => some false
  | 112 => some false
  | 113 => some false
  | 114 => some false
  | 115 => some false
  | 117 => some false
  | 118 => some false
  | 119 => some true
  | 120 => some true
  | 121 => some true
  | 122 => some true
  | 123 => some true
  | 124 => some false
  | 125 => some false
  | 126 => some false
  | 127 => some false
  | 128 => some false
  | 129 => some false
  | 130 => some false
  | 131 => some true
  | 132 => some true
  | _ => none

set_option maxHeartbeats 2000000 in
theorem agg_run {t : Nat} {v : _} (h : aggT t = some v) : ∀ w, (isAgg t).run Try.prog w = .ok v w := by
  unfold aggT at h
  split at h <;> (try cases h)
  · exact Try.isAgg2
  · exact Try.isAgg3
  · exact Try.isAgg4
  · exact Try.isAgg5
  · exact Try.isAgg6
  · exact Try.isAgg21
  · exact Try.isAgg22
  · exact Try.isAgg23
  · exact Try.isAgg24
  · exact Try.isAgg25
  · exact Try.isAgg26
  · exact Try.isAgg27
  · exact Try.isAgg28
  · exact Try.isAgg29
  · exact Try.isAgg30
  · exact Try.isAgg31
  · exact Try.isAgg32
  · exact Try.isAgg33
  · exact Try.isAgg34
  · exact Try.isAgg35
  · exact Try.isAgg36
  · exact Try.isAgg37
  · exact Try.isAgg38
  · exact Try.isAgg39
  · exact Try.isAgg41
  · exact Try.isAgg42
  · exact Try.isAgg43
  · exact Try.isAgg44
  · exact Try.isAgg45
  · exact Try.isAgg47
  · exact Try.isAgg48
  · exact Try.isAgg49
  · exact Try.isAgg50
  · exact Try.isAgg51
  · exact Try.isAgg53
  · exact Try.isAgg54
  · exact Try.isAgg55
  · exact Try.isAgg56
  · exact Try.isAgg57
  · exact Try.isAgg58
  · exact Try.isAgg59
  · exact Try.isAgg60
  · exact Try.isAgg61
  · exact Try.isAgg63
  · exact Try.isAgg64
  · exact Try.isAgg65
  · exact Try.isAgg66
  · exact Try.isAgg67
  · exact Try.isAgg68
  · exact Try.isAgg70
  · exact Try.isAgg71
  · exact Try.isAgg72
  · exact Try.isAgg73
  · exact Try.isAgg74
  · exact Try.isAgg75
  · exact Try.isAgg76
  · exact Try.isAgg77
  · exact Try.isAgg78
  · exact Try.isAgg79
  · exact Try.isAgg80
  · exact Try.isAgg81
  · exact Try.isAgg82
  · exact Try.isAgg83
  · exact Try.isAgg84
  · exact Try.isAgg85
  · exact Try.isAgg86
  · exact Try.isAgg87
  · exact Try.isAgg88
  · exact Try.isAgg89
  · exact Try.isAgg91
  · exact Try.isAgg92
  · exact Try.isAgg93
  · exact Try.isAgg94
  · exact Try.isAgg96
  · exact Try.isAgg97
  · exact Try.isAgg98
  · exact Try.isAgg99
  · exact Try.isAgg101
  · exact Try.isAgg102
  · exact Try.isAgg103
  · exact Try.isAgg104
  · exact Try.isAgg105
  · exact Try.isAgg106
  · exact Try.isAgg107
  · exact Try.isAgg108
  · exact Try.isAgg109
  · exact Try.isAgg110
  · exact Try.isAgg111
  · exact Try.isAgg112
  · exact Try.isAgg113
  · exact Try.isAgg114
  · exact Try.isAgg115
  · exact Try.isAgg117
  · exact Try.isAgg118
  · exact Try.isAgg119
  · exact Try.isAgg120
  · exact Try.isAgg121
  · exact Try.isAgg122
  · exact Try.isAgg123
  · exact Try.isAgg124
  · exact Try.isAgg125
  · exact Try.isAgg126
  · exact Try.isAgg127
  · exact Try.isAgg128
  · exact Try.isAgg129
  · exact Try.isAgg130
  · exact Try.isAgg131
  · exact Try.isAgg132

def sizeT : Nat → Option Nat
  | 2 => some 1
  | 3 => some 1
  | 4 => some 1
  | 5 => some 1
  | 6 => some 1
  | 21 => some 1
  | 22 => some 1
  | 23 => some 1
  | 24 => some 1
  | 25 => some 2
  | 26 => some 2
  | 27 => some 6
  | 28 => some 6
  | 29 => some 1
  | 30 => some 1
  | 31 => some 1
  | 32 => some 1
  | 33 => some 1
  | 34 => some 1
  | 35 => some 2
  | 36 => some 2
  | 37 => some 5
  | 38 => some 5
  | 39 => some 1
  | 41 => some 1
  | 42 => some 1
  | 43 => some 1
  | 44 => some 1
  | 45 => some 1
  | 47 => some 1
  | 48 => some 1
  | 49 => some 1
  | 50 => some 1
  | 51 => some 1
  | 53 => some 1
  | 54 => some 1
  | 55 => some 1
  | 56 => some 1
  | 57 => some 1
  | 58 => some 1
  | 59 => some 1
  | 60 => some 1
  | 61 => some 1
  | 63 => some 1
  | 64 => some 1
  | 65 => some 1
  | 66 => some 1
  | 67 => some 1
  | 68 => some 4
  | 70 => some 1
  | 71 => some 1
  | 72 => some 1
  | 73 => some 1
  | 74 => some 1
  | 75 => some 1
  | 76 => some 1
  | 77 => some 1
  | 78 => some 1
  | 79 => some 1
  | 80 => some 1
  | 81 => some 1
  | 82 => some 1
  | 83 => some 1
  | 84 => some 1
  | 85 => some 1
  | 86 => some 4
  | 87 => some 4
  | 88 => some 1
  | 89 => some 1
  | 91 => some 1
  | 92 => some 1
  | 93 => some 1
  | 94 => some 1
  | 96 => some 1
  | 97 => some 1
  | 98 => some 1
  | 99 => some 1
  | 101 => some 1
  | 102 => some 1
  | 103 => some 1
  | 104 => some 1
  | 105 => some 1
  | 106 => some 1
  | 107 => some 1
  | 108 => some 1
  | 109 => some 1
  | 110 => some 1
  | 111 => some 1
  | 112 => some 1
  | 113 => some 1
  | 114 => some 1
  | 115 => some 1
  | 117 => some 1
  | 118 => some 1
  | 119 => some 4
  | 120 => some 4
  | 121 => some 0
  | 122 => some 0
  | 123 => some 0
  | 124 => some 1
  | 125 => some 1
  | 126 => some 1
  | 127 => some 1
  | 128 => some 1
  | 129 => some 1
  | 130 => some 1
  | 131 => some 11
  | 132 => some 11
  | _ => none

set_option maxHeartbeats 2000000 in
theorem size_run {t : Nat} {v : _} (h : sizeT t = some v) : ∀ w, (Go.sizeOf t).run Try.prog w = .ok v w := by
  unfold sizeT at h
  split at h <;> (try cases h)
  · exact Try.sizeOf2
  · exact Try.sizeOf3
  · exact Try.sizeOf4
  · exact Try.sizeOf5
  · exact Try.sizeOf6
  · exact Try.sizeOf21
  · exact Try.sizeOf22
  · exact Try.sizeOf23
  · exact Try.sizeOf24
  · exact Try.sizeOf25
  · exact Try.sizeOf26
  · exact Try.sizeOf27
  · exact Try.sizeOf28
  · exact Try.sizeOf29
  · exact Try.sizeOf30
  · exact Try.sizeOf31
  · exact Try.sizeOf32
  · exact Try.sizeOf33
  · exact Try.sizeOf34
  · exact Try.sizeOf35
  · exact Try.sizeOf36
  · exact Try.sizeOf37
  · exact Try.sizeOf38
  · exact Try.sizeOf39
  · exact Try.sizeOf41
  · exact Try.sizeOf42
  · exact Try.sizeOf43
  · exact Try.sizeOf44
  · exact Try.sizeOf45
  · exact Try.sizeOf47
  · exact Try.sizeOf48
  · exact Try.sizeOf49
  · exact Try.sizeOf50
  · exact Try.sizeOf51
  · exact Try.sizeOf53
  · exact Try.sizeOf54
  · exact Try.sizeOf55
  · exact Try.sizeOf56
  · exact Try.sizeOf57
  · exact Try.sizeOf58
  · exact Try.sizeOf59
  · exact Try.sizeOf60
  · exact Try.sizeOf61
  · exact Try.sizeOf63
  · exact Try.sizeOf64
  · exact Try.sizeOf65
  · exact Try.sizeOf66
  · exact Try.sizeOf67
  · exact Try.sizeOf68
  · exact Try.sizeOf70
  · exact Try.sizeOf71
  · exact Try.sizeOf72
  · exact Try.sizeOf73
  · exact Try.sizeOf74
  · exact Try.sizeOf75
  · exact Try.sizeOf76
  · exact Try.sizeOf77
  · exact Try.sizeOf78
  · exact Try.sizeOf79
  · exact Try.sizeOf80
  · exact Try.sizeOf81
  · exact Try.sizeOf82
  · exact Try.sizeOf83
  · exact Try.sizeOf84
  · exact Try.sizeOf85
  · exact Try.sizeOf86
  · exact Try.sizeOf87
  · exact Try.sizeOf88
  · exact Try.sizeOf89
  · exact Try.sizeOf91
  · exact Try.sizeOf92
  · exact Try.sizeOf93
  · exact Try.sizeOf94
  · exact Try.sizeOf96
  · exact Try.sizeOf97
  · exact Try.sizeOf98
  · exact Try.sizeOf99
  · exact Try.sizeOf101
  · exact Try.sizeOf102
  · exact Try.sizeOf103
  · exact Try.sizeOf104
  · exact Try.sizeOf105
  · exact Try.sizeOf106
  · exact Try.sizeOf107
  · exact Try.sizeOf108
  · exact Try.sizeOf109
  · exact Try.sizeOf110
  · exact Try.sizeOf111
  · exact Try.sizeOf112
  · exact Try.sizeOf113
  · exact Try.sizeOf114
  · exact Try.sizeOf115
  · exact Try.sizeOf117
  · exact Try.sizeOf118
  · exact Try.sizeOf119
  · exact Try.sizeOf120
  · exact Try.sizeOf121
  · exact Try.sizeOf122
  · exact Try.sizeOf123
  · exact Try.sizeOf124
  · exact Try.sizeOf125
  · exact Try.sizeOf126
  · exact Try.sizeOf127
  · exact Try.sizeOf128
  · exact Try.sizeOf129
  · exact Try.sizeOf130
  · exact Try.sizeOf131
  · exact Try.sizeOf132

def elT : Nat → Option Nat
  | 22 => some 28
  | 23 => some 36
  | 24 => some 36
  | 39 => some 3
  | 45 => some 26
  | 75 => some 87
  | _ => none

set_option maxHeartbeats 2000000 in
theorem el_run {t : Nat} {v : _} (h : elT t = some v) : ∀ w, (underlying t).run Try.prog w = .ok (.slice v) w := by
  unfold elT at h
  split at h <;> (try cases h)
  · exact Try.runUnderlying22
  · exact Try.runUnderlying23
  · exact Try.runUnderlying24
  · exact Try.runUnderlying39
  · exact Try.runUnderlying45
  · exact Try.runUnderlying75

def ikT : Nat → Option IntKind
  | 2 => some .i64
  | 3 => some .i64
  | 5 => some .u8
  | 6 => some .u8
  | 21 => some .i32
  | 31 => some .i64
  | 85 => some .u64
  | 94 => some .i64
  | 103 => some .u32
  | 105 => some .u64
  | 108 => some .u64
  | 125 => some .u8
  | 126 => some .u8
  | 129 => some .i32
  | 130 => some .i32
  | _ => none

set_option maxHeartbeats 2000000 in
theorem ik_run {t : Nat} {v : _} (h : ikT t = some v) : ∀ w, (underlying t).run Try.prog w = .ok (.int v) w := by
  unfold ikT at h
  split at h <;> (try cases h)
  · exact Try.runUnderlying2
  · exact Try.runUnderlying3
  · exact Try.runUnderlying5
  · exact Try.runUnderlying6
  · exact Try.runUnderlying21
  · exact Try.runUnderlying31
  · exact Try.runUnderlying85
  · exact Try.runUnderlying94
  · exact Try.runUnderlying103
  · exact Try.runUnderlying105
  · exact Try.runUnderlying108
  · exact Try.runUnderlying125
  · exact Try.runUnderlying126
  · exact Try.runUnderlying129
  · exact Try.runUnderlying130

def arrT : Nat → Option (Nat × Nat)
  | 68 => some (4, 3)
  | 121 => some (0, 16)
  | _ => none

set_option maxHeartbeats 2000000 in
theorem arr_run {t : Nat} {v : _} (h : arrT t = some v) : ∀ w, (underlying t).run Try.prog w = .ok (.array v.1 v.2) w := by
  unfold arrT at h
  split at h <;> (try cases h)
  · exact Try.runUnderlying68
  · exact Try.runUnderlying121

def zeroT : Nat → Option Value
  | 2 => some (.int .i64 0)
  | 3 => some (.int .i64 0)
  | 4 => some (.bool false)
  | 5 => some (.int .u8 0)
  | 6 => some (.int .u8 0)
  | 21 => some (.int .i32 0)
  | 22 => some (.slice none 0 0)
  | 23 => some (.slice none 0 0)
  | 24 => some (.slice none 0 0)
  | 25 => some (.agg #[.int .i64 0, .int .i64 0])
  | 26 => some (.agg #[.int .i64 0, .int .i64 0])
  | 27 => some (.agg #[.int .i64 0, .slice none 0 0, .int .i64 0, .int .i64 0, .int .i64 0, .int .i64 0])
  | 28 => some (.agg #[.int .i64 0, .slice none 0 0, .int .i64 0, .int .i64 0, .int .i64 0, .int .i64 0])
  | 29 => some (.nilFunc)
  | 30 => some (.nilFunc)
  | 31 => some (.int .i64 0)
  | 32 => some (.nilFunc)
  | 33 => some (.nilFunc)
  | 34 => some (.nilFunc)
  | 35 => some (.agg #[.int .i64 0, .int .i64 0])
  | 36 => some (.agg #[.int .i64 0, .int .i64 0])
  | 37 => some (.agg #[.int .i64 0, .int .i64 0, .int .i64 0, .int .i64 0, .int .i64 0])
  | 38 => some (.agg #[.int .i64 0, .int .i64 0, .int .i64 0, .int .i64 0, .int .i64 0])
  | 39 => some (.slice none 0 0)
  | 41 => some (.nilFunc)
  | 42 => some (.nilFunc)
  | 43 => some (.nilFunc)
  | 44 => some (.nilFunc)
  | 45 => some (.slice none 0 0)
  | 47 => some (.nilFunc)
  | 48 => some (.nilFunc)
  | 49 => some (.nilFunc)
  | 50 => some (.nilFunc)
  | 51 => some (.nilFunc)
  | 53 => some (.nilFunc)
  | 54 => some (.nilFunc)
  | 55 => some (.nilFunc)
  | 56 => some (.nilFunc)
  | 57 => some (.nilFunc)
  | 58 => some (.nilFunc)
  | 59 => some (.nilFunc)
  | 60 => some (.nilFunc)
  | 61 => some (.nilFunc)
  | 63 => some (.nilFunc)
  | 64 => some (.nilFunc)
  | 65 => some (.nilFunc)
  | 66 => some (.nilFunc)
  | 67 => some (.nilFunc)
  | 68 => some (.agg #[.int .i64 0, .int .i64 0, .int .i64 0, .int .i64 0])
  | 70 => some (.nilFunc)
  | 71 => some (.nilFunc)
  | 72 => some (.nilFunc)
  | 73 => some (.nilFunc)
  | 74 => some (.nilFunc)
  | 75 => some (.slice none 0 0)
  | 76 => some (.nilFunc)
  | 77 => some (.nilFunc)
  | 78 => some (.nilFunc)
  | 79 => some (.nilFunc)
  | 80 => some (.nilFunc)
  | 81 => some (.nilFunc)
  | 82 => some (.nilFunc)
  | 83 => some (.nilFunc)
  | 84 => some (.nilFunc)
  | 85 => some (.int .u64 0)
  | 86 => some (.agg #[.int .i64 0, .int .i64 0, .int .i64 0, .int .i64 0])
  | 87 => some (.agg #[.int .i64 0, .int .i64 0, .int .i64 0, .int .i64 0])
  | 88 => some (.nilFunc)
  | 89 => some (.nilFunc)
  | 91 => some (.nilFunc)
  | 92 => some (.nilFunc)
  | 93 => some (.nilFunc)
  | 94 => some (.int .i64 0)
  | 96 => some (.nilFunc)
  | 97 => some (.nilFunc)
  | 98 => some (.nilFunc)
  | 99 => some (.nilFunc)
  | 101 => some (.nilFunc)
  | 102 => some (.nilFunc)
  | 103 => some (.int .u32 0)
  | 104 => some (.nilFunc)
  | 105 => some (.int .u64 0)
  | 106 => some (.nilFunc)
  | 107 => some (.nilFunc)
  | 108 => some (.int .u64 0)
  | 109 => some (.nilFunc)
  | 110 => some (.nilFunc)
  | 111 => some (.nilFunc)
  | 112 => some (.pointer none)
  | 113 => some (.nilFunc)
  | 114 => some (.nilFunc)
  | 115 => some (.pointer none)
  | 117 => some (.nilFunc)
  | 118 => some (.nilFunc)
  | 121 => some (.agg #[])
  | 122 => some (.agg #[])
  | 123 => some (.agg #[])
  | 124 => some (.nilFunc)
  | 125 => some (.int .u8 0)
  | 126 => some (.int .u8 0)
  | 127 => some (.nilFunc)
  | 128 => some (.pointer none)
  | 129 => some (.int .i32 0)
  | 130 => some (.int .i32 0)
  | 131 => some (.agg #[.int .u64 0, .int .u64 0, .int .u32 0, .int .u8 0, .int .u8 0, .int .u8 0, .int .u8 0, .nilFunc, .pointer none, .int .i32 0, .int .i32 0])
  | 132 => some (.agg #[.int .u64 0, .int .u64 0, .int .u32 0, .int .u8 0, .int .u8 0, .int .u8 0, .int .u8 0, .nilFunc, .pointer none, .int .i32 0, .int .i32 0])
  | _ => none

set_option maxHeartbeats 2000000 in
theorem zero_run {t : Nat} {v : _} (h : zeroT t = some v) : ∀ w, (zeroValue t).run Try.prog w = .ok v w := by
  unfold zeroT at h
  split at h <;> (try cases h)
  · exact Try.zeroValue2
  · exact Try.zeroValue3
  · exact Try.zeroValue4
  · exact Try.zeroValue5
  · exact Try.zeroValue6
  · exact Try.zeroValue21
  · exact Try.zeroValue22
  · exact Try.zeroValue23
  · exact Try.zeroValue24
  · exact Try.zeroValue25
  · exact Try.zeroValue26
  · exact Try.zeroValue27
  · exact Try.zeroValue28
  · exact Try.zeroValue29
  · exact Try.zeroValue30
  · exact Try.zeroValue31
  · exact Try.zeroValue32
  · exact Try.zeroValue33
  · exact Try.zeroValue34
  · exact Try.zeroValue35
  · exact Try.zeroValue36
  · exact Try.zeroValue37
  · exact Try.zeroValue38
  · exact Try.zeroValue39
  · exact Try.zeroValue41
  · exact Try.zeroValue42
  · exact Try.zeroValue43
  · exact Try.zeroValue44
  · exact Try.zeroValue45
  · exact Try.zeroValue47
  · exact Try.zeroValue48
  · exact Try.zeroValue49
  · exact Try.zeroValue50
  · exact Try.zeroValue51
  · exact Try.zeroValue53
  · exact Try.zeroValue54
  · exact Try.zeroValue55
  · exact Try.zeroValue56
  · exact Try.zeroValue57
  · exact Try.zeroValue58
  · exact Try.zeroValue59
  · exact Try.zeroValue60
  · exact Try.zeroValue61
  · exact Try.zeroValue63
  · exact Try.zeroValue64
  · exact Try.zeroValue65
  · exact Try.zeroValue66
  · exact Try.zeroValue67
  · exact Try.zeroValue68
  · exact Try.zeroValue70
  · exact Try.zeroValue71
  · exact Try.zeroValue72
  · exact Try.zeroValue73
  · exact Try.zeroValue74
  · exact Try.zeroValue75
  · exact Try.zeroValue76
  · exact Try.zeroValue77
  · exact Try.zeroValue78
  · exact Try.zeroValue79
  · exact Try.zeroValue80
  · exact Try.zeroValue81
  · exact Try.zeroValue82
  · exact Try.zeroValue83
  · exact Try.zeroValue84
  · exact Try.zeroValue85
  · exact Try.zeroValue86
  · exact Try.zeroValue87
  · exact Try.zeroValue88
  · exact Try.zeroValue89
  · exact Try.zeroValue91
  · exact Try.zeroValue92
  · exact Try.zeroValue93
  · exact Try.zeroValue94
  · exact Try.zeroValue96
  · exact Try.zeroValue97
  · exact Try.zeroValue98
  · exact Try.zeroValue99
  · exact Try.zeroValue101
  · exact Try.zeroValue102
  · exact Try.zeroValue103
  · exact Try.zeroValue104
  · exact Try.zeroValue105
  · exact Try.zeroValue106
  · exact Try.zeroValue107
  · exact Try.zeroValue108
  · exact Try.zeroValue109
  · exact Try.zeroValue110
  · exact Try.zeroValue111
  · exact Try.zeroValue112
  · exact Try.zeroValue113
  · exact Try.zeroValue114
  · exact Try.zeroValue115
  · exact Try.zeroValue117
  · exact Try.zeroValue118
  · exact Try.zeroValue121
  · exact Try.zeroValue122
  · exact Try.zeroValue123
  · exact Try.zeroValue124
  · exact Try.zeroValue125
  · exact Try.zeroValue126
  · exact Try.zeroValue127
  · exact Try.zeroValue128
  · exact Try.zeroValue129
  · exact Try.zeroValue130
  · exact Try.zeroValue131
  · exact Try.zeroValue132

def bytT : Nat → Option (Nat × Nat)
  | 2 => some (1, 8)
  | 3 => some (1, 8)
  | 4 => some (1, 1)
  | 5 => some (1, 1)
  | 6 => some (1, 1)
  | 21 => some (1, 4)
  | 22 => some (1, 24)
  | 23 => some (1, 24)
  | 24 => some (1, 24)
  | 25 => some (2, 16)
  | 26 => some (2, 16)
  | 27 => some (6, 64)
  | 28 => some (6, 64)
  | 29 => some (1, 8)
  | 30 => some (1, 8)
  | 31 => some (1, 8)
  | 32 => some (1, 8)
  | 33 => some (1, 8)
  | 34 => some (1, 8)
  | 35 => some (2, 16)
  | 36 => some (2, 16)
  | 37 => some (5, 40)
  | 38 => some (5, 40)
  | 39 => some (1, 24)
  | 41 => some (1, 8)
  | 42 => some (1, 8)
  | 43 => some (1, 8)
  | 44 => some (1, 8)
  | 45 => some (1, 24)
  | 47 => some (1, 8)
  | 48 => some (1, 8)
  | 49 => some (1, 8)
  | 50 => some (1, 8)
  | 51 => some (1, 8)
  | 53 => some (1, 8)
  | 54 => some (1, 8)
  | 55 => some (1, 8)
  | 56 => some (1, 8)
  | 57 => some (1, 8)
  | 58 => some (1, 8)
  | 59 => some (1, 8)
  | 60 => some (1, 8)
  | 61 => some (1, 8)
  | 63 => some (1, 8)
  | 64 => some (1, 8)
  | 65 => some (1, 8)
  | 66 => some (1, 8)
  | 67 => some (1, 8)
  | 68 => some (4, 32)
  | 70 => some (1, 8)
  | 71 => some (1, 8)
  | 72 => some (1, 8)
  | 73 => some (1, 8)
  | 74 => some (1, 8)
  | 75 => some (1, 24)
  | 76 => some (1, 8)
  | 77 => some (1, 8)
  | 78 => some (1, 8)
  | 79 => some (1, 8)
  | 80 => some (1, 8)
  | 81 => some (1, 8)
  | 82 => some (1, 8)
  | 83 => some (1, 8)
  | 84 => some (1, 8)
  | 85 => some (1, 8)
  | 86 => some (4, 32)
  | 87 => some (4, 32)
  | 88 => some (1, 8)
  | 89 => some (1, 8)
  | 91 => some (1, 8)
  | 92 => some (1, 8)
  | 93 => some (1, 8)
  | 94 => some (1, 8)
  | 96 => some (1, 8)
  | 97 => some (1, 8)
  | 98 => some (1, 8)
  | 99 => some (1, 8)
  | 101 => some (1, 8)
  | 102 => some (1, 8)
  | 103 => some (1, 4)
  | 104 => some (1, 8)
  | 105 => some (1, 8)
  | 106 => some (1, 8)
  | 107 => some (1, 8)
  | 108 => some (1, 8)
  | 109 => some (1, 8)
  | 110 => some (1, 8)
  | 111 => some (1, 8)
  | 112 => some (1, 8)
  | 113 => some (1, 8)
  | 114 => some (1, 8)
  | 115 => some (1, 8)
  | 117 => some (1, 8)
  | 118 => some (1, 8)
  | 119 => some (4, 40)
  | 120 => some (4, 40)
  | 121 => some (0, 0)
  | 122 => some (0, 0)
  | 123 => some (0, 0)
  | 124 => some (1, 8)
  | 125 => some (1, 1)
  | 126 => some (1, 1)
  | 127 => some (1, 8)
  | 128 => some (1, 8)
  | 129 => some (1, 4)
  | 130 => some (1, 4)
  | 131 => some (11, 48)
  | 132 => some (11, 48)
  | _ => none

set_option maxHeartbeats 2000000 in
theorem byt_run {t : Nat} {v : _} (h : bytT t = some v) : ∃ i, (∀ w, (typeInfo t).run Try.prog w = .ok i w) ∧ i.size = v.1 ∧ i.bytes = v.2 := by
  unfold bytT at h
  split at h <;> (try cases h)
  · exact ⟨_, Try.typeInfo2, rfl, rfl⟩
  · exact ⟨_, Try.typeInfo3, rfl, rfl⟩
  · exact ⟨_, Try.typeInfo4, rfl, rfl⟩
  · exact ⟨_, Try.typeInfo5, rfl, rfl⟩
  · exact ⟨_, Try.typeInfo6, rfl, rfl⟩
  · exact ⟨_, Try.typeInfo21, rfl, rfl⟩
  · exact ⟨_, Try.typeInfo22, rfl, rfl⟩
  · exact ⟨_, Try.typeInfo23, rfl, rfl⟩
  · exact ⟨_, Try.typeInfo24, rfl, rfl⟩
  · exact ⟨_, Try.typeInfo25, rfl, rfl⟩
  · exact ⟨_, Try.typeInfo26, rfl, rfl⟩
  · exact ⟨_, Try.typeInfo27, rfl, rfl⟩
  · exact ⟨_, Try.typeInfo28, rfl, rfl⟩
  · exact ⟨_, Try.typeInfo29, rfl, rfl⟩
  · exact ⟨_, Try.typeInfo30, rfl, rfl⟩
  · exact ⟨_, Try.typeInfo31, rfl, rfl⟩
  · exact ⟨_, Try.typeInfo32, rfl, rfl⟩
  · exact ⟨_, Try.typeInfo33, rfl, rfl⟩
  · exact ⟨_, Try.typeInfo34, rfl, rfl⟩
  · exact ⟨_, Try.typeInfo35, rfl, rfl⟩
  · exact ⟨_, Try.typeInfo36, rfl, rfl⟩
  · exact ⟨_, Try.typeInfo37, rfl, rfl⟩
  · exact ⟨_, Try.typeInfo38, rfl, rfl⟩
  · exact ⟨_, Try.typeInfo39, rfl, rfl⟩
  · exact ⟨_, Try.typeInfo41, rfl, rfl⟩
  · exact ⟨_, Try.typeInfo42, rfl, rfl⟩
  · exact ⟨_, Try.typeInfo43, rfl, rfl⟩
  · exact ⟨_, Try.typeInfo44, rfl, rfl⟩
  · exact ⟨_, Try.typeInfo45, rfl, rfl⟩
  · exact ⟨_, Try.typeInfo47, rfl, rfl⟩
  · exact ⟨_, Try.typeInfo48, rfl, rfl⟩
  · exact ⟨_, Try.typeInfo49, rfl, rfl⟩
  · exact ⟨_, Try.typeInfo50, rfl, rfl⟩
  · exact ⟨_, Try.typeInfo51, rfl, rfl⟩
  · exact ⟨_, Try.typeInfo53, rfl, rfl⟩
  · exact ⟨_, Try.typeInfo54, rfl, rfl⟩
  · exact ⟨_, Try.typeInfo55, rfl, rfl⟩
  · exact ⟨_, Try.typeInfo56, rfl, rfl⟩
  · exact ⟨_, Try.typeInfo57, rfl, rfl⟩
  · exact ⟨_, Try.typeInfo58, rfl, rfl⟩
  · exact ⟨_, Try.typeInfo59, rfl, rfl⟩
  · exact ⟨_, Try.typeInfo60, rfl, rfl⟩
  · exact ⟨_, Try.typeInfo61, rfl, rfl⟩
  · exact ⟨_, Try.typeInfo63, rfl, rfl⟩
  · exact ⟨_, Try.typeInfo64, rfl, rfl⟩
  · exact ⟨_, Try.typeInfo65, rfl, rfl⟩
  · exact ⟨_, Try.typeInfo66, rfl, rfl⟩
  · exact ⟨_, Try.typeInfo67, rfl, rfl⟩
  · exact ⟨_, Try.typeInfo68, rfl, rfl⟩
  · exact ⟨_, Try.typeInfo70, rfl, rfl⟩
  · exact ⟨_, Try.typeInfo71, rfl, rfl⟩
  · exact ⟨_, Try.typeInfo72, rfl, rfl⟩
  · exact ⟨_, Try.typeInfo73, rfl, rfl⟩
  · exact ⟨_, Try.typeInfo74, rfl, rfl⟩
  · exact ⟨_, Try.typeInfo75, rfl, rfl⟩
  · exact ⟨_, Try.typeInfo76, rfl, rfl⟩
  · exact ⟨_, Try.typeInfo77, rfl, rfl⟩
  · exact ⟨_, Try.typeInfo78, rfl, rfl⟩
  · exact ⟨_, Try.typeInfo79, rfl, rfl⟩
  · exact ⟨_, Try.typeInfo80, rfl, rfl⟩
  · exact ⟨_, Try.typeInfo81, rfl, rfl⟩
  · exact ⟨_, Try.typeInfo82, rfl, rfl⟩
  · exact ⟨_, Try.typeInfo83, rfl, rfl⟩
  · exact ⟨_, Try.typeInfo84, rfl, rfl⟩
  · exact ⟨_, Try.typeInfo85, rfl, rfl⟩
  · exact ⟨_, Try.typeInfo86, rfl, rfl⟩
  · exact ⟨_, Try.typeInfo87, rfl, rfl⟩
  · exact ⟨_, Try.typeInfo88, rfl, rfl⟩
  · exact ⟨_, Try.typeInfo89, rfl, rfl⟩
  · exact ⟨_, Try.typeInfo91, rfl, rfl⟩
  · exact ⟨_, Try.typeInfo92, rfl, rfl⟩
  · exact ⟨_, Try.typeInfo93, rfl, rfl⟩
  · exact ⟨_, Try.typeInfo94, rfl, rfl⟩
  · exact ⟨_, Try.typeInfo96, rfl, rfl⟩
  · exact ⟨_, Try.typeInfo97, rfl, rfl⟩
  · exact ⟨_, Try.typeInfo98, rfl, rfl⟩
  · exact ⟨_, Try.typeInfo99, rfl, rfl⟩
  · exact ⟨_, Try.typeInfo101, rfl, rfl⟩
  · exact ⟨_, Try.typeInfo102, rfl, rfl⟩
  · exact ⟨_, Try.typeInfo103, rfl, rfl⟩
  · exact ⟨_, Try.typeInfo104, rfl, rfl⟩
  · exact ⟨_, Try.typeInfo105, rfl, rfl⟩
  · exact ⟨_, Try.typeInfo106, rfl, rfl⟩
  · exact ⟨_, Try.typeInfo107, rfl, rfl⟩
  · exact ⟨_, Try.typeInfo108, rfl, rfl⟩
  · exact ⟨_, Try.typeInfo109, rfl, rfl⟩
  · exact ⟨_, Try.typeInfo110, rfl, rfl⟩
  · exact ⟨_, Try.typeInfo111, rfl, rfl⟩
  · exact ⟨_, Try.typeInfo112, rfl, rfl⟩
  · exact ⟨_, Try.typeInfo113, rfl, rfl⟩
  · exact ⟨_, Try.typeInfo114, rfl, rfl⟩
  · exact ⟨_, Try.typeInfo115, rfl, rfl⟩
  · exact ⟨_, Try.typeInfo117, rfl, rfl⟩
  · exact ⟨_, Try.typeInfo118, rfl, rfl⟩
  · exact ⟨_, Try.typeInfo119, rfl, rfl⟩
  · exact ⟨_, Try.typeInfo120, rfl, rfl⟩
  · exact ⟨_, Try.typeInfo121, rfl, rfl⟩
  · exact ⟨_, Try.typeInfo122, rfl, rfl⟩
  · exact ⟨_, Try.typeInfo123, rfl, rfl⟩
  · exact ⟨_, Try.typeInfo124, rfl, rfl⟩
  · exact ⟨_, Try.typeInfo125, rfl, rfl⟩
  · exact ⟨_, Try.typeInfo126, rfl, rfl⟩
  · exact ⟨_, Try.typeInfo127, rfl, rfl⟩
  · exact ⟨_, Try.typeInfo128, rfl, rfl⟩
  · exact ⟨_, Try.typeInfo129, rfl, rfl⟩
  · exact ⟨_, Try.typeInfo130, rfl, rfl⟩
  · exact ⟨_, Try.typeInfo131, rfl, rfl⟩
  · exact ⟨_, Try.typeInfo132, rfl, rfl⟩

def fldT26 : Nat → Option Nat
  | 0 => some 0
  | 1 => some 1
  | _ => none

def fldT28 : Nat → Option Nat
  | 0 => some 0
  | 1 => some 1
  | 2 => some 2
  | 3 => some 4
  | _ => none

def fldT36 : Nat → Option Nat
  | 0 => some 0
  | 1 => some 1
  | _ => none

def fldT38 : Nat → Option Nat
  | 0 => some 0
  | 1 => some 1
  | 2 => some 3
  | 3 => some 4
  | _ => none

def fldT87 : Nat → Option Nat
  | 0 => some 0
  | 1 => some 2
  | _ => none

def fldT120 : Nat → Option Nat
  | 0 => some 0
  | 1 => some 1
  | 2 => some 2
  | 3 => some 3
  | _ => none

def fldT132 : Nat → Option Nat
  | 0 => some 0
  | 1 => some 1
  | 2 => some 2
  | 3 => some 3
  | 4 => some 4
  | 5 => some 5
  | 6 => some 6
  | 7 => some 7
  | 8 => some 8
  | 9 => some 9
  | 10 => some 10
  | _ => none

def fldT : Nat → Nat → Option Nat
  | 26, j => fldT26 j
  | 28, j => fldT28 j
  | 36, j => fldT36 j
  | 38, j => fldT38 j
  | 87, j => fldT87 j
  | 120, j => fldT120 j
  | 132, j => fldT132 j
  | _, _ => none

theorem fld_26_0 : ∀ b o w, (Instr.fieldAt 26 (.pointer (some ⟨b, o, none⟩)) 0).run Try.prog w = .ok (.pointer (some ⟨b, o + 0, none⟩)) w := fieldAt_run Try.runUnderlying26 rfl Try.sizeOf3 rfl rfl
theorem fld_26_1 : ∀ b o w, (Instr.fieldAt 26 (.pointer (some ⟨b, o, none⟩)) 1).run Try.prog w = .ok (.pointer (some ⟨b, o + 1, none⟩)) w := fieldAt_run Try.runUnderlying26 rfl Try.sizeOf3 rfl rfl
theorem fld_28_0 : ∀ b o w, (Instr.fieldAt 28 (.pointer (some ⟨b, o, none⟩)) 0).run Try.prog w = .ok (.pointer (some ⟨b, o + 0, none⟩)) w := fieldAt_run Try.runUnderlying28 rfl Try.sizeOf3 rfl rfl
theorem fld_28_1 : ∀ b o w, (Instr.fieldAt 28 (.pointer (some ⟨b, o, none⟩)) 1).run Try.prog w = .ok (.pointer (some ⟨b, o + 1, none⟩)) w := fieldAt_run Try.runUnderlying28 rfl Try.sizeOf24 rfl rfl
theorem fld_28_2 : ∀ b o w, (Instr.fieldAt 28 (.pointer (some ⟨b, o, none⟩)) 2).run Try.prog w = .ok (.pointer (some ⟨b, o + 2, none⟩)) w := fieldAt_run Try.runUnderlying28 rfl Try.sizeOf26 rfl rfl
theorem fld_28_3 : ∀ b o w, (Instr.fieldAt 28 (.pointer (some ⟨b, o, none⟩)) 3).run Try.prog w = .ok (.pointer (some ⟨b, o + 4, none⟩)) w := fieldAt_run Try.runUnderlying28 rfl Try.sizeOf26 rfl rfl
theorem fld_36_0 : ∀ b o w, (Instr.fieldAt 36 (.pointer (some ⟨b, o, none⟩)) 0).run Try.prog w = .ok (.pointer (some ⟨b, o + 0, none⟩)) w := fieldAt_run Try.runUnderlying36 rfl Try.sizeOf3 rfl rfl
theorem fld_36_1 : ∀ b o w, (Instr.fieldAt 36 (.pointer (some ⟨b, o, none⟩)) 1).run Try.prog w = .ok (.pointer (some ⟨b, o + 1, none⟩)) w := fieldAt_run Try.runUnderlying36 rfl Try.sizeOf3 rfl rfl
theorem fld_38_0 : ∀ b o w, (Instr.fieldAt 38 (.pointer (some ⟨b, o, none⟩)) 0).run Try.prog w = .ok (.pointer (some ⟨b, o + 0, none⟩)) w := fieldAt_run Try.runUnderlying38 rfl Try.sizeOf3 rfl rfl
theorem fld_38_1 : ∀ b o w, (Instr.fieldAt 38 (.pointer (some ⟨b, o, none⟩)) 1).run Try.prog w = .ok (.pointer (some ⟨b, o + 1, none⟩)) w := fieldAt_run Try.runUnderlying38 rfl Try.sizeOf36 rfl rfl
theorem fld_38_2 : ∀ b o w, (Instr.fieldAt 38 (.pointer (some ⟨b, o, none⟩)) 2).run Try.prog w = .ok (.pointer (some ⟨b, o + 3, none⟩)) w := fieldAt_run Try.runUnderlying38 rfl Try.sizeOf3 rfl rfl
theorem fld_38_3 : ∀ b o w, (Instr.fieldAt 38 (.pointer (some ⟨b, o, none⟩)) 3).run Try.prog w = .ok (.pointer (some ⟨b, o + 4, none⟩)) w := fieldAt_run Try.runUnderlying38 rfl Try.sizeOf3 rfl rfl
theorem fld_87_0 : ∀ b o w, (Instr.fieldAt 87 (.pointer (some ⟨b, o, none⟩)) 0).run Try.prog w = .ok (.pointer (some ⟨b, o + 0, none⟩)) w := fieldAt_run Try.runUnderlying87 rfl Try.sizeOf36 rfl rfl
theorem fld_87_1 : ∀ b o w, (Instr.fieldAt 87 (.pointer (some ⟨b, o, none⟩)) 1).run Try.prog w = .ok (.pointer (some ⟨b, o + 2, none⟩)) w := fieldAt_run Try.runUnderlying87 rfl Try.sizeOf36 rfl rfl
theorem fld_120_0 : ∀ b o w, (Instr.fieldAt 120 (.pointer (some ⟨b, o, none⟩)) 0).run Try.prog w = .ok (.pointer (some ⟨b, o + 0, none⟩)) w := fieldAt_run Try.runUnderlying120 rfl Try.sizeOf17 rfl rfl
theorem fld_120_1 : ∀ b o w, (Instr.fieldAt 120 (.pointer (some ⟨b, o, none⟩)) 1).run Try.prog w = .ok (.pointer (some ⟨b, o + 1, none⟩)) w := fieldAt_run Try.runUnderlying120 rfl Try.sizeOf17 rfl rfl
theorem fld_120_2 : ∀ b o w, (Instr.fieldAt 120 (.pointer (some ⟨b, o, none⟩)) 2).run Try.prog w = .ok (.pointer (some ⟨b, o + 2, none⟩)) w := fieldAt_run Try.runUnderlying120 rfl Try.sizeOf17 rfl rfl
theorem fld_120_3 : ∀ b o w, (Instr.fieldAt 120 (.pointer (some ⟨b, o, none⟩)) 3).run Try.prog w = .ok (.pointer (some ⟨b, o + 3, none⟩)) w := fieldAt_run Try.runUnderlying120 rfl Try.sizeOf9 rfl rfl
theorem fld_132_0 : ∀ b o w, (Instr.fieldAt 132 (.pointer (some ⟨b, o, none⟩)) 0).run Try.prog w = .ok (.pointer (some ⟨b, o + 0, none⟩)) w := fieldAt_run Try.runUnderlying132 rfl Try.sizeOf12 rfl rfl
theorem fld_132_1 : ∀ b o w, (Instr.fieldAt 132 (.pointer (some ⟨b, o, none⟩)) 1).run Try.prog w = .ok (.pointer (some ⟨b, o + 1, none⟩)) w := fieldAt_run Try.runUnderlying132 rfl Try.sizeOf12 rfl rfl
theorem fld_132_2 : ∀ b o w, (Instr.fieldAt 132 (.pointer (some ⟨b, o, none⟩)) 2).run Try.prog w = .ok (.pointer (some ⟨b, o + 2, none⟩)) w := fieldAt_run Try.runUnderlying132 rfl Try.sizeOf103 rfl rfl
theorem fld_132_3 : ∀ b o w, (Instr.fieldAt 132 (.pointer (some ⟨b, o, none⟩)) 3).run Try.prog w = .ok (.pointer (some ⟨b, o + 3, none⟩)) w := fieldAt_run Try.runUnderlying132 rfl Try.sizeOf125 rfl rfl
theorem fld_132_4 : ∀ b o w, (Instr.fieldAt 132 (.pointer (some ⟨b, o, none⟩)) 4).run Try.prog w = .ok (.pointer (some ⟨b, o + 4, none⟩)) w := fieldAt_run Try.runUnderlying132 rfl Try.sizeOf5 rfl rfl
theorem fld_132_5 : ∀ b o w, (Instr.fieldAt 132 (.pointer (some ⟨b, o, none⟩)) 5).run Try.prog w = .ok (.pointer (some ⟨b, o + 5, none⟩)) w := fieldAt_run Try.runUnderlying132 rfl Try.sizeOf5 rfl rfl
theorem fld_132_6 : ∀ b o w, (Instr.fieldAt 132 (.pointer (some ⟨b, o, none⟩)) 6).run Try.prog w = .ok (.pointer (some ⟨b, o + 6, none⟩)) w := fieldAt_run Try.runUnderlying132 rfl Try.sizeOf126 rfl rfl
theorem fld_132_7 : ∀ b o w, (Instr.fieldAt 132 (.pointer (some ⟨b, o, none⟩)) 7).run Try.prog w = .ok (.pointer (some ⟨b, o + 7, none⟩)) w := fieldAt_run Try.runUnderlying132 rfl Try.sizeOf127 rfl rfl
theorem fld_132_8 : ∀ b o w, (Instr.fieldAt 132 (.pointer (some ⟨b, o, none⟩)) 8).run Try.prog w = .ok (.pointer (some ⟨b, o + 8, none⟩)) w := fieldAt_run Try.runUnderlying132 rfl Try.sizeOf128 rfl rfl
theorem fld_132_9 : ∀ b o w, (Instr.fieldAt 132 (.pointer (some ⟨b, o, none⟩)) 9).run Try.prog w = .ok (.pointer (some ⟨b, o + 9, none⟩)) w := fieldAt_run Try.runUnderlying132 rfl Try.sizeOf129 rfl rfl
theorem fld_132_10 : ∀ b o w, (Instr.fieldAt 132 (.pointer (some ⟨b, o, none⟩)) 10).run Try.prog w = .ok (.pointer (some ⟨b, o + 10, none⟩)) w := fieldAt_run Try.runUnderlying132 rfl Try.sizeOf130 rfl rfl
theorem fldr_26 {k off : Nat} (h : fldT26 k = some off) : ∀ b o w, (Instr.fieldAt 26 (.pointer (some ⟨b, o, none⟩)) k).run Try.prog w = .ok (.pointer (some ⟨b, o + off, none⟩)) w := by
  unfold fldT26 at h
  split at h <;> (try cases h)
  · exact fld_26_0
  · exact fld_26_1

theorem fldr_28 {k off : Nat} (h : fldT28 k = some off) : ∀ b o w, (Instr.fieldAt 28 (.pointer (some ⟨b, o, none⟩)) k).run Try.prog w = .ok (.pointer (some ⟨b, o + off, none⟩)) w := by
  unfold fldT28 at h
  split at h <;> (try cases h)
  · exact fld_28_0
  · exact fld_28_1
  · exact fld_28_2
  · exact fld_28_3

theorem fldr_36 {k off : Nat} (h : fldT36 k = some off) : ∀ b o w, (Instr.fieldAt 36 (.pointer (some ⟨b, o, none⟩)) k).run Try.prog w = .ok (.pointer (some ⟨b, o + off, none⟩)) w := by
  unfold fldT36 at h
  split at h <;> (try cases h)
  · exact fld_36_0
  · exact fld_36_1

theorem fldr_38 {k off : Nat} (h : fldT38 k = some off) : ∀ b o w, (Instr.fieldAt 38 (.pointer (some ⟨b, o, none⟩)) k).run Try.prog w = .ok (.pointer (some ⟨b, o + off, none⟩)) w := by
  unfold fldT38 at h
  split at h <;> (try cases h)
  · exact fld_38_0
  · exact fld_38_1
  · exact fld_38_2
  · exact fld_38_3

theorem fldr_87 {k off : Nat} (h : fldT87 k = some off) : ∀ b o w, (Instr.fieldAt 87 (.pointer (some ⟨b, o, none⟩)) k).run Try.prog w = .ok (.pointer (some ⟨b, o + off, none⟩)) w := by
  unfold fldT87 at h
  split at h <;> (try cases h)
  · exact fld_87_0
  · exact fld_87_1

theorem fldr_120 {k off : Nat} (h : fldT120 k = some off) : ∀ b o w, (Instr.fieldAt 120 (.pointer (some ⟨b, o, none⟩)) k).run Try.prog w = .ok (.pointer (some ⟨b, o + off, none⟩)) w := by
  unfold fldT120 at h
  split at h <;> (try cases h)
  · exact fld_120_0
  · exact fld_120_1
  · exact fld_120_2
  · exact fld_120_3

theorem fldr_132 {k off : Nat} (h : fldT132 k = some off) : ∀ b o w, (Instr.fieldAt 132 (.pointer (some ⟨b, o, none⟩)) k).run Try.prog w = .ok (.pointer (some ⟨b, o + off, none⟩)) w := by
  unfold fldT132 at h
  split at h <;> (try cases h)
  · exact fld_132_0
  · exact fld_132_1
  · exact fld_132_2
  · exact fld_132_3
  · exact fld_132_4
  · exact fld_132_5
  · exact fld_132_6
  · exact fld_132_7
  · exact fld_132_8
  · exact fld_132_9
  · exact fld_132_10

set_option maxHeartbeats 2000000 in
theorem fld_run {s k off : Nat} (h : fldT s k = some off) : ∀ b o w, (Instr.fieldAt s (.pointer (some ⟨b, o, none⟩)) k).run Try.prog w = .ok (.pointer (some ⟨b, o + off, none⟩)) w := by
  unfold fldT at h
  split at h
  · exact fldr_26 h
  · exact fldr_28 h
  · exact fldr_36 h
  · exact fldr_38 h
  · exact fldr_87 h
  · exact fldr_120 h
  · exact fldr_132 h
  · cases h

theorem sl_22 : SlFact Try.prog 22 28 6 64 [.int .i64 0, .slice none 0 0, .int .i64 0, .int .i64 0, .int .i64 0, .int .i64 0] := SlFact.mk' (z := .agg #[.int .i64 0, .slice none 0 0, .int .i64 0, .int .i64 0, .int .i64 0, .int .i64 0]) Try.underlying22 (by kernel_rfl) rfl rfl (by decide)
theorem sl_23 : SlFact Try.prog 23 36 2 16 [.int .i64 0, .int .i64 0] := SlFact.mk' (z := .agg #[.int .i64 0, .int .i64 0]) Try.underlying23 (by kernel_rfl) rfl rfl (by decide)
theorem sl_24 : SlFact Try.prog 24 36 2 16 [.int .i64 0, .int .i64 0] := SlFact.mk' (z := .agg #[.int .i64 0, .int .i64 0]) Try.underlying24 (by kernel_rfl) rfl rfl (by decide)
theorem sl_39 : SlFact Try.prog 39 3 1 8 [.int .i64 0] := SlFact.mk' (z := .int .i64 0) Try.underlying39 (by kernel_rfl) rfl rfl (by decide)
theorem sl_45 : SlFact Try.prog 45 26 2 16 [.int .i64 0, .int .i64 0] := SlFact.mk' (z := .agg #[.int .i64 0, .int .i64 0]) Try.underlying45 (by kernel_rfl) rfl rfl (by decide)
theorem sl_75 : SlFact Try.prog 75 87 4 32 [.int .i64 0, .int .i64 0, .int .i64 0, .int .i64 0] := SlFact.mk' (z := .agg #[.int .i64 0, .int .i64 0, .int .i64 0, .int .i64 0]) Try.underlying75 (by kernel_rfl) rfl rfl (by decide)
def slT : Nat → Option (Nat × Nat × Nat × List Value)
  | 22 => some (28, 6, 64, [.int .i64 0, .slice none 0 0, .int .i64 0, .int .i64 0, .int .i64 0, .int .i64 0])
  | 23 => some (36, 2, 16, [.int .i64 0, .int .i64 0])
  | 24 => some (36, 2, 16, [.int .i64 0, .int .i64 0])
  | 39 => some (3, 1, 8, [.int .i64 0])
  | 45 => some (26, 2, 16, [.int .i64 0, .int .i64 0])
  | 75 => some (87, 4, 32, [.int .i64 0, .int .i64 0, .int .i64 0, .int .i64 0])
  | _ => none

theorem sl_run {t el sz bt : Nat} {zs : List Value} (h : slT t = some (el, sz, bt, zs)) : SlFact Try.prog t el sz bt zs := by
  unfold slT at h
  split at h <;> (try cases h)
  · exact sl_22
  · exact sl_23
  · exact sl_24
  · exact sl_39
  · exact sl_45
  · exact sl_75

set_option maxHeartbeats 1000000 in
theorem bld_26_0_1 {e : Env} {x0 x1 : Operand} {n0 : Int} {n1 : Int} (h0 : ev e x0 = .int .i64 n0) (h1 : ev e x1 = .int .i64 n1) : ∀ w, (Instr.build 26 #[(0, ev e x0), (1, ev e x1)]).run Try.prog w = .ok (.agg #[.int .i64 n0, .int .i64 n1]) w := by
  intro w
  rw [h0, h1]
  simp [Instr.build, go_sem]

set_option maxHeartbeats 1000000 in
theorem bld_26_1 {e : Env} {x0 : Operand} {n0 : Int} (h0 : ev e x0 = .int .i64 n0) : ∀ w, (Instr.build 26 #[(1, ev e x0)]).run Try.prog w = .ok (.agg #[.int .i64 0, .int .i64 n0]) w := by
  intro w
  rw [h0]
  simp [Instr.build, go_sem]

set_option maxHeartbeats 1000000 in
theorem bld_28_0_1_2_3 {e : Env} {x0 x1 x2 x3 : Operand} {n0 : Int} {A1 : Option Addr} {l1 c1 : Nat} {v2_0 v2_1 : Value} {v3_0 v3_1 : Value} (h0 : ev e x0 = .int .i64 n0) (h1 : ev e x1 = .slice A1 l1 c1) (h2 : ev e x2 = .agg #[v2_0, v2_1]) (h3 : ev e x3 = .agg #[v3_0, v3_1]) : ∀ w, (Instr.build 28 #[(0, ev e x0), (1, ev e x1), (2, ev e x2), (3, ev e x3)]).run Try.prog w = .ok (.agg #[.int .i64 n0, .slice A1 l1 c1, v2_0, v2_1, v3_0, v3_1]) w := by
  intro w
  rw [h0, h1, h2, h3]
  simp [Instr.build, go_sem]

set_option maxHeartbeats 1000000 in
theorem bld_36_0_1 {e : Env} {x0 x1 : Operand} {n0 : Int} {n1 : Int} (h0 : ev e x0 = .int .i64 n0) (h1 : ev e x1 = .int .i64 n1) : ∀ w, (Instr.build 36 #[(0, ev e x0), (1, ev e x1)]).run Try.prog w = .ok (.agg #[.int .i64 n0, .int .i64 n1]) w := by
  intro w
  rw [h0, h1]
  simp [Instr.build, go_sem]

set_option maxHeartbeats 1000000 in
theorem bld_38_0_1_2 {e : Env} {x0 x1 x2 : Operand} {n0 : Int} {v1_0 v1_1 : Value} {n2 : Int} (h0 : ev e x0 = .int .i64 n0) (h1 : ev e x1 = .agg #[v1_0, v1_1]) (h2 : ev e x2 = .int .i64 n2) : ∀ w, (Instr.build 38 #[(0, ev e x0), (1, ev e x1), (2, ev e x2)]).run Try.prog w = .ok (.agg #[.int .i64 n0, v1_0, v1_1, .int .i64 n2, .int .i64 0]) w := by
  intro w
  rw [h0, h1, h2]
  simp [Instr.build, go_sem]

set_option maxHeartbeats 1000000 in
theorem bld_38_0_1_2_3 {e : Env} {x0 x1 x2 x3 : Operand} {n0 : Int} {v1_0 v1_1 : Value} {n2 : Int} {n3 : Int} (h0 : ev e x0 = .int .i64 n0) (h1 : ev e x1 = .agg #[v1_0, v1_1]) (h2 : ev e x2 = .int .i64 n2) (h3 : ev e x3 = .int .i64 n3) : ∀ w, (Instr.build 38 #[(0, ev e x0), (1, ev e x1), (2, ev e x2), (3, ev e x3)]).run Try.prog w = .ok (.agg #[.int .i64 n0, v1_0, v1_1, .int .i64 n2, .int .i64 n3]) w := by
  intro w
  rw [h0, h1, h2, h3]
  simp [Instr.build, go_sem]

set_option maxHeartbeats 1000000 in
theorem bld_87_0_1 {e : Env} {x0 x1 : Operand} {v0_0 v0_1 : Value} {v1_0 v1_1 : Value} (h0 : ev e x0 = .agg #[v0_0, v0_1]) (h1 : ev e x1 = .agg #[v1_0, v1_1]) : ∀ w, (Instr.build 87 #[(0, ev e x0), (1, ev e x1)]).run Try.prog w = .ok (.agg #[v0_0, v0_1, v1_0, v1_1]) w := by
  intro w
  rw [h0, h1]
  simp [Instr.build, go_sem]

set_option maxHeartbeats 1000000 in
theorem bsl_22_2_0_1 {e : Env} {x0 x1 : Operand} {v0_0 v0_1 v0_2 v0_3 v0_4 v0_5 : Value} {v1_0 v1_1 v1_2 v1_3 v1_4 v1_5 : Value} (h0 : ev e x0 = .agg #[v0_0, v0_1, v0_2, v0_3, v0_4, v0_5]) (h1 : ev e x1 = .agg #[v1_0, v1_1, v1_2, v1_3, v1_4, v1_5]) : ∀ w, (Instr.buildSlice 22 2 #[(0, ev e x0), (1, ev e x1)]).run Try.prog w = .ok (.slice (some ⟨w.heap.size, 0, none⟩) 2 2) (w.alloc (.cells ([v0_0, v0_1, v0_2, v0_3, v0_4, v0_5, v1_0, v1_1, v1_2, v1_3, v1_4, v1_5] : List Value).toArray 28)) := by
  intro w
  rw [h0, h1]
  simp [Instr.buildSlice, go_sem]

set_option maxHeartbeats 1000000 in
theorem bsl_24_4_0_1_2_3 {e : Env} {x0 x1 x2 x3 : Operand} {v0_0 v0_1 : Value} {v1_0 v1_1 : Value} {v2_0 v2_1 : Value} {v3_0 v3_1 : Value} (h0 : ev e x0 = .agg #[v0_0, v0_1]) (h1 : ev e x1 = .agg #[v1_0, v1_1]) (h2 : ev e x2 = .agg #[v2_0, v2_1]) (h3 : ev e x3 = .agg #[v3_0, v3_1]) : ∀ w, (Instr.buildSlice 24 4 #[(0, ev e x0), (1, ev e x1), (2, ev e x2), (3, ev e x3)]).run Try.prog w = .ok (.slice (some ⟨w.heap.size, 0, none⟩) 4 4) (w.alloc (.cells ([v0_0, v0_1, v1_0, v1_1, v2_0, v2_1, v3_0, v3_1] : List Value).toArray 36)) := by
  intro w
  rw [h0, h1, h2, h3]
  simp [Instr.buildSlice, go_sem]

set_option maxHeartbeats 1000000 in
theorem bsl_39_1_0 {e : Env} {x0 : Operand} {n0 : Int} (h0 : ev e x0 = .int .i64 n0) : ∀ w, (Instr.buildSlice 39 1 #[(0, ev e x0)]).run Try.prog w = .ok (.slice (some ⟨w.heap.size, 0, none⟩) 1 1) (w.alloc (.cells ([.int .i64 n0] : List Value).toArray 3)) := by
  intro w
  rw [h0]
  simp [Instr.buildSlice, go_sem]

set_option maxHeartbeats 1000000 in
theorem bsl_39_2_0_1 {e : Env} {x0 x1 : Operand} {n0 : Int} {n1 : Int} (h0 : ev e x0 = .int .i64 n0) (h1 : ev e x1 = .int .i64 n1) : ∀ w, (Instr.buildSlice 39 2 #[(0, ev e x0), (1, ev e x1)]).run Try.prog w = .ok (.slice (some ⟨w.heap.size, 0, none⟩) 2 2) (w.alloc (.cells ([.int .i64 n0, .int .i64 n1] : List Value).toArray 3)) := by
  intro w
  rw [h0, h1]
  simp [Instr.buildSlice, go_sem]

set_option maxHeartbeats 1000000 in
theorem bsl_45_1_0 {e : Env} {x0 : Operand} {v0_0 v0_1 : Value} (h0 : ev e x0 = .agg #[v0_0, v0_1]) : ∀ w, (Instr.buildSlice 45 1 #[(0, ev e x0)]).run Try.prog w = .ok (.slice (some ⟨w.heap.size, 0, none⟩) 1 1) (w.alloc (.cells ([v0_0, v0_1] : List Value).toArray 26)) := by
  intro w
  rw [h0]
  simp [Instr.buildSlice, go_sem]

set_option maxHeartbeats 1000000 in
theorem bsl_45_3_0_1_2 {e : Env} {x0 x1 x2 : Operand} {v0_0 v0_1 : Value} {v1_0 v1_1 : Value} {v2_0 v2_1 : Value} (h0 : ev e x0 = .agg #[v0_0, v0_1]) (h1 : ev e x1 = .agg #[v1_0, v1_1]) (h2 : ev e x2 = .agg #[v2_0, v2_1]) : ∀ w, (Instr.buildSlice 45 3 #[(0, ev e x0), (1, ev e x1), (2, ev e x2)]).run Try.prog w = .ok (.slice (some ⟨w.heap.size, 0, none⟩) 3 3) (w.alloc (.cells ([v0_0, v0_1, v1_0, v1_1, v2_0, v2_1] : List Value).toArray 26)) := by
  intro w
  rw [h0, h1, h2]
  simp [Instr.buildSlice, go_sem]

set_option maxHeartbeats 1000000 in
theorem bsl_75_1_0 {e : Env} {x0 : Operand} {v0_0 v0_1 v0_2 v0_3 : Value} (h0 : ev e x0 = .agg #[v0_0, v0_1, v0_2, v0_3]) : ∀ w, (Instr.buildSlice 75 1 #[(0, ev e x0)]).run Try.prog w = .ok (.slice (some ⟨w.heap.size, 0, none⟩) 1 1) (w.alloc (.cells ([v0_0, v0_1, v0_2, v0_3] : List Value).toArray 87)) := by
  intro w
  rw [h0]
  simp [Instr.buildSlice, go_sem]

def funT : Nat → Bool
  | 3 => true
  | 4 => true
  | 5 => true
  | 6 => true
  | 7 => true
  | 8 => true
  | 9 => true
  | 10 => true
  | 11 => true
  | 12 => true
  | 13 => true
  | 14 => true
  | 15 => true
  | 16 => true
  | 17 => true
  | 18 => true
  | 19 => true
  | 20 => true
  | 21 => true
  | 22 => true
  | 23 => true
  | 24 => true
  | 25 => true
  | 26 => true
  | 27 => true
  | 28 => true
  | 29 => true
  | 30 => true
  | 31 => true
  | 32 => true
  | 33 => true
  | 34 => true
  | 35 => true
  | 36 => true
  | 37 => true
  | 38 => true
  | 39 => true
  | 40 => true
  | 41 => true
  | 42 => true
  | 43 => true
  | 44 => true
  | 45 => true
  | 46 => true
  | 47 => true
  | 48 => true
  | 49 => true
  | 50 => true
  | 51 => true
  | 52 => true
  | 53 => true
  | 54 => true
  | 55 => true
  | 56 => true
  | 57 => true
  | 58 => true
  | 59 => true
  | 60 => true
  | 61 => true
  | 62 => true
  | 63 => true
  | 64 => true
  | 65 => true
  | 66 => true
  | 67 => true
  | 68 => true
  | 69 => true
  | 70 => true
  | 71 => true
  | 72 => true
  | 73 => true
  | 74 => true
  | 75 => true
  | 76 => true
  | 77 => true
  | 78 => true
  | 79 => true
  | 80 => true
  | 81 => true
  | 82 => true
  | 83 => true
  | 84 => true
  | 85 => true
  | 86 => true
  | 87 => true
  | 88 => true
  | 89 => true
  | 90 => true
  | 92 => true
  | 93 => true
  | 94 => true
  | 95 => true
  | 96 => true
  | _ => false

set_option maxHeartbeats 2000000 in
theorem fun_run {f : Nat} (h : funT f = true) : ∀ (args : Array Value) (w : World), (callFunc f args).run Try.prog w = .ok (.enter f args) w := by
  unfold funT at h
  split at h <;> (try cases h)
  · exact Try.call3
  · exact Try.call4
  · exact Try.call5
  · exact Try.call6
  · exact Try.call7
  · exact Try.call8
  · exact Try.call9
  · exact Try.call10
  · exact Try.call11
  · exact Try.call12
  · exact Try.call13
  · exact Try.call14
  · exact Try.call15
  · exact Try.call16
  · exact Try.call17
  · exact Try.call18
  · exact Try.call19
  · exact Try.call20
  · exact Try.call21
  · exact Try.call22
  · exact Try.call23
  · exact Try.call24
  · exact Try.call25
  · exact Try.call26
  · exact Try.call27
  · exact Try.call28
  · exact Try.call29
  · exact Try.call30
  · exact Try.call31
  · exact Try.call32
  · exact Try.call33
  · exact Try.call34
  · exact Try.call35
  · exact Try.call36
  · exact Try.call37
  · exact Try.call38
  · exact Try.call39
  · exact Try.call40
  · exact Try.call41
  · exact Try.call42
  · exact Try.call43
  · exact Try.call44
  · exact Try.call45
  · exact Try.call46
  · exact Try.call47
  · exact Try.call48
  · exact Try.call49
  · exact Try.call50
  · exact Try.call51
  · exact Try.call52
  · exact Try.call53
  · exact Try.call54
  · exact Try.call55
  · exact Try.call56
  · exact Try.call57
  · exact Try.call58
  · exact Try.call59
  · exact Try.call60
  · exact Try.call61
  · exact Try.call62
  · exact Try.call63
  · exact Try.call64
  · exact Try.call65
  · exact Try.call66
  · exact Try.call67
  · exact Try.call68
  · exact Try.call69
  · exact Try.call70
  · exact Try.call71
  · exact Try.call72
  · exact Try.call73
  · exact Try.call74
  · exact Try.call75
  · exact Try.call76
  · exact Try.call77
  · exact Try.call78
  · exact Try.call79
  · exact Try.call80
  · exact Try.call81
  · exact Try.call82
  · exact Try.call83
  · exact Try.call84
  · exact Try.call85
  · exact Try.call86
  · exact Try.call87
  · exact Try.call88
  · exact Try.call89
  · exact Try.call90
  · exact Try.call92
  · exact Try.call93
  · exact Try.call94
  · exact Try.call95
  · exact Try.call96

theorem mixed : Try.prog.follows .mixedOrders = true := by kernel_rfl

end Go.Proofs.Ytkfklebaeifdnaa
