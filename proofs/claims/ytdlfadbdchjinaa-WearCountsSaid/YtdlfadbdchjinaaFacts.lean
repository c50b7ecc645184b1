/-
  The types and functions of this seat, as the walk wants them (written by a program from the translation).
-/
import Derived.Test.YtdlfadbdchjinaaProg
import Derived.Test.YtdlfadbdchjinaaMem
set_option linter.all false
namespace Go.Proofs.Ytdlfadbdchjinaa
open Go Go.W

def aggT : Nat → Option Bool
  | 2 => some false
  | 3 => some false
  | 4 => some false
  | 5 => some false
  | 6 => some false
  | 21 => some false
  | 22 => some false
  | 23 => some true
  | 24 => some true
  | 25 => some false
  | 26 => some true
  | 27 => some true
  | 28 => some true
  | 29 => some true
  | 30 => some false
  | 31 => some false
  | 32 => some false
  | 34 => some false
  | 35 => some false
  | 36 => some false
  | 37 => some false
  | 38 => some false
  | 40 => some false
  | 41 => some false
  | 42 => some true
  | 43 => some false
  | 44 => some false
  | 45 => some true
  | 46 => some true
  | 47 => some false
  | 48 => some false
  | 49 => some true
  | 50 => some true
  | 51 => some true
  | 52 => some false
  | 53 => some true
  | 54 => some true
  | 55 => some false
  | 56 => some false
  | 57 => some false
  | 58 => some false
  | 59 => some false
  | 61 => some false
  | 62 => some false
  | 63 => some false
  | 64 => some false
  | 65 => some false
  | 66 => some false
  | 67 => some false
  | 68 => some false
  | 69 => some false
  | 70 => some false
  | 71 => some false
  | 72 => some false
  | 73 => some false
  | 74 => some false
  | 75 => some false
  | 77 => some false
  | 78 => some false
  | 79 => some false
  | 80 => some false
  | 82 => some false
  | 83 => some false
  | 84 => some false
  | 85 => some false
  | 86 => some false
  | 87 => some false
  | 88 => some true
  | 89 => some true
  | 90 => some false
  | 91 => some false
  | 92 => some false
  | 93 => some false
  | 94 => some false
  | 95 => some false
  | 96 => some false
  | 97 => some false
  | 98 => some false
  | 99 => some false
  | 100 => some false
  | 101 => some true
  | 102 => some true
  | 103 => some true
  | 104 => some true
  | 105 => some true
  | 106 => some false
  | 107 => some false
  | 108 => some false
  | 109 => some false
  | 110 => some false
  | 111 => some false
  | 112 => some false
  | 113 => some true
  | 114 => some true
  | _ => none

set_option maxHeartbeats 2000000 in
theorem agg_run {t : Nat} {v : _} (h : aggT t = some v) : ∀ w, (isAgg t).run Try.prog w = .ok v w := by
  unfold aggT at h
  split at h <;> (try cases h)
  · exact Try.isAgg2
  · exact Try.isAgg3
  · exact Try.isAgg4
  · exact Try.isAgg5
  · exact Try.isAgg6
  · exact Try.isAgg21
  · exact Try.isAgg22
  · exact Try.isAgg23
  · exact Try.isAgg24
  · exact Try.isAgg25
  · exact Try.isAgg26
  · exact Try.isAgg27
  · exact Try.isAgg28
  · exact Try.isAgg29
  · exact Try.isAgg30
  · exact Try.isAgg31
  · exact Try.isAgg32
  · exact Try.isAgg34
  · exact Try.isAgg35
  · exact Try.isAgg36
  · exact Try.isAgg37
  · exact Try.isAgg38
  · exact Try.isAgg40
  · exact Try.isAgg41
  · exact Try.isAgg42
  · exact Try.isAgg43
  · exact Try.isAgg44
  · exact Try.isAgg45
  · exact Try.isAgg46
  · exact Try.isAgg47
  · exact Try.isAgg48
  · exact Try.isAgg49
  · exact Try.isAgg50
  · exact Try.isAgg51
  · exact Try.isAgg52
  · exact Try.isAgg53
  · exact Try.isAgg54
  · exact Try.isAgg55
  · exact Try.isAgg56
  · exact Try.isAgg57
  · exact Try.isAgg58
  · exact Try.isAgg59
  · exact Try.isAgg61
  · exact Try.isAgg62
  · exact Try.isAgg63
  · exact Try.isAgg64
  · exact Try.isAgg65
  · exact Try.isAgg66
  · exact Try.isAgg67
  · exact Try.isAgg68
  · exact Try.isAgg69
  · exact Try.isAgg70
  · exact Try.isAgg71
  · exact Try.isAgg72
  · exact Try.isAgg73
  · exact Try.isAgg74
  · exact Try.isAgg75
  · exact Try.isAgg77
  · exact Try.isAgg78
  · exact Try.isAgg79
  · exact Try.isAgg80
  · exact Try.isAgg82
  · exact Try.isAgg83
  · exact Try.isAgg84
  · exact Try.isAgg85
  · exact Try.isAgg86
  · exact Try.isAgg87
  · exact Try.isAgg88
  · exact Try.isAgg89
  · exact Try.isAgg90
  · exact Try.isAgg91
  · exact Try.isAgg92
  · exact Try.isAgg93
  · exact Try.isAgg94
  · exact Try.isAgg95
  · exact Try.isAgg96
  · exact Try.isAgg97
  · exact Try.isAgg98
  · exact Try.isAgg99
  · exact Try.isAgg100
  · exact Try.isAgg101
  · exact Try.isAgg102
  · exact Try.isAgg103
  · exact Try.isAgg104
  · exact Try.isAgg105
  · exact Try.isAgg106
  · exact Try.isAgg107
  · exact Try.isAgg108
  · exact Try.isAgg109
  · exact Try.isAgg110
  · exact Try.isAgg111
  · exact Try.isAgg112
  · exact Try.isAgg113
  · exact Try.isAgg114

def sizeT : Nat → Option Nat
  | 2 => some 1
  | 3 => some 1
  | 4 => some 1
  | 5 => some 1
  | 6 => some 1
  | 21 => some 1
  | 22 => some 1
  | 23 => some 2
  | 24 => some 2
  | 25 => some 1
  | 26 => some 5
  | 27 => some 5
  | 28 => some 2
  | 29 => some 2
  | 30 => some 1
  | 31 => some 1
  | 32 => some 1
  | 34 => some 1
  | 35 => some 1
  | 36 => some 1
  | 37 => some 1
  | 38 => some 1
  | 40 => some 1
  | 41 => some 1
  | 42 => some 3
  | 43 => some 1
  | 44 => some 1
  | 45 => some 2
  | 46 => some 2
  | 47 => some 1
  | 48 => some 1
  | 49 => some 13
  | 50 => some 13
  | 51 => some 2
  | 52 => some 1
  | 53 => some 5
  | 54 => some 5
  | 55 => some 1
  | 56 => some 1
  | 57 => some 1
  | 58 => some 1
  | 59 => some 1
  | 61 => some 1
  | 62 => some 1
  | 63 => some 1
  | 64 => some 1
  | 65 => some 1
  | 66 => some 1
  | 67 => some 1
  | 68 => some 1
  | 69 => some 1
  | 70 => some 1
  | 71 => some 1
  | 72 => some 1
  | 73 => some 1
  | 74 => some 1
  | 75 => some 1
  | 77 => some 1
  | 78 => some 1
  | 79 => some 1
  | 80 => some 1
  | 82 => some 1
  | 83 => some 1
  | 84 => some 1
  | 85 => some 1
  | 86 => some 1
  | 87 => some 1
  | 88 => some 4
  | 89 => some 4
  | 90 => some 1
  | 91 => some 1
  | 92 => some 1
  | 93 => some 1
  | 94 => some 1
  | 95 => some 1
  | 96 => some 1
  | 97 => some 1
  | 98 => some 1
  | 99 => some 1
  | 100 => some 1
  | 101 => some 4
  | 102 => some 4
  | 103 => some 0
  | 104 => some 0
  | 105 => some 0
  | 106 => some 1
  | 107 => some 1
  | 108 => some 1
  | 109 => some 1
  | 110 => some 1
  | 111 => some 1
  | 112 => some 1
  | 113 => some 11
  | 114 => some 11
  | _ => none

set_option maxHeartbeats 2000000 in
theorem size_run {t : Nat} {v : _} (h : sizeT t = some v) : ∀ w, (Go.sizeOf t).run Try.prog w = .ok v w := by
  unfold sizeT at h
  split at h <;> (try cases h)
  · exact Try.sizeOf2
  · exact Try.sizeOf3
  · exact Try.sizeOf4
  · exact Try.sizeOf5
  · exact Try.sizeOf6
  · exact Try.sizeOf21
  · exact Try.sizeOf22
  · exact Try.sizeOf23
  · exact Try.sizeOf24
  · exact Try.sizeOf25
  · exact Try.sizeOf26
  · exact Try.sizeOf27
  · exact Try.sizeOf28
  · exact Try.sizeOf29
  · exact Try.sizeOf30
  · exact Try.sizeOf31
  · exact Try.sizeOf32
  · exact Try.sizeOf34
  · exact Try.sizeOf35
  · exact Try.sizeOf36
  · exact Try.sizeOf37
  · exact Try.sizeOf38
  · exact Try.sizeOf40
  · exact Try.sizeOf41
  · exact Try.sizeOf42
  · exact Try.sizeOf43
  · exact Try.sizeOf44
  · exact Try.sizeOf45
  · exact Try.sizeOf46
  · exact Try.sizeOf47
  · exact Try.sizeOf48
  · exact Try.sizeOf49
  · exact Try.sizeOf50
  · exact Try.sizeOf51
  · exact Try.sizeOf52
  · exact Try.sizeOf53
  · exact Try.sizeOf54
  · exact Try.sizeOf55
  · exact Try.sizeOf56
  · exact Try.sizeOf57
  · exact Try.sizeOf58
  · exact Try.sizeOf59
  · exact Try.sizeOf61
  · exact Try.sizeOf62
  · exact Try.sizeOf63
  · exact Try.sizeOf64
  · exact Try.sizeOf65
  · exact Try.sizeOf66
  · exact Try.sizeOf67
  · exact Try.sizeOf68
  · exact Try.sizeOf69
  · exact Try.sizeOf70
  · exact Try.sizeOf71
  · exact Try.sizeOf72
  · exact Try.sizeOf73
  · exact Try.sizeOf74
  · exact Try.sizeOf75
  · exact Try.sizeOf77
  · exact Try.sizeOf78
  · exact Try.sizeOf79
  · exact Try.sizeOf80
  · exact Try.sizeOf82
  · exact Try.sizeOf83
  · exact Try.sizeOf84
  · exact Try.sizeOf85
  · exact Try.sizeOf86
  · exact Try.sizeOf87
  · exact Try.sizeOf88
  · exact Try.sizeOf89
  · exact Try.sizeOf90
  · exact Try.sizeOf91
  · exact Try.sizeOf92
  · exact Try.sizeOf93
  · exact Try.sizeOf94
  · exact Try.sizeOf95
  · exact Try.sizeOf96
  · exact Try.sizeOf97
  · exact Try.sizeOf98
  · exact Try.sizeOf99
  · exact Try.sizeOf100
  · exact Try.sizeOf101
  · exact Try.sizeOf102
  · exact Try.sizeOf103
  · exact Try.sizeOf104
  · exact Try.sizeOf105
  · exact Try.sizeOf106
  · exact Try.sizeOf107
  · exact Try.sizeOf108
  · exact Try.sizeOf109
  · exact Try.sizeOf110
  · exact Try.sizeOf111
  · exact Try.sizeOf112
  · exact Try.sizeOf113
  · exact Try.sizeOf114

def elT : Nat → Option Nat
  | 22 => some 3
  | 25 => some 50
  | 47 => some 54
  | 48 => some 89
  | 67 => some 22
  | _ => none

set_option maxHeartbeats 2000000 in
theorem el_run {t : Nat} {v : _} (h : elT t = some v) : ∀ w, (underlying t).run Try.prog w = .ok (.slice v) w := by
  unfold elT at h
  split at h <;> (try cases h)
  · exact Try.runUnderlying22
  · exact Try.runUnderlying25
  · exact Try.runUnderlying47
  · exact Try.runUnderlying48
  · exact Try.runUnderlying67

def ikT : Nat → Option IntKind
  | 2 => some .i64
  | 3 => some .i64
  | 5 => some .u8
  | 6 => some .u8
  | 21 => some .i32
  | 32 => some .i64
  | 71 => some .u64
  | 75 => some .i64
  | 84 => some .u32
  | 86 => some .u64
  | 91 => some .u64
  | 107 => some .u8
  | 108 => some .u8
  | 111 => some .i32
  | 112 => some .i32
  | _ => none

set_option maxHeartbeats 2000000 in
theorem ik_run {t : Nat} {v : _} (h : ikT t = some v) : ∀ w, (underlying t).run Try.prog w = .ok (.int v) w := by
  unfold ikT at h
  split at h <;> (try cases h)
  · exact Try.runUnderlying2
  · exact Try.runUnderlying3
  · exact Try.runUnderlying5
  · exact Try.runUnderlying6
  · exact Try.runUnderlying21
  · exact Try.runUnderlying32
  · exact Try.runUnderlying71
  · exact Try.runUnderlying75
  · exact Try.runUnderlying84
  · exact Try.runUnderlying86
  · exact Try.runUnderlying91
  · exact Try.runUnderlying107
  · exact Try.runUnderlying108
  · exact Try.runUnderlying111
  · exact Try.runUnderlying112

def arrT : Nat → Option (Nat × Nat)
  | 42 => some (3, 3)
  | 51 => some (2, 3)
  | 103 => some (0, 16)
  | _ => none

set_option maxHeartbeats 2000000 in
theorem arr_run {t : Nat} {v : _} (h : arrT t = some v) : ∀ w, (underlying t).run Try.prog w = .ok (.array v.1 v.2) w := by
  unfold arrT at h
  split at h <;> (try cases h)
  · exact Try.runUnderlying42
  · exact Try.runUnderlying51
  · exact Try.runUnderlying103

def zeroT : Nat → Option Value
  | 2 => some (.int .i64 0)
  | 3 => some (.int .i64 0)
  | 4 => some (.bool false)
  | 5 => some (.int .u8 0)
  | 6 => some (.int .u8 0)
  | 21 => some (.int .i32 0)
  | 22 => some (.slice none 0 0)
  | 23 => some (.agg #[.slice none 0 0, .slice none 0 0])
  | 24 => some (.agg #[.slice none 0 0, .slice none 0 0])
  | 25 => some (.slice none 0 0)
  | 26 => some (.agg #[.slice none 0 0, .slice none 0 0, .slice none 0 0, .int .i64 0, .int .i64 0])
  | 27 => some (.agg #[.slice none 0 0, .slice none 0 0, .slice none 0 0, .int .i64 0, .int .i64 0])
  | 28 => some (.agg #[.int .i64 0, .int .i64 0])
  | 29 => some (.agg #[.int .i64 0, .int .i64 0])
  | 30 => some (.nilFunc)
  | 31 => some (.nilFunc)
  | 32 => some (.int .i64 0)
  | 34 => some (.nilFunc)
  | 35 => some (.nilFunc)
  | 36 => some (.nilFunc)
  | 37 => some (.nilFunc)
  | 38 => some (.nilFunc)
  | 40 => some (.nilFunc)
  | 41 => some (.nilFunc)
  | 42 => some (.agg #[.int .i64 0, .int .i64 0, .int .i64 0])
  | 43 => some (.nilFunc)
  | 44 => some (.nilFunc)
  | 45 => some (.agg #[.int .i64 0, .int .i64 0])
  | 46 => some (.agg #[.int .i64 0, .int .i64 0])
  | 47 => some (.slice none 0 0)
  | 48 => some (.slice none 0 0)
  | 49 => some (.agg #[.int .i64 0, .int .i64 0, .int .i64 0, .int .i64 0, .int .i64 0, .int .i64 0, .bool false, .slice none 0 0, .slice none 0 0, .int .i64 0, .int .i64 0, .int .i64 0, .int .i64 0])
  | 50 => some (.agg #[.int .i64 0, .int .i64 0, .int .i64 0, .int .i64 0, .int .i64 0, .int .i64 0, .bool false, .slice none 0 0, .slice none 0 0, .int .i64 0, .int .i64 0, .int .i64 0, .int .i64 0])
  | 51 => some (.agg #[.int .i64 0, .int .i64 0])
  | 52 => some (.nilFunc)
  | 53 => some (.agg #[.int .i64 0, .int .i64 0, .int .i64 0, .int .i64 0, .int .i64 0])
  | 54 => some (.agg #[.int .i64 0, .int .i64 0, .int .i64 0, .int .i64 0, .int .i64 0])
  | 55 => some (.nilFunc)
  | 56 => some (.nilFunc)
  | 57 => some (.nilFunc)
  | 58 => some (.nilFunc)
  | 59 => some (.nilFunc)
  | 61 => some (.nilFunc)
  | 62 => some (.nilFunc)
  | 63 => some (.nilFunc)
  | 64 => some (.nilFunc)
  | 65 => some (.nilFunc)
  | 66 => some (.nilFunc)
  | 67 => some (.slice none 0 0)
  | 68 => some (.nilFunc)
  | 69 => some (.nilFunc)
  | 70 => some (.nilFunc)
  | 71 => some (.int .u64 0)
  | 72 => some (.nilFunc)
  | 73 => some (.nilFunc)
  | 74 => some (.nilFunc)
  | 75 => some (.int .i64 0)
  | 77 => some (.nilFunc)
  | 78 => some (.nilFunc)
  | 79 => some (.nilFunc)
  | 80 => some (.nilFunc)
  | 82 => some (.nilFunc)
  | 83 => some (.nilFunc)
  | 84 => some (.int .u32 0)
  | 85 => some (.nilFunc)
  | 86 => some (.int .u64 0)
  | 87 => some (.nilFunc)
  | 88 => some (.agg #[.int .i64 0, .int .i64 0, .int .i64 0, .int .i64 0])
  | 89 => some (.agg #[.int .i64 0, .int .i64 0, .int .i64 0, .int .i64 0])
  | 90 => some (.nilFunc)
  | 91 => some (.int .u64 0)
  | 92 => some (.nilFunc)
  | 93 => some (.nilFunc)
  | 94 => some (.nilFunc)
  | 95 => some (.pointer none)
  | 96 => some (.nilFunc)
  | 97 => some (.nilFunc)
  | 98 => some (.pointer none)
  | 99 => some (.nilFunc)
  | 100 => some (.nilFunc)
  | 103 => some (.agg #[])
  | 104 => some (.agg #[])
  | 105 => some (.agg #[])
  | 106 => some (.nilFunc)
  | 107 => some (.int .u8 0)
  | 108 => some (.int .u8 0)
  | 109 => some (.nilFunc)
  | 110 => some (.pointer none)
  | 111 => some (.int .i32 0)
  | 112 => some (.int .i32 0)
  | 113 => some (.agg #[.int .u64 0, .int .u64 0, .int .u32 0, .int .u8 0, .int .u8 0, .int .u8 0, .int .u8 0, .nilFunc, .pointer none, .int .i32 0, .int .i32 0])
  | 114 => some (.agg #[.int .u64 0, .int .u64 0, .int .u32 0, .int .u8 0, .int .u8 0, .int .u8 0, .int .u8 0, .nilFunc, .pointer none, .int .i32 0, .int .i32 0])
  | _ => none

set_option maxHeartbeats 2000000 in
theorem zero_run {t : Nat} {v : _} (h : zeroT t = some v) : ∀ w, (zeroValue t).run Try.prog w = .ok v w := by
  unfold zeroT at h
  split at h <;> (try cases h)
  · exact Try.zeroValue2
  · exact Try.zeroValue3
  · exact Try.zeroValue4
  · exact Try.zeroValue5
  · exact Try.zeroValue6
  · exact Try.zeroValue21
  · exact Try.zeroValue22
  · exact Try.zeroValue23
  · exact Try.zeroValue24
  · exact Try.zeroValue25
  · exact Try.zeroValue26
  · exact Try.zeroValue27
  · exact Try.zeroValue28
  · exact Try.zeroValue29
  · exact Try.zeroValue30
  · exact Try.zeroValue31
  · exact Try.zeroValue32
  · exact Try.zeroValue34
  · exact Try.zeroValue35
  · exact Try.zeroValue36
  · exact Try.zeroValue37
  · exact Try.zeroValue38
  · exact Try.zeroValue40
  · exact Try.zeroValue41
  · exact Try.zeroValue42
  · exact Try.zeroValue43
  · exact Try.zeroValue44
  · exact Try.zeroValue45
  · exact Try.zeroValue46
  · exact Try.zeroValue47
  · exact Try.zeroValue48
  · exact Try.zeroValue49
  · exact Try.zeroValue50
  · exact Try.zeroValue51
  · exact Try.zeroValue52
  · exact Try.zeroValue53
  · exact Try.zeroValue54
  · exact Try.zeroValue55
  · exact Try.zeroValue56
  · exact Try.zeroValue57
  · exact Try.zeroValue58
  · exact Try.zeroValue59
  · exact Try.zeroValue61
  · exact Try.zeroValue62
  · exact Try.zeroValue63
  · exact Try.zeroValue64
  · exact Try.zeroValue65
  · exact Try.zeroValue66
  · exact Try.zeroValue67
  · exact Try.zeroValue68
  · exact Try.zeroValue69
  · exact Try.zeroValue70
  · exact Try.zeroValue71
  · exact Try.zeroValue72
  · exact Try.zeroValue73
  · exact Try.zeroValue74
  · exact Try.zeroValue75
  · exact Try.zeroValue77
  · exact Try.zeroValue78
  · exact Try.zeroValue79
  · exact Try.zeroValue80
  · exact Try.zeroValue82
  · exact Try.zeroValue83
  · exact Try.zeroValue84
  · exact Try.zeroValue85
  · exact Try.zeroValue86
  · exact Try.zeroValue87
  · exact Try.zeroValue88
  · exact Try.zeroValue89
  · exact Try.zeroValue90
  · exact Try.zeroValue91
  · exact Try.zeroValue92
  · exact Try.zeroValue93
  · exact Try.zeroValue94
  · exact Try.zeroValue95
  · exact Try.zeroValue96
  · exact Try.zeroValue97
  · exact Try.zeroValue98
  · exact Try.zeroValue99
  · exact Try.zeroValue100
  · exact Try.zeroValue103
  · exact Try.zeroValue104
  · exact Try.zeroValue105
  · exact Try.zeroValue106
  · exact Try.zeroValue107
  · exact Try.zeroValue108
  · exact Try.zeroValue109
  · exact Try.zeroValue110
  · exact Try.zeroValue111
  · exact Try.zeroValue112
  · exact Try.zeroValue113
  · exact Try.zeroValue114

def bytT : Nat → Option (Nat × Nat)
  | 2 => some (1, 8)
  | 3 => some (1, 8)
  | 4 => some (1, 1)
  | 5 => some (1, 1)
  | 6 => some (1, 1)
  | 21 => some (1, 4)
  | 22 => some (1, 24)
  | 23 => some (2, 48)
  | 24 => some (2, 48)
  | 25 => some (1, 24)
  | 26 => some (5, 88)
  | 27 => some (5, 88)
  | 28 => some (2, 16)
  | 29 => some (2, 16)
  | 30 => some (1, 8)
  | 31 => some (1, 8)
  | 32 => some (1, 8)
  | 34 => some (1, 8)
  | 35 => some (1, 8)
  | 36 => some (1, 8)
  | 37 => some (1, 8)
  | 38 => some (1, 8)
  | 40 => some (1, 8)
  | 41 => some (1, 8)
  | 42 => some (3, 24)
  | 43 => some (1, 8)
  | 44 => some (1, 8)
  | 45 => some (2, 16)
  | 46 => some (2, 16)
  | 47 => some (1, 24)
  | 48 => some (1, 24)
  | 49 => some (13, 136)
  | 50 => some (13, 136)
  | 51 => some (2, 16)
  | 52 => some (1, 8)
  | 53 => some (5, 40)
  | 54 => some (5, 40)
  | 55 => some (1, 8)
  | 56 => some (1, 8)
  | 57 => some (1, 8)
  | 58 => some (1, 8)
  | 59 => some (1, 8)
  | 61 => some (1, 8)
  | 62 => some (1, 8)
  | 63 => some (1, 8)
  | 64 => some (1, 8)
  | 65 => some (1, 8)
  | 66 => some (1, 8)
  | 67 => some (1, 24)
  | 68 => some (1, 8)
  | 69 => some (1, 8)
  | 70 => some (1, 8)
  | 71 => some (1, 8)
  | 72 => some (1, 8)
  | 73 => some (1, 8)
  | 74 => some (1, 8)
  | 75 => some (1, 8)
  | 77 => some (1, 8)
  | 78 => some (1, 8)
  | 79 => some (1, 8)
  | 80 => some (1, 8)
  | 82 => some (1, 8)
  | 83 => some (1, 8)
  | 84 => some (1, 4)
  | 85 => some (1, 8)
  | 86 => some (1, 8)
  | 87 => some (1, 8)
  | 88 => some (4, 32)
  | 89 => some (4, 32)
  | 90 => some (1, 8)
  | 91 => some (1, 8)
  | 92 => some (1, 8)
  | 93 => some (1, 8)
  | 94 => some (1, 8)
  | 95 => some (1, 8)
  | 96 => some (1, 8)
  | 97 => some (1, 8)
  | 98 => some (1, 8)
  | 99 => some (1, 8)
  | 100 => some (1, 8)
  | 101 => some (4, 40)
  | 102 => some (4, 40)
  | 103 => some (0, 0)
  | 104 => some (0, 0)
  | 105 => some (0, 0)
  | 106 => some (1, 8)
  | 107 => some (1, 1)
  | 108 => some (1, 1)
  | 109 => some (1, 8)
  | 110 => some (1, 8)
  | 111 => some (1, 4)
  | 112 => some (1, 4)
  | 113 => some (11, 48)
  | 114 => some (11, 48)
  | _ => none

set_option maxHeartbeats 2000000 in
theorem byt_run {t : Nat} {v : _} (h : bytT t = some v) : ∃ i, (∀ w, (typeInfo t).run Try.prog w = .ok i w) ∧ i.size = v.1 ∧ i.bytes = v.2 := by
  unfold bytT at h
  split at h <;> (try cases h)
  · exact ⟨_, Try.typeInfo2, rfl, rfl⟩
  · exact ⟨_, Try.typeInfo3, rfl, rfl⟩
  · exact ⟨_, Try.typeInfo4, rfl, rfl⟩
  · exact ⟨_, Try.typeInfo5, rfl, rfl⟩
  · exact ⟨_, Try.typeInfo6, rfl, rfl⟩
  · exact ⟨_, Try.typeInfo21, rfl, rfl⟩
  · exact ⟨_, Try.typeInfo22, rfl, rfl⟩
  · exact ⟨_, Try.typeInfo23, rfl, rfl⟩
  · exact ⟨_, Try.typeInfo24, rfl, rfl⟩
  · exact ⟨_, Try.typeInfo25, rfl, rfl⟩
  · exact ⟨_, Try.typeInfo26, rfl, rfl⟩
  · exact ⟨_, Try.typeInfo27, rfl, rfl⟩
  · exact ⟨_, Try.typeInfo28, rfl, rfl⟩
  · exact ⟨_, Try.typeInfo29, rfl, rfl⟩
  · exact ⟨_, Try.typeInfo30, rfl, rfl⟩
  · exact ⟨_, Try.typeInfo31, rfl, rfl⟩
  · exact ⟨_, Try.typeInfo32, rfl, rfl⟩
  · exact ⟨_, Try.typeInfo34, rfl, rfl⟩
  · exact ⟨_, Try.typeInfo35, rfl, rfl⟩
  · exact ⟨_, Try.typeInfo36, rfl, rfl⟩
  · exact ⟨_, Try.typeInfo37, rfl, rfl⟩
  · exact ⟨_, Try.typeInfo38, rfl, rfl⟩
  · exact ⟨_, Try.typeInfo40, rfl, rfl⟩
  · exact ⟨_, Try.typeInfo41, rfl, rfl⟩
  · exact ⟨_, Try.typeInfo42, rfl, rfl⟩
  · exact ⟨_, Try.typeInfo43, rfl, rfl⟩
  · exact ⟨_, Try.typeInfo44, rfl, rfl⟩
  · exact ⟨_, Try.typeInfo45, rfl, rfl⟩
  · exact ⟨_, Try.typeInfo46, rfl, rfl⟩
  · exact ⟨_, Try.typeInfo47, rfl, rfl⟩
  · exact ⟨_, Try.typeInfo48, rfl, rfl⟩
  · exact ⟨_, Try.typeInfo49, rfl, rfl⟩
  · exact ⟨_, Try.typeInfo50, rfl, rfl⟩
  · exact ⟨_, Try.typeInfo51, rfl, rfl⟩
  · exact ⟨_, Try.typeInfo52, rfl, rfl⟩
  · exact ⟨_, Try.typeInfo53, rfl, rfl⟩
  · exact ⟨_, Try.typeInfo54, rfl, rfl⟩
  · exact ⟨_, Try.typeInfo55, rfl, rfl⟩
  · exact ⟨_, Try.typeInfo56, rfl, rfl⟩
  · exact ⟨_, Try.typeInfo57, rfl, rfl⟩
  · exact ⟨_, Try.typeInfo58, rfl, rfl⟩
  · exact ⟨_, Try.typeInfo59, rfl, rfl⟩
  · exact ⟨_, Try.typeInfo61, rfl, rfl⟩
  · exact ⟨_, Try.typeInfo62, rfl, rfl⟩
  · exact ⟨_, Try.typeInfo63, rfl, rfl⟩
  · exact ⟨_, Try.typeInfo64, rfl, rfl⟩
  · exact ⟨_, Try.typeInfo65, rfl, rfl⟩
  · exact ⟨_, Try.typeInfo66, rfl, rfl⟩
  · exact ⟨_, Try.typeInfo67, rfl, rfl⟩
  · exact ⟨_, Try.typeInfo68, rfl, rfl⟩
  · exact ⟨_, Try.typeInfo69, rfl, rfl⟩
  · exact ⟨_, Try.typeInfo70, rfl, rfl⟩
  · exact ⟨_, Try.typeInfo71, rfl, rfl⟩
  · exact ⟨_, Try.typeInfo72, rfl, rfl⟩
  · exact ⟨_, Try.typeInfo73, rfl, rfl⟩
  · exact ⟨_, Try.typeInfo74, rfl, rfl⟩
  · exact ⟨_, Try.typeInfo75, rfl, rfl⟩
  · exact ⟨_, Try.typeInfo77, rfl, rfl⟩
  · exact ⟨_, Try.typeInfo78, rfl, rfl⟩
  · exact ⟨_, Try.typeInfo79, rfl, rfl⟩
  · exact ⟨_, Try.typeInfo80, rfl, rfl⟩
  · exact ⟨_, Try.typeInfo82, rfl, rfl⟩
  · exact ⟨_, Try.typeInfo83, rfl, rfl⟩
  · exact ⟨_, Try.typeInfo84, rfl, rfl⟩
  · exact ⟨_, Try.typeInfo85, rfl, rfl⟩
  · exact ⟨_, Try.typeInfo86, rfl, rfl⟩
  · exact ⟨_, Try.typeInfo87, rfl, rfl⟩
  · exact ⟨_, Try.typeInfo88, rfl, rfl⟩
  · exact ⟨_, Try.typeInfo89, rfl, rfl⟩
  · exact ⟨_, Try.typeInfo90, rfl, rfl⟩
  · exact ⟨_, Try.typeInfo91, rfl, rfl⟩
  · exact ⟨_, Try.typeInfo92, rfl, rfl⟩
  · exact ⟨_, Try.typeInfo93, rfl, rfl⟩
  · exact ⟨_, Try.typeInfo94, rfl, rfl⟩
  · exact ⟨_, Try.typeInfo95, rfl, rfl⟩
  · exact ⟨_, Try.typeInfo96, rfl, rfl⟩
  · exact ⟨_, Try.typeInfo97, rfl, rfl⟩
  · exact ⟨_, Try.typeInfo98, rfl, rfl⟩
  · exact ⟨_, Try.typeInfo99, rfl, rfl⟩
  · exact ⟨_, Try.typeInfo100, rfl, rfl⟩
  · exact ⟨_, Try.typeInfo101, rfl, rfl⟩
  · exact ⟨_, Try.typeInfo102, rfl, rfl⟩
  · exact ⟨_, Try.typeInfo103, rfl, rfl⟩
  · exact ⟨_, Try.typeInfo104, rfl, rfl⟩
  · exact ⟨_, Try.typeInfo105, rfl, rfl⟩
  · exact ⟨_, Try.typeInfo106, rfl, rfl⟩
  · exact ⟨_, Try.typeInfo107, rfl, rfl⟩
  · exact ⟨_, Try.typeInfo108, rfl, rfl⟩
  · exact ⟨_, Try.typeInfo109, rfl, rfl⟩
  · exact ⟨_, Try.typeInfo110, rfl, rfl⟩
  · exact ⟨_, Try.typeInfo111, rfl, rfl⟩
  · exact ⟨_, Try.typeInfo112, rfl, rfl⟩
  · exact ⟨_, Try.typeInfo113, rfl, rfl⟩
  · exact ⟨_, Try.typeInfo114, rfl, rfl⟩

def fldT24 : Nat → Option Nat
  | 0 => some 0
  | 1 => some 1
  | _ => none

def fldT27 : Nat → Option Nat
  | 0 => some 0
  | 1 => some 2
  | 2 => some 3
  | 3 => some 4
  | _ => none

def fldT29 : Nat → Option Nat
  | 0 => some 0
  | 1 => some 1
  | _ => none

def fldT46 : Nat → Option Nat
  | 0 => some 0
  | 1 => some 1
  | _ => none

def fldT50 : Nat → Option Nat
  | 0 => some 0
  | 1 => some 1
  | 2 => some 2
  | 3 => some 4
  | 4 => some 6
  | 5 => some 7
  | 6 => some 8
  | 7 => some 9
  | 8 => some 10
  | 9 => some 11
  | 10 => some 12
  | _ => none

def fldT54 : Nat → Option Nat
  | 0 => some 0
  | 1 => some 1
  | 2 => some 3
  | _ => none

def fldT89 : Nat → Option Nat
  | 0 => some 0
  | 1 => some 2
  | _ => none

def fldT102 : Nat → Option Nat
  | 0 => some 0
  | 1 => some 1
  | 2 => some 2
  | 3 => some 3
  | _ => none

def fldT114 : Nat → Option Nat
  | 0 => some 0
  | 1 => some 1
  | 2 => some 2
  | 3 => some 3
  | 4 => some 4
  | 5 => some 5
  | 6 => some 6
  | 7 => some 7
  | 8 => some 8
  | 9 => some 9
  | 10 => some 10
  | _ => none

def fldT : Nat → Nat → Option Nat
  | 24, j => fldT24 j
  | 27, j => fldT27 j
  | 29, j => fldT29 j
  | 46, j => fldT46 j
  | 50, j => fldT50 j
  | 54, j => fldT54 j
  | 89, j => fldT89 j
  | 102, j => fldT102 j
  | 114, j => fldT114 j
  | _, _ => none

theorem fld_24_0 : ∀ b o w, (Instr.fieldAt 24 (.pointer (some ⟨b, o, none⟩)) 0).run Try.prog w = .ok (.pointer (some ⟨b, o + 0, none⟩)) w := fieldAt_run Try.runUnderlying24 rfl Try.sizeOf22 rfl rfl
theorem fld_24_1 : ∀ b o w, (Instr.fieldAt 24 (.pointer (some ⟨b, o, none⟩)) 1).run Try.prog w = .ok (.pointer (some ⟨b, o + 1, none⟩)) w := fieldAt_run Try.runUnderlying24 rfl Try.sizeOf22 rfl rfl
theorem fld_27_0 : ∀ b o w, (Instr.fieldAt 27 (.pointer (some ⟨b, o, none⟩)) 0).run Try.prog w = .ok (.pointer (some ⟨b, o + 0, none⟩)) w := fieldAt_run Try.runUnderlying27 rfl Try.sizeOf24 rfl rfl
theorem fld_27_1 : ∀ b o w, (Instr.fieldAt 27 (.pointer (some ⟨b, o, none⟩)) 1).run Try.prog w = .ok (.pointer (some ⟨b, o + 2, none⟩)) w := fieldAt_run Try.runUnderlying27 rfl Try.sizeOf25 rfl rfl
theorem fld_27_2 : ∀ b o w, (Instr.fieldAt 27 (.pointer (some ⟨b, o, none⟩)) 2).run Try.prog w = .ok (.pointer (some ⟨b, o + 3, none⟩)) w := fieldAt_run Try.runUnderlying27 rfl Try.sizeOf3 rfl rfl
theorem fld_27_3 : ∀ b o w, (Instr.fieldAt 27 (.pointer (some ⟨b, o, none⟩)) 3).run Try.prog w = .ok (.pointer (some ⟨b, o + 4, none⟩)) w := fieldAt_run Try.runUnderlying27 rfl Try.sizeOf3 rfl rfl
theorem fld_29_0 : ∀ b o w, (Instr.fieldAt 29 (.pointer (some ⟨b, o, none⟩)) 0).run Try.prog w = .ok (.pointer (some ⟨b, o + 0, none⟩)) w := fieldAt_run Try.runUnderlying29 rfl Try.sizeOf3 rfl rfl
theorem fld_29_1 : ∀ b o w, (Instr.fieldAt 29 (.pointer (some ⟨b, o, none⟩)) 1).run Try.prog w = .ok (.pointer (some ⟨b, o + 1, none⟩)) w := fieldAt_run Try.runUnderlying29 rfl Try.sizeOf3 rfl rfl
theorem fld_46_0 : ∀ b o w, (Instr.fieldAt 46 (.pointer (some ⟨b, o, none⟩)) 0).run Try.prog w = .ok (.pointer (some ⟨b, o + 0, none⟩)) w := fieldAt_run Try.runUnderlying46 rfl Try.sizeOf3 rfl rfl
theorem fld_46_1 : ∀ b o w, (Instr.fieldAt 46 (.pointer (some ⟨b, o, none⟩)) 1).run Try.prog w = .ok (.pointer (some ⟨b, o + 1, none⟩)) w := fieldAt_run Try.runUnderlying46 rfl Try.sizeOf3 rfl rfl
theorem fld_50_0 : ∀ b o w, (Instr.fieldAt 50 (.pointer (some ⟨b, o, none⟩)) 0).run Try.prog w = .ok (.pointer (some ⟨b, o + 0, none⟩)) w := fieldAt_run Try.runUnderlying50 rfl Try.sizeOf3 rfl rfl
theorem fld_50_1 : ∀ b o w, (Instr.fieldAt 50 (.pointer (some ⟨b, o, none⟩)) 1).run Try.prog w = .ok (.pointer (some ⟨b, o + 1, none⟩)) w := fieldAt_run Try.runUnderlying50 rfl Try.sizeOf3 rfl rfl
theorem fld_50_2 : ∀ b o w, (Instr.fieldAt 50 (.pointer (some ⟨b, o, none⟩)) 2).run Try.prog w = .ok (.pointer (some ⟨b, o + 2, none⟩)) w := fieldAt_run Try.runUnderlying50 rfl Try.sizeOf46 rfl rfl
theorem fld_50_3 : ∀ b o w, (Instr.fieldAt 50 (.pointer (some ⟨b, o, none⟩)) 3).run Try.prog w = .ok (.pointer (some ⟨b, o + 4, none⟩)) w := fieldAt_run Try.runUnderlying50 rfl Try.sizeOf46 rfl rfl
theorem fld_50_4 : ∀ b o w, (Instr.fieldAt 50 (.pointer (some ⟨b, o, none⟩)) 4).run Try.prog w = .ok (.pointer (some ⟨b, o + 6, none⟩)) w := fieldAt_run Try.runUnderlying50 rfl Try.sizeOf4 rfl rfl
theorem fld_50_5 : ∀ b o w, (Instr.fieldAt 50 (.pointer (some ⟨b, o, none⟩)) 5).run Try.prog w = .ok (.pointer (some ⟨b, o + 7, none⟩)) w := fieldAt_run Try.runUnderlying50 rfl Try.sizeOf47 rfl rfl
theorem fld_50_6 : ∀ b o w, (Instr.fieldAt 50 (.pointer (some ⟨b, o, none⟩)) 6).run Try.prog w = .ok (.pointer (some ⟨b, o + 8, none⟩)) w := fieldAt_run Try.runUnderlying50 rfl Try.sizeOf48 rfl rfl
theorem fld_50_7 : ∀ b o w, (Instr.fieldAt 50 (.pointer (some ⟨b, o, none⟩)) 7).run Try.prog w = .ok (.pointer (some ⟨b, o + 9, none⟩)) w := fieldAt_run Try.runUnderlying50 rfl Try.sizeOf3 rfl rfl
theorem fld_50_8 : ∀ b o w, (Instr.fieldAt 50 (.pointer (some ⟨b, o, none⟩)) 8).run Try.prog w = .ok (.pointer (some ⟨b, o + 10, none⟩)) w := fieldAt_run Try.runUnderlying50 rfl Try.sizeOf3 rfl rfl
theorem fld_50_9 : ∀ b o w, (Instr.fieldAt 50 (.pointer (some ⟨b, o, none⟩)) 9).run Try.prog w = .ok (.pointer (some ⟨b, o + 11, none⟩)) w := fieldAt_run Try.runUnderlying50 rfl Try.sizeOf3 rfl rfl
theorem fld_50_10 : ∀ b o w, (Instr.fieldAt 50 (.pointer (some ⟨b, o, none⟩)) 10).run Try.prog w = .ok (.pointer (some ⟨b, o + 12, none⟩)) w := fieldAt_run Try.runUnderlying50 rfl Try.sizeOf3 rfl rfl
theorem fld_54_0 : ∀ b o w, (Instr.fieldAt 54 (.pointer (some ⟨b, o, none⟩)) 0).run Try.prog w = .ok (.pointer (some ⟨b, o + 0, none⟩)) w := fieldAt_run Try.runUnderlying54 rfl Try.sizeOf3 rfl rfl
theorem fld_54_1 : ∀ b o w, (Instr.fieldAt 54 (.pointer (some ⟨b, o, none⟩)) 1).run Try.prog w = .ok (.pointer (some ⟨b, o + 1, none⟩)) w := fieldAt_run Try.runUnderlying54 rfl Try.sizeOf46 rfl rfl
theorem fld_54_2 : ∀ b o w, (Instr.fieldAt 54 (.pointer (some ⟨b, o, none⟩)) 2).run Try.prog w = .ok (.pointer (some ⟨b, o + 3, none⟩)) w := fieldAt_run Try.runUnderlying54 rfl Try.sizeOf46 rfl rfl
theorem fld_89_0 : ∀ b o w, (Instr.fieldAt 89 (.pointer (some ⟨b, o, none⟩)) 0).run Try.prog w = .ok (.pointer (some ⟨b, o + 0, none⟩)) w := fieldAt_run Try.runUnderlying89 rfl Try.sizeOf46 rfl rfl
theorem fld_89_1 : ∀ b o w, (Instr.fieldAt 89 (.pointer (some ⟨b, o, none⟩)) 1).run Try.prog w = .ok (.pointer (some ⟨b, o + 2, none⟩)) w := fieldAt_run Try.runUnderlying89 rfl Try.sizeOf46 rfl rfl
theorem fld_102_0 : ∀ b o w, (Instr.fieldAt 102 (.pointer (some ⟨b, o, none⟩)) 0).run Try.prog w = .ok (.pointer (some ⟨b, o + 0, none⟩)) w := fieldAt_run Try.runUnderlying102 rfl Try.sizeOf17 rfl rfl
theorem fld_102_1 : ∀ b o w, (Instr.fieldAt 102 (.pointer (some ⟨b, o, none⟩)) 1).run Try.prog w = .ok (.pointer (some ⟨b, o + 1, none⟩)) w := fieldAt_run Try.runUnderlying102 rfl Try.sizeOf17 rfl rfl
theorem fld_102_2 : ∀ b o w, (Instr.fieldAt 102 (.pointer (some ⟨b, o, none⟩)) 2).run Try.prog w = .ok (.pointer (some ⟨b, o + 2, none⟩)) w := fieldAt_run Try.runUnderlying102 rfl Try.sizeOf17 rfl rfl
theorem fld_102_3 : ∀ b o w, (Instr.fieldAt 102 (.pointer (some ⟨b, o, none⟩)) 3).run Try.prog w = .ok (.pointer (some ⟨b, o + 3, none⟩)) w := fieldAt_run Try.runUnderlying102 rfl Try.sizeOf9 rfl rfl
theorem fld_114_0 : ∀ b o w, (Instr.fieldAt 114 (.pointer (some ⟨b, o, none⟩)) 0).run Try.prog w = .ok (.pointer (some ⟨b, o + 0, none⟩)) w := fieldAt_run Try.runUnderlying114 rfl Try.sizeOf12 rfl rfl
theorem fld_114_1 : ∀ b o w, (Instr.fieldAt 114 (.pointer (some ⟨b, o, none⟩)) 1).run Try.prog w = .ok (.pointer (some ⟨b, o + 1, none⟩)) w := fieldAt_run Try.runUnderlying114 rfl Try.sizeOf12 rfl rfl
theorem fld_114_2 : ∀ b o w, (Instr.fieldAt 114 (.pointer (some ⟨b, o, none⟩)) 2).run Try.prog w = .ok (.pointer (some ⟨b, o + 2, none⟩)) w := fieldAt_run Try.runUnderlying114 rfl Try.sizeOf84 rfl rfl
theorem fld_114_3 : ∀ b o w, (Instr.fieldAt 114 (.pointer (some ⟨b, o, none⟩)) 3).run Try.prog w = .ok (.pointer (some ⟨b, o + 3, none⟩)) w := fieldAt_run Try.runUnderlying114 rfl Try.sizeOf107 rfl rfl
theorem fld_114_4 : ∀ b o w, (Instr.fieldAt 114 (.pointer (some ⟨b, o, none⟩)) 4).run Try.prog w = .ok (.pointer (some ⟨b, o + 4, none⟩)) w := fieldAt_run Try.runUnderlying114 rfl Try.sizeOf5 rfl rfl
theorem fld_114_5 : ∀ b o w, (Instr.fieldAt 114 (.pointer (some ⟨b, o, none⟩)) 5).run Try.prog w = .ok (.pointer (some ⟨b, o + 5, none⟩)) w := fieldAt_run Try.runUnderlying114 rfl Try.sizeOf5 rfl rfl
theorem fld_114_6 : ∀ b o w, (Instr.fieldAt 114 (.pointer (some ⟨b, o, none⟩)) 6).run Try.prog w = .ok (.pointer (some ⟨b, o + 6, none⟩)) w := fieldAt_run Try.runUnderlying114 rfl Try.sizeOf108 rfl rfl
theorem fld_114_7 : ∀ b o w, (Instr.fieldAt 114 (.pointer (some ⟨b, o, none⟩)) 7).run Try.prog w = .ok (.pointer (some ⟨b, o + 7, none⟩)) w := fieldAt_run Try.runUnderlying114 rfl Try.sizeOf109 rfl rfl
theorem fld_114_8 : ∀ b o w, (Instr.fieldAt 114 (.pointer (some ⟨b, o, none⟩)) 8).run Try.prog w = .ok (.pointer (some ⟨b, o + 8, none⟩)) w := fieldAt_run Try.runUnderlying114 rfl Try.sizeOf110 rfl rfl
theorem fld_114_9 : ∀ b o w, (Instr.fieldAt 114 (.pointer (some ⟨b, o, none⟩)) 9).run Try.prog w = .ok (.pointer (some ⟨b, o + 9, none⟩)) w := fieldAt_run Try.runUnderlying114 rfl Try.sizeOf111 rfl rfl
theorem fld_114_10 : ∀ b o w, (Instr.fieldAt 114 (.pointer (some ⟨b, o, none⟩)) 10).run Try.prog w = .ok (.pointer (some ⟨b, o + 10, none⟩)) w := fieldAt_run Try.runUnderlying114 rfl Try.sizeOf112 rfl rfl
theorem fldr_24 {k off : Nat} (h : fldT24 k = some off) : ∀ b o w, (Instr.fieldAt 24 (.pointer (some ⟨b, o, none⟩)) k).run Try.prog w = .ok (.pointer (some ⟨b, o + off, none⟩)) w := by
  unfold fldT24 at h
  split at h <;> (try cases h)
  · exact fld_24_0
  · exact fld_24_1

theorem fldr_27 {k off : Nat} (h : fldT27 k = some off) : ∀ b o w, (Instr.fieldAt 27 (.pointer (some ⟨b, o, none⟩)) k).run Try.prog w = .ok (.pointer (some ⟨b, o + off, none⟩)) w := by
  unfold fldT27 at h
  split at h <;> (try cases h)
  · exact fld_27_0
  · exact fld_27_1
  · exact fld_27_2
  · exact fld_27_3

theorem fldr_29 {k off : Nat} (h : fldT29 k = some off) : ∀ b o w, (Instr.fieldAt 29 (.pointer (some ⟨b, o, none⟩)) k).run Try.prog w = .ok (.pointer (some ⟨b, o + off, none⟩)) w := by
  unfold fldT29 at h
  split at h <;> (try cases h)
  · exact fld_29_0
  · exact fld_29_1

theorem fldr_46 {k off : Nat} (h : fldT46 k = some off) : ∀ b o w, (Instr.fieldAt 46 (.pointer (some ⟨b, o, none⟩)) k).run Try.prog w = .ok (.pointer (some ⟨b, o + off, none⟩)) w := by
  unfold fldT46 at h
  split at h <;> (try cases h)
  · exact fld_46_0
  · exact fld_46_1

theorem fldr_50 {k off : Nat} (h : fldT50 k = some off) : ∀ b o w, (Instr.fieldAt 50 (.pointer (some ⟨b, o, none⟩)) k).run Try.prog w = .ok (.pointer (some ⟨b, o + off, none⟩)) w := by
  unfold fldT50 at h
  split at h <;> (try cases h)
  · exact fld_50_0
  · exact fld_50_1
  · exact fld_50_2
  · exact fld_50_3
  · exact fld_50_4
  · exact fld_50_5
  · exact fld_50_6
  · exact fld_50_7
  · exact fld_50_8
  · exact fld_50_9
  · exact fld_50_10

theorem fldr_54 {k off : Nat} (h : fldT54 k = some off) : ∀ b o w, (Instr.fieldAt 54 (.pointer (some ⟨b, o, none⟩)) k).run Try.prog w = .ok (.pointer (some ⟨b, o + off, none⟩)) w := by
  unfold fldT54 at h
  split at h <;> (try cases h)
  · exact fld_54_0
  · exact fld_54_1
  · exact fld_54_2

theorem fldr_89 {k off : Nat} (h : fldT89 k = some off) : ∀ b o w, (Instr.fieldAt 89 (.pointer (some ⟨b, o, none⟩)) k).run Try.prog w = .ok (.pointer (some ⟨b, o + off, none⟩)) w := by
  unfold fldT89 at h
  split at h <;> (try cases h)
  · exact fld_89_0
  · exact fld_89_1

theorem fldr_102 {k off : Nat} (h : fldT102 k = some off) : ∀ b o w, (Instr.fieldAt 102 (.pointer (some ⟨b, o, none⟩)) k).run Try.prog w = .ok (.pointer (some ⟨b, o + off, none⟩)) w := by
  unfold fldT102 at h
  split at h <;> (try cases h)
  · exact fld_102_0
  · exact fld_102_1
  · exact fld_102_2
  · exact fld_102_3

theorem fldr_114 {k off : Nat} (h : fldT114 k = some off) : ∀ b o w, (Instr.fieldAt 114 (.pointer (some ⟨b, o, none⟩)) k).run Try.prog w = .ok (.pointer (some ⟨b, o + off, none⟩)) w := by
  unfold fldT114 at h
  split at h <;> (try cases h)
  · exact fld_114_0
  · exact fld_114_1
  · exact fld_114_2
  · exact fld_114_3
  · exact fld_114_4
  · exact fld_114_5
  · exact fld_114_6
  · exact fld_114_7
  · exact fld_114_8
  · exact fld_114_9
  · exact fld_114_10

set_option maxHeartbeats 2000000 in
theorem fld_run {s k off : Nat} (h : fldT s k = some off) : ∀ b o w, (Instr.fieldAt s (.pointer (some ⟨b, o, none⟩)) k).run Try.prog w = .ok (.pointer (some ⟨b, o + off, none⟩)) w := by
  unfold fldT at h
  split at h
  · exact fldr_24 h
  · exact fldr_27 h
  · exact fldr_29 h
  · exact fldr_46 h
  · exact fldr_50 h
  · exact fldr_54 h
  · exact fldr_89 h
  · exact fldr_102 h
  · exact fldr_114 h
  · cases h

theorem sl_22 : SlFact Try.prog 22 3 1 8 [.int .i64 0] := SlFact.mk' (z := .int .i64 0) Try.underlying22 (by kernel_rfl) rfl rfl (by decide)
theorem sl_25 : SlFact Try.prog 25 50 13 136 [.int .i64 0, .int .i64 0, .int .i64 0, .int .i64 0, .int .i64 0, .int .i64 0, .bool false, .slice none 0 0, .slice none 0 0, .int .i64 0, .int .i64 0, .int .i64 0, .int .i64 0] := SlFact.mk' (z := .agg #[.int .i64 0, .int .i64 0, .int .i64 0, .int .i64 0, .int .i64 0, .int .i64 0, .bool false, .slice none 0 0, .slice none 0 0, .int .i64 0, .int .i64 0, .int .i64 0, .int .i64 0]) Try.underlying25 (by kernel_rfl) rfl rfl (by decide)
theorem sl_47 : SlFact Try.prog 47 54 5 40 [.int .i64 0, .int .i64 0, .int .i64 0, .int .i64 0, .int .i64 0] := SlFact.mk' (z := .agg #[.int .i64 0, .int .i64 0, .int .i64 0, .int .i64 0, .int .i64 0]) Try.underlying47 (by kernel_rfl) rfl rfl (by decide)
theorem sl_48 : SlFact Try.prog 48 89 4 32 [.int .i64 0, .int .i64 0, .int .i64 0, .int .i64 0] := SlFact.mk' (z := .agg #[.int .i64 0, .int .i64 0, .int .i64 0, .int .i64 0]) Try.underlying48 (by kernel_rfl) rfl rfl (by decide)
theorem sl_67 : SlFact Try.prog 67 22 1 24 [.slice none 0 0] := SlFact.mk' (z := .slice none 0 0) Try.underlying67 (by kernel_rfl) rfl rfl (by decide)
def slT : Nat → Option (Nat × Nat × Nat × List Value)
  | 22 => some (3, 1, 8, [.int .i64 0])
  | 25 => some (50, 13, 136, [.int .i64 0, .int .i64 0, .int .i64 0, .int .i64 0, .int .i64 0, .int .i64 0, .bool false, .slice none 0 0, .slice none 0 0, .int .i64 0, .int .i64 0, .int .i64 0, .int .i64 0])
  | 47 => some (54, 5, 40, [.int .i64 0, .int .i64 0, .int .i64 0, .int .i64 0, .int .i64 0])
  | 48 => some (89, 4, 32, [.int .i64 0, .int .i64 0, .int .i64 0, .int .i64 0])
  | 67 => some (22, 1, 24, [.slice none 0 0])
  | _ => none

theorem sl_run {t el sz bt : Nat} {zs : List Value} (h : slT t = some (el, sz, bt, zs)) : SlFact Try.prog t el sz bt zs := by
  unfold slT at h
  split at h <;> (try cases h)
  · exact sl_22
  · exact sl_25
  · exact sl_47
  · exact sl_48
  · exact sl_67

set_option maxHeartbeats 1000000 in
theorem bld_24_ {e : Env}   : ∀ w, (Instr.build 24 #[]).run Try.prog w = .ok (.agg #[.slice none 0 0, .slice none 0 0]) w := by
  intro w
  simp [Instr.build, go_sem]

set_option maxHeartbeats 1000000 in
theorem bld_24_0_1 {e : Env} {x0 x1 : Operand} {A0 : Option Addr} {l0 c0 : Nat} {A1 : Option Addr} {l1 c1 : Nat} (h0 : ev e x0 = .slice A0 l0 c0) (h1 : ev e x1 = .slice A1 l1 c1) : ∀ w, (Instr.build 24 #[(0, ev e x0), (1, ev e x1)]).run Try.prog w = .ok (.agg #[.slice A0 l0 c0, .slice A1 l1 c1]) w := by
  intro w
  rw [h0, h1]
  simp [Instr.build, go_sem]

set_option maxHeartbeats 1000000 in
theorem bld_27_0_1_2 {e : Env} {x0 x1 x2 : Operand} {v0_0 v0_1 : Value} {A1 : Option Addr} {l1 c1 : Nat} {n2 : Int} (h0 : ev e x0 = .agg #[v0_0, v0_1]) (h1 : ev e x1 = .slice A1 l1 c1) (h2 : ev e x2 = .int .i64 n2) : ∀ w, (Instr.build 27 #[(0, ev e x0), (1, ev e x1), (2, ev e x2)]).run Try.prog w = .ok (.agg #[v0_0, v0_1, .slice A1 l1 c1, .int .i64 n2, .int .i64 0]) w := by
  intro w
  rw [h0, h1, h2]
  simp [Instr.build, go_sem]

set_option maxHeartbeats 1000000 in
theorem bld_29_0_1 {e : Env} {x0 x1 : Operand} {n0 : Int} {n1 : Int} (h0 : ev e x0 = .int .i64 n0) (h1 : ev e x1 = .int .i64 n1) : ∀ w, (Instr.build 29 #[(0, ev e x0), (1, ev e x1)]).run Try.prog w = .ok (.agg #[.int .i64 n0, .int .i64 n1]) w := by
  intro w
  rw [h0, h1]
  simp [Instr.build, go_sem]

set_option maxHeartbeats 1000000 in
theorem bld_29_1 {e : Env} {x0 : Operand} {n0 : Int} (h0 : ev e x0 = .int .i64 n0) : ∀ w, (Instr.build 29 #[(1, ev e x0)]).run Try.prog w = .ok (.agg #[.int .i64 0, .int .i64 n0]) w := by
  intro w
  rw [h0]
  simp [Instr.build, go_sem]

set_option maxHeartbeats 1000000 in
theorem bld_46_ {e : Env}   : ∀ w, (Instr.build 46 #[]).run Try.prog w = .ok (.agg #[.int .i64 0, .int .i64 0]) w := by
  intro w
  simp [Instr.build, go_sem]

set_option maxHeartbeats 1000000 in
theorem bld_46_0_1 {e : Env} {x0 x1 : Operand} {n0 : Int} {n1 : Int} (h0 : ev e x0 = .int .i64 n0) (h1 : ev e x1 = .int .i64 n1) : ∀ w, (Instr.build 46 #[(0, ev e x0), (1, ev e x1)]).run Try.prog w = .ok (.agg #[.int .i64 n0, .int .i64 n1]) w := by
  intro w
  rw [h0, h1]
  simp [Instr.build, go_sem]

set_option maxHeartbeats 1000000 in
theorem bld_50_0_2_3_5_7_9 {e : Env} {x0 x1 x2 x3 x4 x5 : Operand} {n0 : Int} {v1_0 v1_1 : Value} {v2_0 v2_1 : Value} {A3 : Option Addr} {l3 c3 : Nat} {n4 : Int} {n5 : Int} (h0 : ev e x0 = .int .i64 n0) (h1 : ev e x1 = .agg #[v1_0, v1_1]) (h2 : ev e x2 = .agg #[v2_0, v2_1]) (h3 : ev e x3 = .slice A3 l3 c3) (h4 : ev e x4 = .int .i64 n4) (h5 : ev e x5 = .int .i64 n5) : ∀ w, (Instr.build 50 #[(0, ev e x0), (2, ev e x1), (3, ev e x2), (5, ev e x3), (7, ev e x4), (9, ev e x5)]).run Try.prog w = .ok (.agg #[.int .i64 n0, .int .i64 0, v1_0, v1_1, v2_0, v2_1, .bool false, .slice A3 l3 c3, .slice none 0 0, .int .i64 n4, .int .i64 0, .int .i64 n5, .int .i64 0]) w := by
  intro w
  rw [h0, h1, h2, h3, h4, h5]
  simp [Instr.build, go_sem]

set_option maxHeartbeats 1000000 in
theorem bld_54_0_1_2 {e : Env} {x0 x1 x2 : Operand} {n0 : Int} {v1_0 v1_1 : Value} {v2_0 v2_1 : Value} (h0 : ev e x0 = .int .i64 n0) (h1 : ev e x1 = .agg #[v1_0, v1_1]) (h2 : ev e x2 = .agg #[v2_0, v2_1]) : ∀ w, (Instr.build 54 #[(0, ev e x0), (1, ev e x1), (2, ev e x2)]).run Try.prog w = .ok (.agg #[.int .i64 n0, v1_0, v1_1, v2_0, v2_1]) w := by
  intro w
  rw [h0, h1, h2]
  simp [Instr.build, go_sem]

set_option maxHeartbeats 1000000 in
theorem bsl_22_1_0 {e : Env} {x0 : Operand} {n0 : Int} (h0 : ev e x0 = .int .i64 n0) : ∀ w, (Instr.buildSlice 22 1 #[(0, ev e x0)]).run Try.prog w = .ok (.slice (some ⟨w.heap.size, 0, none⟩) 1 1) (w.alloc (.cells ([.int .i64 n0] : List Value).toArray 3)) := by
  intro w
  rw [h0]
  simp [Instr.buildSlice, go_sem]

set_option maxHeartbeats 1000000 in
theorem bsl_22_2_0_1 {e : Env} {x0 x1 : Operand} {n0 : Int} {n1 : Int} (h0 : ev e x0 = .int .i64 n0) (h1 : ev e x1 = .int .i64 n1) : ∀ w, (Instr.buildSlice 22 2 #[(0, ev e x0), (1, ev e x1)]).run Try.prog w = .ok (.slice (some ⟨w.heap.size, 0, none⟩) 2 2) (w.alloc (.cells ([.int .i64 n0, .int .i64 n1] : List Value).toArray 3)) := by
  intro w
  rw [h0, h1]
  simp [Instr.buildSlice, go_sem]

set_option maxHeartbeats 1000000 in
theorem bsl_25_0_ {e : Env}   : ∀ w, (Instr.buildSlice 25 0 #[]).run Try.prog w = .ok (.slice (some ⟨w.heap.size, 0, none⟩) 0 0) (w.alloc (.cells ([] : List Value).toArray 50)) := by
  intro w
  simp [Instr.buildSlice, go_sem]

set_option maxHeartbeats 1000000 in
theorem bsl_25_1_0 {e : Env} {x0 : Operand} {v0_0 v0_1 v0_2 v0_3 v0_4 v0_5 v0_6 v0_7 v0_8 v0_9 v0_10 v0_11 v0_12 : Value} (h0 : ev e x0 = .agg #[v0_0, v0_1, v0_2, v0_3, v0_4, v0_5, v0_6, v0_7, v0_8, v0_9, v0_10, v0_11, v0_12]) : ∀ w, (Instr.buildSlice 25 1 #[(0, ev e x0)]).run Try.prog w = .ok (.slice (some ⟨w.heap.size, 0, none⟩) 1 1) (w.alloc (.cells ([v0_0, v0_1, v0_2, v0_3, v0_4, v0_5, v0_6, v0_7, v0_8, v0_9, v0_10, v0_11, v0_12] : List Value).toArray 50)) := by
  intro w
  rw [h0]
  simp [Instr.buildSlice, go_sem]

set_option maxHeartbeats 1000000 in
theorem bsl_25_2_0_1 {e : Env} {x0 x1 : Operand} {v0_0 v0_1 v0_2 v0_3 v0_4 v0_5 v0_6 v0_7 v0_8 v0_9 v0_10 v0_11 v0_12 : Value} {v1_0 v1_1 v1_2 v1_3 v1_4 v1_5 v1_6 v1_7 v1_8 v1_9 v1_10 v1_11 v1_12 : Value} (h0 : ev e x0 = .agg #[v0_0, v0_1, v0_2, v0_3, v0_4, v0_5, v0_6, v0_7, v0_8, v0_9, v0_10, v0_11, v0_12]) (h1 : ev e x1 = .agg #[v1_0, v1_1, v1_2, v1_3, v1_4, v1_5, v1_6, v1_7, v1_8, v1_9, v1_10, v1_11, v1_12]) : ∀ w, (Instr.buildSlice 25 2 #[(0, ev e x0), (1, ev e x1)]).run Try.prog w = .ok (.slice (some ⟨w.heap.size, 0, none⟩) 2 2) (w.alloc (.cells ([v0_0, v0_1, v0_2, v0_3, v0_4, v0_5, v0_6, v0_7, v0_8, v0_9, v0_10, v0_11, v0_12, v1_0, v1_1, v1_2, v1_3, v1_4, v1_5, v1_6, v1_7, v1_8, v1_9, v1_10, v1_11, v1_12] : List Value).toArray 50)) := by
  intro w
  rw [h0, h1]
  simp [Instr.buildSlice, go_sem]

set_option maxHeartbeats 1000000 in
theorem bsl_47_1_0 {e : Env} {x0 : Operand} {v0_0 v0_1 v0_2 v0_3 v0_4 : Value} (h0 : ev e x0 = .agg #[v0_0, v0_1, v0_2, v0_3, v0_4]) : ∀ w, (Instr.buildSlice 47 1 #[(0, ev e x0)]).run Try.prog w = .ok (.slice (some ⟨w.heap.size, 0, none⟩) 1 1) (w.alloc (.cells ([v0_0, v0_1, v0_2, v0_3, v0_4] : List Value).toArray 54)) := by
  intro w
  rw [h0]
  simp [Instr.buildSlice, go_sem]

set_option maxHeartbeats 1000000 in
theorem bsl_67_2_0_1 {e : Env} {x0 x1 : Operand} {A0 : Option Addr} {l0 c0 : Nat} {A1 : Option Addr} {l1 c1 : Nat} (h0 : ev e x0 = .slice A0 l0 c0) (h1 : ev e x1 = .slice A1 l1 c1) : ∀ w, (Instr.buildSlice 67 2 #[(0, ev e x0), (1, ev e x1)]).run Try.prog w = .ok (.slice (some ⟨w.heap.size, 0, none⟩) 2 2) (w.alloc (.cells ([.slice A0 l0 c0, .slice A1 l1 c1] : List Value).toArray 22)) := by
  intro w
  rw [h0, h1]
  simp [Instr.buildSlice, go_sem]

def funT : Nat → Bool
  | 3 => true
  | 4 => true
  | 5 => true
  | 6 => true
  | 7 => true
  | 8 => true
  | 9 => true
  | 10 => true
  | 11 => true
  | 12 => true
  | 13 => true
  | 14 => true
  | 15 => true
  | 16 => true
  | 17 => true
  | 18 => true
  | 19 => true
  | 20 => true
  | 21 => true
  | 22 => true
  | 23 => true
  | 24 => true
  | 25 => true
  | 26 => true
  | 27 => true
  | 28 => true
  | 29 => true
  | 30 => true
  | 31 => true
  | 32 => true
  | 33 => true
  | 34 => true
  | 35 => true
  | 36 => true
  | 37 => true
  | 38 => true
  | 39 => true
  | 40 => true
  | 41 => true
  | 42 => true
  | 43 => true
  | 44 => true
  | 45 => true
  | 46 => true
  | 47 => true
  | 48 => true
  | 49 => true
  | 50 => true
  | 51 => true
  | 52 => true
  | 53 => true
  | 54 => true
  | 55 => true
  | 56 => true
  | 57 => true
  | 58 => true
  | 59 => true
  | 60 => true
  | 62 => true
  | 63 => true
  | 64 => true
  | 65 => true
  | _ => false

set_option maxHeartbeats 2000000 in
theorem fun_run {f : Nat} (h : funT f = true) : ∀ (args : Array Value) (w : World), (callFunc f args).run Try.prog w = .ok (.enter f args) w := by
  unfold funT at h
  split at h <;> (try cases h)
  · exact Try.call3
  · exact Try.call4
  · exact Try.call5
  · exact Try.call6
  · exact Try.call7
  · exact Try.call8
  · exact Try.call9
  · exact Try.call10
  · exact Try.call11
  · exact Try.call12
  · exact Try.call13
  · exact Try.call14
  · exact Try.call15
  · exact Try.call16
  · exact Try.call17
  · exact Try.call18
  · exact Try.call19
  · exact Try.call20
  · exact Try.call21
  · exact Try.call22
  · exact Try.call23
  · exact Try.call24
  · exact Try.call25
  · exact Try.call26
  · exact Try.call27
  · exact Try.call28
  · exact Try.call29
  · exact Try.call30
  · exact Try.call31
  · exact Try.call32
  · exact Try.call33
  · exact Try.call34
  · exact Try.call35
  · exact Try.call36
  · exact Try.call37
  · exact Try.call38
  · exact Try.call39
  · exact Try.call40
  · exact Try.call41
  · exact Try.call42
  · exact Try.call43
  · exact Try.call44
  · exact Try.call45
  · exact Try.call46
  · exact Try.call47
  · exact Try.call48
  · exact Try.call49
  · exact Try.call50
  · exact Try.call51
  · exact Try.call52
  · exact Try.call53
  · exact Try.call54
  · exact Try.call55
  · exact Try.call56
  · exact Try.call57
  · exact Try.call58
  · exact Try.call59
  · exact Try.call60
  · exact Try.call62
  · exact Try.call63
  · exact Try.call64
  · exact Try.call65

theorem mixed : Try.prog.follows .mixedOrders = true := by kernel_rfl

end Go.Proofs.Ytdlfadbdchjinaa
