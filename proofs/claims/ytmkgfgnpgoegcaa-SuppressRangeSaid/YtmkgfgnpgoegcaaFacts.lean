/-
  The types and functions of this seat, as the walk wants them (written by a program from the translation).
-/
import Derived.Test.YtmkgfgnpgoegcaaProg
import Derived.Test.YtmkgfgnpgoegcaaMem
set_option linter.all false
namespace Go.Proofs.Ytmkgfgnpgoegcaa
open Go Go.W

def aggT : Nat → Option Bool
  | 2 => some false
  | 3 => some false
  | 4 => some false
  | 5 => some false
  | 6 => some false
  | 21 => some false
  | 22 => some false
  | 23 => some true
  | 24 => some true
  | 25 => some false
  | 26 => some false
  | 27 => some true
  | 28 => some true
  | 29 => some false
  | 31 => some false
  | 32 => some false
  | 33 => some false
  | 35 => some false
  | 36 => some false
  | 37 => some false
  | 38 => some false
  | 39 => some false
  | 40 => some false
  | 41 => some true
  | 42 => some true
  | 43 => some false
  | 44 => some false
  | 45 => some false
  | 46 => some false
  | 47 => some false
  | 48 => some false
  | 49 => some false
  | 51 => some false
  | 52 => some false
  | 53 => some false
  | 54 => some true
  | 55 => some true
  | 56 => some true
  | 57 => some false
  | 58 => some false
  | 59 => some false
  | 60 => some false
  | 61 => some false
  | 62 => some false
  | 63 => some false
  | 64 => some true
  | 65 => some true
  | 66 => some false
  | 67 => some true
  | 68 => some true
  | 69 => some false
  | 71 => some false
  | 72 => some false
  | 73 => some false
  | 74 => some false
  | 75 => some true
  | 76 => some true
  | 77 => some false
  | 78 => some true
  | 79 => some true
  | 81 => some false
  | 82 => some false
  | 83 => some false
  | 84 => some false
  | 85 => some false
  | 86 => some true
  | 87 => some true
  | 88 => some false
  | 89 => some false
  | 90 => some false
  | 91 => some false
  | 92 => some true
  | 93 => some true
  | 94 => some true
  | 95 => some true
  | 96 => some true
  | 97 => some false
  | 98 => some false
  | 99 => some false
  | 100 => some false
  | 101 => some false
  | 102 => some false
  | 103 => some false
  | 104 => some false
  | 105 => some true
  | 106 => some true
  | _ => none

set_option maxHeartbeats 2000000 in
theorem agg_run {t : Nat} {v : _} (h : aggT t = some v) : ∀ w, (isAgg t).run Try.prog w = .ok v w := by
  unfold aggT at h
  split at h <;> (try cases h)
  · exact Try.isAgg2
  · exact Try.isAgg3
  · exact Try.isAgg4
  · exact Try.isAgg5
  · exact Try.isAgg6
  · exact Try.isAgg21
  · exact Try.isAgg22
  · exact Try.isAgg23
  · exact Try.isAgg24
  · exact Try.isAgg25
  · exact Try.isAgg26
  · exact Try.isAgg27
  · exact Try.isAgg28
  · exact Try.isAgg29
  · exact Try.isAgg31
  · exact Try.isAgg32
  · exact Try.isAgg33
  · exact Try.isAgg35
  · exact Try.isAgg36
  · exact Try.isAgg37
  · exact Try.isAgg38
  · exact Try.isAgg39
  · exact Try.isAgg40
  · exact Try.isAgg41
  · exact Try.isAgg42
  · exact Try.isAgg43
  · exact Try.isAgg44
  · exact Try.isAgg45
  · exact Try.isAgg46
  · exact Try.isAgg47
  · exact Try.isAgg48
  · exact Try.isAgg49
  · exact Try.isAgg51
  · exact Try.isAgg52
  · exact Try.isAgg53
  · exact Try.isAgg54
  · exact Try.isAgg55
  · exact Try.isAgg56
  · exact Try.isAgg57
  · exact Try.isAgg58
  · exact Try.isAgg59
  · exact Try.isAgg60
  · exact Try.isAgg61
  · exact Try.isAgg62
  · exact Try.isAgg63
  · exact Try.isAgg64
  · exact Try.isAgg65
  · exact Try.isAgg66
  · exact Try.isAgg67
  · exact Try.isAgg68
  · exact Try.isAgg69
  · exact Try.isAgg71
  · exact Try.isAgg72
  · exact Try.isAgg73
  · exact Try.isAgg74
  · exact Try.isAgg75
  · exact Try.isAgg76
  · exact Try.isAgg77
  · exact Try.isAgg78
  · exact Try.isAgg79
  · exact Try.isAgg81
  · exact Try.isAgg82
  · exact Try.isAgg83
  · exact Try.isAgg84
  · exact Try.isAgg85
  · exact Try.isAgg86
  · exact Try.isAgg87
  · exact Try.isAgg88
  · exact Try.isAgg89
  · exact Try.isAgg90
  · exact Try.isAgg91
  · exact Try.isAgg92
  · exact Try.isAgg93
  · exact Try.isAgg94
  · exact Try.isAgg95
  · exact Try.isAgg96
  · exact Try.isAgg97
  · exact Try.isAgg98
  · exact Try.isAgg99
  · exact Try.isAgg100
  · exact Try.isAgg101
  · exact Try.isAgg102
  · exact Try.isAgg103
  · exact Try.isAgg104
  · exact Try.isAgg105
  · exact Try.isAgg106

def sizeT : Nat → Option Nat
  | 2 => some 1
  | 3 => some 1
  | 4 => some 1
  | 5 => some 1
  | 6 => some 1
  | 21 => some 1
  | 22 => some 1
  | 23 => some 3
  | 24 => some 3
  | 25 => some 1
  | 26 => some 1
  | 27 => some 2
  | 28 => some 2
  | 29 => some 1
  | 31 => some 1
  | 32 => some 1
  | 33 => some 1
  | 35 => some 1
  | 36 => some 1
  | 37 => some 1
  | 38 => some 1
  | 39 => some 1
  | 40 => some 1
  | 41 => some 7
  | 42 => some 7
  | 43 => some 1
  | 44 => some 1
  | 45 => some 1
  | 46 => some 1
  | 47 => some 1
  | 48 => some 1
  | 49 => some 1
  | 51 => some 1
  | 52 => some 1
  | 53 => some 1
  | 54 => some 16
  | 55 => some 256
  | 56 => some 256
  | 57 => some 1
  | 58 => some 1
  | 59 => some 1
  | 60 => some 1
  | 61 => some 1
  | 62 => some 1
  | 63 => some 1
  | 64 => some 5
  | 65 => some 5
  | 66 => some 1
  | 67 => some 2
  | 68 => some 2
  | 69 => some 1
  | 71 => some 1
  | 72 => some 1
  | 73 => some 1
  | 74 => some 1
  | 75 => some 4
  | 76 => some 4
  | 77 => some 1
  | 78 => some 3
  | 79 => some 3
  | 81 => some 1
  | 82 => some 1
  | 83 => some 1
  | 84 => some 1
  | 85 => some 1
  | 86 => some 6
  | 87 => some 6
  | 88 => some 1
  | 89 => some 1
  | 90 => some 1
  | 91 => some 1
  | 92 => some 4
  | 93 => some 4
  | 94 => some 0
  | 95 => some 0
  | 96 => some 0
  | 97 => some 1
  | 98 => some 1
  | 99 => some 1
  | 100 => some 1
  | 101 => some 1
  | 102 => some 1
  | 103 => some 1
  | 104 => some 1
  | 105 => some 11
  | 106 => some 11
  | _ => none

set_option maxHeartbeats 2000000 in
theorem size_run {t : Nat} {v : _} (h : sizeT t = some v) : ∀ w, (Go.sizeOf t).run Try.prog w = .ok v w := by
  unfold sizeT at h
  split at h <;> (try cases h)
  · exact Try.sizeOf2
  · exact Try.sizeOf3
  · exact Try.sizeOf4
  · exact Try.sizeOf5
  · exact Try.sizeOf6
  · exact Try.sizeOf21
  · exact Try.sizeOf22
  · exact Try.sizeOf23
  · exact Try.sizeOf24
  · exact Try.sizeOf25
  · exact Try.sizeOf26
  · exact Try.sizeOf27
  · exact Try.sizeOf28
  · exact Try.sizeOf29
  · exact Try.sizeOf31
  · exact Try.sizeOf32
  · exact Try.sizeOf33
  · exact Try.sizeOf35
  · exact Try.sizeOf36
  · exact Try.sizeOf37
  · exact Try.sizeOf38
  · exact Try.sizeOf39
  · exact Try.sizeOf40
  · exact Try.sizeOf41
  · exact Try.sizeOf42
  · exact Try.sizeOf43
  · exact Try.sizeOf44
  · exact Try.sizeOf45
  · exact Try.sizeOf46
  · exact Try.sizeOf47
  · exact Try.sizeOf48
  · exact Try.sizeOf49
  · exact Try.sizeOf51
  · exact Try.sizeOf52
  · exact Try.sizeOf53
  · exact Try.sizeOf54
  · exact Try.sizeOf55
  · exact Try.sizeOf56
  · exact Try.sizeOf57
  · exact Try.sizeOf58
  · exact Try.sizeOf59
  · exact Try.sizeOf60
  · exact Try.sizeOf61
  · exact Try.sizeOf62
  · exact Try.sizeOf63
  · exact Try.sizeOf64
  · exact Try.sizeOf65
  · exact Try.sizeOf66
  · exact Try.sizeOf67
  · exact Try.sizeOf68
  · exact Try.sizeOf69
  · exact Try.sizeOf71
  · exact Try.sizeOf72
  · exact Try.sizeOf73
  · exact Try.sizeOf74
  · exact Try.sizeOf75
  · exact Try.sizeOf76
  · exact Try.sizeOf77
  · exact Try.sizeOf78
  · exact Try.sizeOf79
  · exact Try.sizeOf81
  · exact Try.sizeOf82
  · exact Try.sizeOf83
  · exact Try.sizeOf84
  · exact Try.sizeOf85
  · exact Try.sizeOf86
  · exact Try.sizeOf87
  · exact Try.sizeOf88
  · exact Try.sizeOf89
  · exact Try.sizeOf90
  · exact Try.sizeOf91
  · exact Try.sizeOf92
  · exact Try.sizeOf93
  · exact Try.sizeOf94
  · exact Try.sizeOf95
  · exact Try.sizeOf96
  · exact Try.sizeOf97
  · exact Try.sizeOf98
  · exact Try.sizeOf99
  · exact Try.sizeOf100
  · exact Try.sizeOf101
  · exact Try.sizeOf102
  · exact Try.sizeOf103
  · exact Try.sizeOf104
  · exact Try.sizeOf105
  · exact Try.sizeOf106

def elT : Nat → Option Nat
  | 22 => some 3
  | 25 => some 4
  | 45 => some 65
  | 66 => some 76
  | 74 => some 73
  | 84 => some 87
  | _ => none

set_option maxHeartbeats 2000000 in
theorem el_run {t : Nat} {v : _} (h : elT t = some v) : ∀ w, (underlying t).run Try.prog w = .ok (.slice v) w := by
  unfold elT at h
  split at h <;> (try cases h)
  · exact Try.runUnderlying22
  · exact Try.runUnderlying25
  · exact Try.runUnderlying45
  · exact Try.runUnderlying66
  · exact Try.runUnderlying74
  · exact Try.runUnderlying84

def ikT : Nat → Option IntKind
  | 2 => some .i64
  | 3 => some .i64
  | 5 => some .u8
  | 6 => some .u8
  | 21 => some .i32
  | 29 => some .i64
  | 98 => some .u32
  | 99 => some .u8
  | 100 => some .u8
  | 103 => some .i32
  | 104 => some .i32
  | _ => none

set_option maxHeartbeats 2000000 in
theorem ik_run {t : Nat} {v : _} (h : ikT t = some v) : ∀ w, (underlying t).run Try.prog w = .ok (.int v) w := by
  unfold ikT at h
  split at h <;> (try cases h)
  · exact Try.runUnderlying2
  · exact Try.runUnderlying3
  · exact Try.runUnderlying5
  · exact Try.runUnderlying6
  · exact Try.runUnderlying21
  · exact Try.runUnderlying29
  · exact Try.runUnderlying98
  · exact Try.runUnderlying99
  · exact Try.runUnderlying100
  · exact Try.runUnderlying103
  · exact Try.runUnderlying104

def arrT : Nat → Option (Nat × Nat)
  | 54 => some (16, 3)
  | 55 => some (16, 54)
  | 56 => some (16, 54)
  | 94 => some (0, 16)
  | _ => none

set_option maxHeartbeats 2000000 in
theorem arr_run {t : Nat} {v : _} (h : arrT t = some v) : ∀ w, (underlying t).run Try.prog w = .ok (.array v.1 v.2) w := by
  unfold arrT at h
  split at h <;> (try cases h)
  · exact Try.runUnderlying54
  · exact Try.runUnderlying55
  · exact Try.runUnderlying56
  · exact Try.runUnderlying94

def zeroT : Nat → Option Value
  | 2 => some (.int .i64 0)
  | 3 => some (.int .i64 0)
  | 4 => some (.bool false)
  | 5 => some (.int .u8 0)
  | 6 => some (.int .u8 0)
  | 21 => some (.int .i32 0)
  | 22 => some (.slice none 0 0)
  | 23 => some (.agg #[.int .i64 0, .int .i64 0, .slice none 0 0])
  | 24 => some (.agg #[.int .i64 0, .int .i64 0, .slice none 0 0])
  | 25 => some (.slice none 0 0)
  | 26 => some (.nilFunc)
  | 27 => some (.agg #[.int .i64 0, .int .i64 0])
  | 28 => some (.agg #[.int .i64 0, .int .i64 0])
  | 29 => some (.int .i64 0)
  | 31 => some (.nilFunc)
  | 32 => some (.nilFunc)
  | 33 => some (.nilFunc)
  | 35 => some (.nilFunc)
  | 36 => some (.nilFunc)
  | 37 => some (.nilFunc)
  | 38 => some (.nilFunc)
  | 39 => some (.nilFunc)
  | 40 => some (.pointer none)
  | 41 => some (.agg #[.int .i64 0, .int .i64 0, .slice none 0 0, .slice none 0 0, .slice none 0 0, .int .i64 0, .slice none 0 0])
  | 42 => some (.agg #[.int .i64 0, .int .i64 0, .slice none 0 0, .slice none 0 0, .slice none 0 0, .int .i64 0, .slice none 0 0])
  | 43 => some (.nilFunc)
  | 44 => some (.nilFunc)
  | 45 => some (.slice none 0 0)
  | 46 => some (.nilFunc)
  | 47 => some (.nilFunc)
  | 48 => some (.nilFunc)
  | 49 => some (.nilFunc)
  | 51 => some (.nilFunc)
  | 52 => some (.nilFunc)
  | 53 => some (.nilFunc)
  | 54 => some (.agg #[.int .i64 0, .int .i64 0, .int .i64 0, .int .i64 0, .int .i64 0, .int .i64 0, .int .i64 0, .int .i64 0, .int .i64 0, .int .i64 0, .int .i64 0, .int .i64 0, .int .i64 0, .int .i64 0, .int .i64 0, .int .i64 0])
  | 57 => some (.nilFunc)
  | 58 => some (.nilFunc)
  | 59 => some (.nilFunc)
  | 60 => some (.nilFunc)
  | 61 => some (.nilFunc)
  | 62 => some (.nilFunc)
  | 63 => some (.nilFunc)
  | 64 => some (.agg #[.int .u8 0, .int .u8 0, .int .u8 0, .int .u8 0, .int .u8 0])
  | 65 => some (.agg #[.int .u8 0, .int .u8 0, .int .u8 0, .int .u8 0, .int .u8 0])
  | 66 => some (.slice none 0 0)
  | 67 => some (.agg #[.int .i64 0, .slice none 0 0])
  | 68 => some (.agg #[.int .i64 0, .slice none 0 0])
  | 69 => some (.nilFunc)
  | 71 => some (.nilFunc)
  | 72 => some (.nilFunc)
  | 73 => some (.nilFunc)
  | 74 => some (.slice none 0 0)
  | 75 => some (.agg #[.int .i64 0, .int .i64 0, .int .i64 0, .int .i64 0])
  | 76 => some (.agg #[.int .i64 0, .int .i64 0, .int .i64 0, .int .i64 0])
  | 77 => some (.nilFunc)
  | 78 => some (.agg #[.int .i64 0, .slice none 0 0, .slice none 0 0])
  | 79 => some (.agg #[.int .i64 0, .slice none 0 0, .slice none 0 0])
  | 81 => some (.nilFunc)
  | 82 => some (.nilFunc)
  | 83 => some (.nilFunc)
  | 84 => some (.slice none 0 0)
  | 85 => some (.nilFunc)
  | 86 => some (.agg #[.int .i64 0, .int .i64 0, .int .i64 0, .bool false, .bool false, .int .i64 0])
  | 87 => some (.agg #[.int .i64 0, .int .i64 0, .int .i64 0, .bool false, .bool false, .int .i64 0])
  | 88 => some (.nilFunc)
  | 89 => some (.nilFunc)
  | 90 => some (.nilFunc)
  | 91 => some (.nilFunc)
  | 94 => some (.agg #[])
  | 95 => some (.agg #[])
  | 96 => some (.agg #[])
  | 97 => some (.nilFunc)
  | 98 => some (.int .u32 0)
  | 99 => some (.int .u8 0)
  | 100 => some (.int .u8 0)
  | 101 => some (.nilFunc)
  | 102 => some (.pointer none)
  | 103 => some (.int .i32 0)
  | 104 => some (.int .i32 0)
  | 105 => some (.agg #[.int .u64 0, .int .u64 0, .int .u32 0, .int .u8 0, .int .u8 0, .int .u8 0, .int .u8 0, .nilFunc, .pointer none, .int .i32 0, .int .i32 0])
  | 106 => some (.agg #[.int .u64 0, .int .u64 0, .int .u32 0, .int .u8 0, .int .u8 0, .int .u8 0, .int .u8 0, .nilFunc, .pointer none, .int .i32 0, .int .i32 0])
  | _ => none

set_option maxHeartbeats 2000000 in
theorem zero_run {t : Nat} {v : _} (h : zeroT t = some v) : ∀ w, (zeroValue t).run Try.prog w = .ok v w := by
  unfold zeroT at h
  split at h <;> (try cases h)
  · exact Try.zeroValue2
  · exact Try.zeroValue3
  · exact Try.zeroValue4
  · exact Try.zeroValue5
  · exact Try.zeroValue6
  · exact Try.zeroValue21
  · exact Try.zeroValue22
  · exact Try.zeroValue23
  · exact Try.zeroValue24
  · exact Try.zeroValue25
  · exact Try.zeroValue26
  · exact Try.zeroValue27
  · exact Try.zeroValue28
  · exact Try.zeroValue29
  · exact Try.zeroValue31
  · exact Try.zeroValue32
  · exact Try.zeroValue33
  · exact Try.zeroValue35
  · exact Try.zeroValue36
  · exact Try.zeroValue37
  · exact Try.zeroValue38
  · exact Try.zeroValue39
  · exact Try.zeroValue40
  · exact Try.zeroValue41
  · exact Try.zeroValue42
  · exact Try.zeroValue43
  · exact Try.zeroValue44
  · exact Try.zeroValue45
  · exact Try.zeroValue46
  · exact Try.zeroValue47
  · exact Try.zeroValue48
  · exact Try.zeroValue49
  · exact Try.zeroValue51
  · exact Try.zeroValue52
  · exact Try.zeroValue53
  · exact Try.zeroValue54
  · exact Try.zeroValue57
  · exact Try.zeroValue58
  · exact Try.zeroValue59
  · exact Try.zeroValue60
  · exact Try.zeroValue61
  · exact Try.zeroValue62
  · exact Try.zeroValue63
  · exact Try.zeroValue64
  · exact Try.zeroValue65
  · exact Try.zeroValue66
  · exact Try.zeroValue67
  · exact Try.zeroValue68
  · exact Try.zeroValue69
  · exact Try.zeroValue71
  · exact Try.zeroValue72
  · exact Try.zeroValue73
  · exact Try.zeroValue74
  · exact Try.zeroValue75
  · exact Try.zeroValue76
  · exact Try.zeroValue77
  · exact Try.zeroValue78
  · exact Try.zeroValue79
  · exact Try.zeroValue81
  · exact Try.zeroValue82
  · exact Try.zeroValue83
  · exact Try.zeroValue84
  · exact Try.zeroValue85
  · exact Try.zeroValue86
  · exact Try.zeroValue87
  · exact Try.zeroValue88
  · exact Try.zeroValue89
  · exact Try.zeroValue90
  · exact Try.zeroValue91
  · exact Try.zeroValue94
  · exact Try.zeroValue95
  · exact Try.zeroValue96
  · exact Try.zeroValue97
  · exact Try.zeroValue98
  · exact Try.zeroValue99
  · exact Try.zeroValue100
  · exact Try.zeroValue101
  · exact Try.zeroValue102
  · exact Try.zeroValue103
  · exact Try.zeroValue104
  · exact Try.zeroValue105
  · exact Try.zeroValue106

def bytT : Nat → Option (Nat × Nat)
  | 2 => some (1, 8)
  | 3 => some (1, 8)
  | 4 => some (1, 1)
  | 5 => some (1, 1)
  | 6 => some (1, 1)
  | 21 => some (1, 4)
  | 22 => some (1, 24)
  | 23 => some (3, 40)
  | 24 => some (3, 40)
  | 25 => some (1, 24)
  | 26 => some (1, 8)
  | 27 => some (2, 16)
  | 28 => some (2, 16)
  | 29 => some (1, 8)
  | 31 => some (1, 8)
  | 32 => some (1, 8)
  | 33 => some (1, 8)
  | 35 => some (1, 8)
  | 36 => some (1, 8)
  | 37 => some (1, 8)
  | 38 => some (1, 8)
  | 39 => some (1, 8)
  | 40 => some (1, 8)
  | 41 => some (7, 120)
  | 42 => some (7, 120)
  | 43 => some (1, 8)
  | 44 => some (1, 8)
  | 45 => some (1, 24)
  | 46 => some (1, 8)
  | 47 => some (1, 8)
  | 48 => some (1, 8)
  | 49 => some (1, 8)
  | 51 => some (1, 8)
  | 52 => some (1, 8)
  | 53 => some (1, 8)
  | 54 => some (16, 128)
  | 55 => some (256, 2048)
  | 56 => some (256, 2048)
  | 57 => some (1, 8)
  | 58 => some (1, 8)
  | 59 => some (1, 8)
  | 60 => some (1, 8)
  | 61 => some (1, 8)
  | 62 => some (1, 8)
  | 63 => some (1, 8)
  | 64 => some (5, 5)
  | 65 => some (5, 5)
  | 66 => some (1, 24)
  | 67 => some (2, 32)
  | 68 => some (2, 32)
  | 69 => some (1, 8)
  | 71 => some (1, 8)
  | 72 => some (1, 8)
  | 73 => some (1, 8)
  | 74 => some (1, 24)
  | 75 => some (4, 32)
  | 76 => some (4, 32)
  | 77 => some (1, 8)
  | 78 => some (3, 56)
  | 79 => some (3, 56)
  | 81 => some (1, 8)
  | 82 => some (1, 8)
  | 83 => some (1, 8)
  | 84 => some (1, 24)
  | 85 => some (1, 8)
  | 86 => some (6, 40)
  | 87 => some (6, 40)
  | 88 => some (1, 8)
  | 89 => some (1, 8)
  | 90 => some (1, 8)
  | 91 => some (1, 8)
  | 92 => some (4, 40)
  | 93 => some (4, 40)
  | 94 => some (0, 0)
  | 95 => some (0, 0)
  | 96 => some (0, 0)
  | 97 => some (1, 8)
  | 98 => some (1, 4)
  | 99 => some (1, 1)
  | 100 => some (1, 1)
  | 101 => some (1, 8)
  | 102 => some (1, 8)
  | 103 => some (1, 4)
  | 104 => some (1, 4)
  | 105 => some (11, 48)
  | 106 => some (11, 48)
  | _ => none

set_option maxHeartbeats 2000000 in
theorem byt_run {t : Nat} {v : _} (h : bytT t = some v) : ∃ i, (∀ w, (typeInfo t).run Try.prog w = .ok i w) ∧ i.size = v.1 ∧ i.bytes = v.2 := by
  unfold bytT at h
  split at h <;> (try cases h)
  · exact ⟨_, Try.typeInfo2, rfl, rfl⟩
  · exact ⟨_, Try.typeInfo3, rfl, rfl⟩
  · exact ⟨_, Try.typeInfo4, rfl, rfl⟩
  · exact ⟨_, Try.typeInfo5, rfl, rfl⟩
  · exact ⟨_, Try.typeInfo6, rfl, rfl⟩
  · exact ⟨_, Try.typeInfo21, rfl, rfl⟩
  · exact ⟨_, Try.typeInfo22, rfl, rfl⟩
  · exact ⟨_, Try.typeInfo23, rfl, rfl⟩
  · exact ⟨_, Try.typeInfo24, rfl, rfl⟩
  · exact ⟨_, Try.typeInfo25, rfl, rfl⟩
  · exact ⟨_, Try.typeInfo26, rfl, rfl⟩
  · exact ⟨_, Try.typeInfo27, rfl, rfl⟩
  · exact ⟨_, Try.typeInfo28, rfl, rfl⟩
  · exact ⟨_, Try.typeInfo29, rfl, rfl⟩
  · exact ⟨_, Try.typeInfo31, rfl, rfl⟩
  · exact ⟨_, Try.typeInfo32, rfl, rfl⟩
  · exact ⟨_, Try.typeInfo33, rfl, rfl⟩
  · exact ⟨_, Try.typeInfo35, rfl, rfl⟩
  · exact ⟨_, Try.typeInfo36, rfl, rfl⟩
  · exact ⟨_, Try.typeInfo37, rfl, rfl⟩
  · exact ⟨_, Try.typeInfo38, rfl, rfl⟩
  · exact ⟨_, Try.typeInfo39, rfl, rfl⟩
  · exact ⟨_, Try.typeInfo40, rfl, rfl⟩
  · exact ⟨_, Try.typeInfo41, rfl, rfl⟩
  · exact ⟨_, Try.typeInfo42, rfl, rfl⟩
  · exact ⟨_, Try.typeInfo43, rfl, rfl⟩
  · exact ⟨_, Try.typeInfo44, rfl, rfl⟩
  · exact ⟨_, Try.typeInfo45, rfl, rfl⟩
  · exact ⟨_, Try.typeInfo46, rfl, rfl⟩
  · exact ⟨_, Try.typeInfo47, rfl, rfl⟩
  · exact ⟨_, Try.typeInfo48, rfl, rfl⟩
  · exact ⟨_, Try.typeInfo49, rfl, rfl⟩
  · exact ⟨_, Try.typeInfo51, rfl, rfl⟩
  · exact ⟨_, Try.typeInfo52, rfl, rfl⟩
  · exact ⟨_, Try.typeInfo53, rfl, rfl⟩
  · exact ⟨_, Try.typeInfo54, rfl, rfl⟩
  · exact ⟨_, Try.typeInfo55, rfl, rfl⟩
  · exact ⟨_, Try.typeInfo56, rfl, rfl⟩
  · exact ⟨_, Try.typeInfo57, rfl, rfl⟩
  · exact ⟨_, Try.typeInfo58, rfl, rfl⟩
  · exact ⟨_, Try.typeInfo59, rfl, rfl⟩
  · exact ⟨_, Try.typeInfo60, rfl, rfl⟩
  · exact ⟨_, Try.typeInfo61, rfl, rfl⟩
  · exact ⟨_, Try.typeInfo62, rfl, rfl⟩
  · exact ⟨_, Try.typeInfo63, rfl, rfl⟩
  · exact ⟨_, Try.typeInfo64, rfl, rfl⟩
  · exact ⟨_, Try.typeInfo65, rfl, rfl⟩
  · exact ⟨_, Try.typeInfo66, rfl, rfl⟩
  · exact ⟨_, Try.typeInfo67, rfl, rfl⟩
  · exact ⟨_, Try.typeInfo68, rfl, rfl⟩
  · exact ⟨_, Try.typeInfo69, rfl, rfl⟩
  · exact ⟨_, Try.typeInfo71, rfl, rfl⟩
  · exact ⟨_, Try.typeInfo72, rfl, rfl⟩
  · exact ⟨_, Try.typeInfo73, rfl, rfl⟩
  · exact ⟨_, Try.typeInfo74, rfl, rfl⟩
  · exact ⟨_, Try.typeInfo75, rfl, rfl⟩
  · exact ⟨_, Try.typeInfo76, rfl, rfl⟩
  · exact ⟨_, Try.typeInfo77, rfl, rfl⟩
  · exact ⟨_, Try.typeInfo78, rfl, rfl⟩
  · exact ⟨_, Try.typeInfo79, rfl, rfl⟩
  · exact ⟨_, Try.typeInfo81, rfl, rfl⟩
  · exact ⟨_, Try.typeInfo82, rfl, rfl⟩
  · exact ⟨_, Try.typeInfo83, rfl, rfl⟩
  · exact ⟨_, Try.typeInfo84, rfl, rfl⟩
  · exact ⟨_, Try.typeInfo85, rfl, rfl⟩
  · exact ⟨_, Try.typeInfo86, rfl, rfl⟩
  · exact ⟨_, Try.typeInfo87, rfl, rfl⟩
  · exact ⟨_, Try.typeInfo88, rfl, rfl⟩
  · exact ⟨_, Try.typeInfo89, rfl, rfl⟩
  · exact ⟨_, Try.typeInfo90, rfl, rfl⟩
  · exact ⟨_, Try.typeInfo91, rfl, rfl⟩
  · exact ⟨_, Try.typeInfo92, rfl, rfl⟩
  · exact ⟨_, Try.typeInfo93, rfl, rfl⟩
  · exact ⟨_, Try.typeInfo94, rfl, rfl⟩
  · exact ⟨_, Try.typeInfo95, rfl, rfl⟩
  · exact ⟨_, Try.typeInfo96, rfl, rfl⟩
  · exact ⟨_, Try.typeInfo97, rfl, rfl⟩
  · exact ⟨_, Try.typeInfo98, rfl, rfl⟩
  · exact ⟨_, Try.typeInfo99, rfl, rfl⟩
  · exact ⟨_, Try.typeInfo100, rfl, rfl⟩
  · exact ⟨_, Try.typeInfo101, rfl, rfl⟩
  · exact ⟨_, Try.typeInfo102, rfl, rfl⟩
  · exact ⟨_, Try.typeInfo103, rfl, rfl⟩
  · exact ⟨_, Try.typeInfo104, rfl, rfl⟩
  · exact ⟨_, Try.typeInfo105, rfl, rfl⟩
  · exact ⟨_, Try.typeInfo106, rfl, rfl⟩

def fldT : Nat → Nat → Option Nat
  | 24, 0 => some 0
  | 24, 1 => some 1
  | 24, 2 => some 2
  | 28, 0 => some 0
  | 28, 1 => some 1
  | 42, 0 => some 0
  | 42, 1 => some 1
  | 42, 2 => some 2
  | 42, 3 => some 3
  | 42, 4 => some 4
  | 42, 5 => some 5
  | 42, 6 => some 6
  | 65, 0 => some 0
  | 65, 1 => some 1
  | 65, 2 => some 2
  | 65, 3 => some 3
  | 65, 4 => some 4
  | 68, 0 => some 0
  | 68, 1 => some 1
  | 76, 0 => some 0
  | 76, 1 => some 1
  | 76, 2 => some 2
  | 76, 3 => some 3
  | 79, 0 => some 0
  | 79, 1 => some 2
  | 87, 0 => some 0
  | 87, 1 => some 1
  | 87, 2 => some 2
  | 87, 3 => some 3
  | 87, 4 => some 4
  | 87, 5 => some 5
  | 93, 0 => some 0
  | 93, 1 => some 1
  | 93, 2 => some 2
  | 93, 3 => some 3
  | 106, 0 => some 0
  | 106, 1 => some 1
  | 106, 2 => some 2
  | 106, 3 => some 3
  | 106, 4 => some 4
  | 106, 5 => some 5
  | 106, 6 => some 6
  | 106, 7 => some 7
  | 106, 8 => some 8
  | 106, 9 => some 9
  | 106, 10 => some 10
  | _, _ => none

theorem fld_24_0 : ∀ b o w, (Instr.fieldAt 24 (.pointer (some ⟨b, o, none⟩)) 0).run Try.prog w = .ok (.pointer (some ⟨b, o + 0, none⟩)) w := fieldAt_run Try.runUnderlying24 rfl Try.sizeOf3 rfl rfl
theorem fld_24_1 : ∀ b o w, (Instr.fieldAt 24 (.pointer (some ⟨b, o, none⟩)) 1).run Try.prog w = .ok (.pointer (some ⟨b, o + 1, none⟩)) w := fieldAt_run Try.runUnderlying24 rfl Try.sizeOf3 rfl rfl
theorem fld_24_2 : ∀ b o w, (Instr.fieldAt 24 (.pointer (some ⟨b, o, none⟩)) 2).run Try.prog w = .ok (.pointer (some ⟨b, o + 2, none⟩)) w := fieldAt_run Try.runUnderlying24 rfl Try.sizeOf22 rfl rfl
theorem fld_28_0 : ∀ b o w, (Instr.fieldAt 28 (.pointer (some ⟨b, o, none⟩)) 0).run Try.prog w = .ok (.pointer (some ⟨b, o + 0, none⟩)) w := fieldAt_run Try.runUnderlying28 rfl Try.sizeOf3 rfl rfl
theorem fld_28_1 : ∀ b o w, (Instr.fieldAt 28 (.pointer (some ⟨b, o, none⟩)) 1).run Try.prog w = .ok (.pointer (some ⟨b, o + 1, none⟩)) w := fieldAt_run Try.runUnderlying28 rfl Try.sizeOf3 rfl rfl
theorem fld_42_0 : ∀ b o w, (Instr.fieldAt 42 (.pointer (some ⟨b, o, none⟩)) 0).run Try.prog w = .ok (.pointer (some ⟨b, o + 0, none⟩)) w := fieldAt_run Try.runUnderlying42 rfl Try.sizeOf3 rfl rfl
theorem fld_42_1 : ∀ b o w, (Instr.fieldAt 42 (.pointer (some ⟨b, o, none⟩)) 1).run Try.prog w = .ok (.pointer (some ⟨b, o + 1, none⟩)) w := fieldAt_run Try.runUnderlying42 rfl Try.sizeOf3 rfl rfl
theorem fld_42_2 : ∀ b o w, (Instr.fieldAt 42 (.pointer (some ⟨b, o, none⟩)) 2).run Try.prog w = .ok (.pointer (some ⟨b, o + 2, none⟩)) w := fieldAt_run Try.runUnderlying42 rfl Try.sizeOf25 rfl rfl
theorem fld_42_3 : ∀ b o w, (Instr.fieldAt 42 (.pointer (some ⟨b, o, none⟩)) 3).run Try.prog w = .ok (.pointer (some ⟨b, o + 3, none⟩)) w := fieldAt_run Try.runUnderlying42 rfl Try.sizeOf22 rfl rfl
theorem fld_42_4 : ∀ b o w, (Instr.fieldAt 42 (.pointer (some ⟨b, o, none⟩)) 4).run Try.prog w = .ok (.pointer (some ⟨b, o + 4, none⟩)) w := fieldAt_run Try.runUnderlying42 rfl Try.sizeOf22 rfl rfl
theorem fld_42_5 : ∀ b o w, (Instr.fieldAt 42 (.pointer (some ⟨b, o, none⟩)) 5).run Try.prog w = .ok (.pointer (some ⟨b, o + 5, none⟩)) w := fieldAt_run Try.runUnderlying42 rfl Try.sizeOf3 rfl rfl
theorem fld_42_6 : ∀ b o w, (Instr.fieldAt 42 (.pointer (some ⟨b, o, none⟩)) 6).run Try.prog w = .ok (.pointer (some ⟨b, o + 6, none⟩)) w := fieldAt_run Try.runUnderlying42 rfl Try.sizeOf25 rfl rfl
theorem fld_65_0 : ∀ b o w, (Instr.fieldAt 65 (.pointer (some ⟨b, o, none⟩)) 0).run Try.prog w = .ok (.pointer (some ⟨b, o + 0, none⟩)) w := fieldAt_run Try.runUnderlying65 rfl Try.sizeOf5 rfl rfl
theorem fld_65_1 : ∀ b o w, (Instr.fieldAt 65 (.pointer (some ⟨b, o, none⟩)) 1).run Try.prog w = .ok (.pointer (some ⟨b, o + 1, none⟩)) w := fieldAt_run Try.runUnderlying65 rfl Try.sizeOf5 rfl rfl
theorem fld_65_2 : ∀ b o w, (Instr.fieldAt 65 (.pointer (some ⟨b, o, none⟩)) 2).run Try.prog w = .ok (.pointer (some ⟨b, o + 2, none⟩)) w := fieldAt_run Try.runUnderlying65 rfl Try.sizeOf5 rfl rfl
theorem fld_65_3 : ∀ b o w, (Instr.fieldAt 65 (.pointer (some ⟨b, o, none⟩)) 3).run Try.prog w = .ok (.pointer (some ⟨b, o + 3, none⟩)) w := fieldAt_run Try.runUnderlying65 rfl Try.sizeOf5 rfl rfl
theorem fld_65_4 : ∀ b o w, (Instr.fieldAt 65 (.pointer (some ⟨b, o, none⟩)) 4).run Try.prog w = .ok (.pointer (some ⟨b, o + 4, none⟩)) w := fieldAt_run Try.runUnderlying65 rfl Try.sizeOf5 rfl rfl
theorem fld_68_0 : ∀ b o w, (Instr.fieldAt 68 (.pointer (some ⟨b, o, none⟩)) 0).run Try.prog w = .ok (.pointer (some ⟨b, o + 0, none⟩)) w := fieldAt_run Try.runUnderlying68 rfl Try.sizeOf3 rfl rfl
theorem fld_68_1 : ∀ b o w, (Instr.fieldAt 68 (.pointer (some ⟨b, o, none⟩)) 1).run Try.prog w = .ok (.pointer (some ⟨b, o + 1, none⟩)) w := fieldAt_run Try.runUnderlying68 rfl Try.sizeOf66 rfl rfl
theorem fld_76_0 : ∀ b o w, (Instr.fieldAt 76 (.pointer (some ⟨b, o, none⟩)) 0).run Try.prog w = .ok (.pointer (some ⟨b, o + 0, none⟩)) w := fieldAt_run Try.runUnderlying76 rfl Try.sizeOf3 rfl rfl
theorem fld_76_1 : ∀ b o w, (Instr.fieldAt 76 (.pointer (some ⟨b, o, none⟩)) 1).run Try.prog w = .ok (.pointer (some ⟨b, o + 1, none⟩)) w := fieldAt_run Try.runUnderlying76 rfl Try.sizeOf3 rfl rfl
theorem fld_76_2 : ∀ b o w, (Instr.fieldAt 76 (.pointer (some ⟨b, o, none⟩)) 2).run Try.prog w = .ok (.pointer (some ⟨b, o + 2, none⟩)) w := fieldAt_run Try.runUnderlying76 rfl Try.sizeOf3 rfl rfl
theorem fld_76_3 : ∀ b o w, (Instr.fieldAt 76 (.pointer (some ⟨b, o, none⟩)) 3).run Try.prog w = .ok (.pointer (some ⟨b, o + 3, none⟩)) w := fieldAt_run Try.runUnderlying76 rfl Try.sizeOf3 rfl rfl
theorem fld_79_0 : ∀ b o w, (Instr.fieldAt 79 (.pointer (some ⟨b, o, none⟩)) 0).run Try.prog w = .ok (.pointer (some ⟨b, o + 0, none⟩)) w := fieldAt_run Try.runUnderlying79 rfl Try.sizeOf68 rfl rfl
theorem fld_79_1 : ∀ b o w, (Instr.fieldAt 79 (.pointer (some ⟨b, o, none⟩)) 1).run Try.prog w = .ok (.pointer (some ⟨b, o + 2, none⟩)) w := fieldAt_run Try.runUnderlying79 rfl Try.sizeOf22 rfl rfl
theorem fld_87_0 : ∀ b o w, (Instr.fieldAt 87 (.pointer (some ⟨b, o, none⟩)) 0).run Try.prog w = .ok (.pointer (some ⟨b, o + 0, none⟩)) w := fieldAt_run Try.runUnderlying87 rfl Try.sizeOf3 rfl rfl
theorem fld_87_1 : ∀ b o w, (Instr.fieldAt 87 (.pointer (some ⟨b, o, none⟩)) 1).run Try.prog w = .ok (.pointer (some ⟨b, o + 1, none⟩)) w := fieldAt_run Try.runUnderlying87 rfl Try.sizeOf3 rfl rfl
theorem fld_87_2 : ∀ b o w, (Instr.fieldAt 87 (.pointer (some ⟨b, o, none⟩)) 2).run Try.prog w = .ok (.pointer (some ⟨b, o + 2, none⟩)) w := fieldAt_run Try.runUnderlying87 rfl Try.sizeOf3 rfl rfl
theorem fld_87_3 : ∀ b o w, (Instr.fieldAt 87 (.pointer (some ⟨b, o, none⟩)) 3).run Try.prog w = .ok (.pointer (some ⟨b, o + 3, none⟩)) w := fieldAt_run Try.runUnderlying87 rfl Try.sizeOf4 rfl rfl
theorem fld_87_4 : ∀ b o w, (Instr.fieldAt 87 (.pointer (some ⟨b, o, none⟩)) 4).run Try.prog w = .ok (.pointer (some ⟨b, o + 4, none⟩)) w := fieldAt_run Try.runUnderlying87 rfl Try.sizeOf4 rfl rfl
theorem fld_87_5 : ∀ b o w, (Instr.fieldAt 87 (.pointer (some ⟨b, o, none⟩)) 5).run Try.prog w = .ok (.pointer (some ⟨b, o + 5, none⟩)) w := fieldAt_run Try.runUnderlying87 rfl Try.sizeOf3 rfl rfl
theorem fld_93_0 : ∀ b o w, (Instr.fieldAt 93 (.pointer (some ⟨b, o, none⟩)) 0).run Try.prog w = .ok (.pointer (some ⟨b, o + 0, none⟩)) w := fieldAt_run Try.runUnderlying93 rfl Try.sizeOf17 rfl rfl
theorem fld_93_1 : ∀ b o w, (Instr.fieldAt 93 (.pointer (some ⟨b, o, none⟩)) 1).run Try.prog w = .ok (.pointer (some ⟨b, o + 1, none⟩)) w := fieldAt_run Try.runUnderlying93 rfl Try.sizeOf17 rfl rfl
theorem fld_93_2 : ∀ b o w, (Instr.fieldAt 93 (.pointer (some ⟨b, o, none⟩)) 2).run Try.prog w = .ok (.pointer (some ⟨b, o + 2, none⟩)) w := fieldAt_run Try.runUnderlying93 rfl Try.sizeOf17 rfl rfl
theorem fld_93_3 : ∀ b o w, (Instr.fieldAt 93 (.pointer (some ⟨b, o, none⟩)) 3).run Try.prog w = .ok (.pointer (some ⟨b, o + 3, none⟩)) w := fieldAt_run Try.runUnderlying93 rfl Try.sizeOf9 rfl rfl
theorem fld_106_0 : ∀ b o w, (Instr.fieldAt 106 (.pointer (some ⟨b, o, none⟩)) 0).run Try.prog w = .ok (.pointer (some ⟨b, o + 0, none⟩)) w := fieldAt_run Try.runUnderlying106 rfl Try.sizeOf12 rfl rfl
theorem fld_106_1 : ∀ b o w, (Instr.fieldAt 106 (.pointer (some ⟨b, o, none⟩)) 1).run Try.prog w = .ok (.pointer (some ⟨b, o + 1, none⟩)) w := fieldAt_run Try.runUnderlying106 rfl Try.sizeOf12 rfl rfl
theorem fld_106_2 : ∀ b o w, (Instr.fieldAt 106 (.pointer (some ⟨b, o, none⟩)) 2).run Try.prog w = .ok (.pointer (some ⟨b, o + 2, none⟩)) w := fieldAt_run Try.runUnderlying106 rfl Try.sizeOf98 rfl rfl
theorem fld_106_3 : ∀ b o w, (Instr.fieldAt 106 (.pointer (some ⟨b, o, none⟩)) 3).run Try.prog w = .ok (.pointer (some ⟨b, o + 3, none⟩)) w := fieldAt_run Try.runUnderlying106 rfl Try.sizeOf99 rfl rfl
theorem fld_106_4 : ∀ b o w, (Instr.fieldAt 106 (.pointer (some ⟨b, o, none⟩)) 4).run Try.prog w = .ok (.pointer (some ⟨b, o + 4, none⟩)) w := fieldAt_run Try.runUnderlying106 rfl Try.sizeOf5 rfl rfl
theorem fld_106_5 : ∀ b o w, (Instr.fieldAt 106 (.pointer (some ⟨b, o, none⟩)) 5).run Try.prog w = .ok (.pointer (some ⟨b, o + 5, none⟩)) w := fieldAt_run Try.runUnderlying106 rfl Try.sizeOf5 rfl rfl
theorem fld_106_6 : ∀ b o w, (Instr.fieldAt 106 (.pointer (some ⟨b, o, none⟩)) 6).run Try.prog w = .ok (.pointer (some ⟨b, o + 6, none⟩)) w := fieldAt_run Try.runUnderlying106 rfl Try.sizeOf100 rfl rfl
theorem fld_106_7 : ∀ b o w, (Instr.fieldAt 106 (.pointer (some ⟨b, o, none⟩)) 7).run Try.prog w = .ok (.pointer (some ⟨b, o + 7, none⟩)) w := fieldAt_run Try.runUnderlying106 rfl Try.sizeOf101 rfl rfl
theorem fld_106_8 : ∀ b o w, (Instr.fieldAt 106 (.pointer (some ⟨b, o, none⟩)) 8).run Try.prog w = .ok (.pointer (some ⟨b, o + 8, none⟩)) w := fieldAt_run Try.runUnderlying106 rfl Try.sizeOf102 rfl rfl
theorem fld_106_9 : ∀ b o w, (Instr.fieldAt 106 (.pointer (some ⟨b, o, none⟩)) 9).run Try.prog w = .ok (.pointer (some ⟨b, o + 9, none⟩)) w := fieldAt_run Try.runUnderlying106 rfl Try.sizeOf103 rfl rfl
theorem fld_106_10 : ∀ b o w, (Instr.fieldAt 106 (.pointer (some ⟨b, o, none⟩)) 10).run Try.prog w = .ok (.pointer (some ⟨b, o + 10, none⟩)) w := fieldAt_run Try.runUnderlying106 rfl Try.sizeOf104 rfl rfl
set_option maxHeartbeats 2000000 in
theorem fld_run {s k off : Nat} (h : fldT s k = some off) : ∀ b o w, (Instr.fieldAt s (.pointer (some ⟨b, o, none⟩)) k).run Try.prog w = .ok (.pointer (some ⟨b, o + off, none⟩)) w := by
  unfold fldT at h
  split at h <;> (try cases h)
  · exact fld_24_0
  · exact fld_24_1
  · exact fld_24_2
  · exact fld_28_0
  · exact fld_28_1
  · exact fld_42_0
  · exact fld_42_1
  · exact fld_42_2
  · exact fld_42_3
  · exact fld_42_4
  · exact fld_42_5
  · exact fld_42_6
  · exact fld_65_0
  · exact fld_65_1
  · exact fld_65_2
  · exact fld_65_3
  · exact fld_65_4
  · exact fld_68_0
  · exact fld_68_1
  · exact fld_76_0
  · exact fld_76_1
  · exact fld_76_2
  · exact fld_76_3
  · exact fld_79_0
  · exact fld_79_1
  · exact fld_87_0
  · exact fld_87_1
  · exact fld_87_2
  · exact fld_87_3
  · exact fld_87_4
  · exact fld_87_5
  · exact fld_93_0
  · exact fld_93_1
  · exact fld_93_2
  · exact fld_93_3
  · exact fld_106_0
  · exact fld_106_1
  · exact fld_106_2
  · exact fld_106_3
  · exact fld_106_4
  · exact fld_106_5
  · exact fld_106_6
  · exact fld_106_7
  · exact fld_106_8
  · exact fld_106_9
  · exact fld_106_10

theorem sl_22 : SlFact Try.prog 22 3 1 8 [.int .i64 0] := SlFact.mk' (z := .int .i64 0) Try.underlying22 (by kernel_rfl) rfl rfl (by decide)
theorem sl_25 : SlFact Try.prog 25 4 1 1 [.bool false] := SlFact.mk' (z := .bool false) Try.underlying25 (by kernel_rfl) rfl rfl (by decide)
theorem sl_45 : SlFact Try.prog 45 65 5 5 [.int .u8 0, .int .u8 0, .int .u8 0, .int .u8 0, .int .u8 0] := SlFact.mk' (z := .agg #[.int .u8 0, .int .u8 0, .int .u8 0, .int .u8 0, .int .u8 0]) Try.underlying45 (by kernel_rfl) rfl rfl (by decide)
theorem sl_66 : SlFact Try.prog 66 76 4 32 [.int .i64 0, .int .i64 0, .int .i64 0, .int .i64 0] := SlFact.mk' (z := .agg #[.int .i64 0, .int .i64 0, .int .i64 0, .int .i64 0]) Try.underlying66 (by kernel_rfl) rfl rfl (by decide)
theorem sl_74 : SlFact Try.prog 74 73 1 8 [.nilFunc] := SlFact.mk' (z := .nilFunc) Try.underlying74 (by kernel_rfl) rfl rfl (by decide)
theorem sl_84 : SlFact Try.prog 84 87 6 40 [.int .i64 0, .int .i64 0, .int .i64 0, .bool false, .bool false, .int .i64 0] := SlFact.mk' (z := .agg #[.int .i64 0, .int .i64 0, .int .i64 0, .bool false, .bool false, .int .i64 0]) Try.underlying84 (by kernel_rfl) rfl rfl (by decide)
def slT : Nat → Option (Nat × Nat × Nat × List Value)
  | 22 => some (3, 1, 8, [.int .i64 0])
  | 25 => some (4, 1, 1, [.bool false])
  | 45 => some (65, 5, 5, [.int .u8 0, .int .u8 0, .int .u8 0, .int .u8 0, .int .u8 0])
  | 66 => some (76, 4, 32, [.int .i64 0, .int .i64 0, .int .i64 0, .int .i64 0])
  | 74 => some (73, 1, 8, [.nilFunc])
  | 84 => some (87, 6, 40, [.int .i64 0, .int .i64 0, .int .i64 0, .bool false, .bool false, .int .i64 0])
  | _ => none

theorem sl_run {t el sz bt : Nat} {zs : List Value} (h : slT t = some (el, sz, bt, zs)) : SlFact Try.prog t el sz bt zs := by
  unfold slT at h
  split at h <;> (try cases h)
  · exact sl_22
  · exact sl_25
  · exact sl_45
  · exact sl_66
  · exact sl_74
  · exact sl_84

set_option maxHeartbeats 1000000 in
theorem bld_24_0_1 {e : Env} {x0 x1 : Operand} {n0 : Int} {n1 : Int} (h0 : ev e x0 = .int .i64 n0) (h1 : ev e x1 = .int .i64 n1) : ∀ w, (Instr.build 24 #[(0, ev e x0), (1, ev e x1)]).run Try.prog w = .ok (.agg #[.int .i64 n0, .int .i64 n1, .slice none 0 0]) w := by
  intro w
  rw [h0, h1]
  simp [Instr.build, go_sem]

set_option maxHeartbeats 1000000 in
theorem bld_24_0_1_2 {e : Env} {x0 x1 x2 : Operand} {n0 : Int} {n1 : Int} {A2 : Option Addr} {l2 c2 : Nat} (h0 : ev e x0 = .int .i64 n0) (h1 : ev e x1 = .int .i64 n1) (h2 : ev e x2 = .slice A2 l2 c2) : ∀ w, (Instr.build 24 #[(0, ev e x0), (1, ev e x1), (2, ev e x2)]).run Try.prog w = .ok (.agg #[.int .i64 n0, .int .i64 n1, .slice A2 l2 c2]) w := by
  intro w
  rw [h0, h1, h2]
  simp [Instr.build, go_sem]

set_option maxHeartbeats 1000000 in
theorem bld_28_ {e : Env}   : ∀ w, (Instr.build 28 #[]).run Try.prog w = .ok (.agg #[.int .i64 0, .int .i64 0]) w := by
  intro w
  simp [Instr.build, go_sem]

set_option maxHeartbeats 1000000 in
theorem bld_28_0_1 {e : Env} {x0 x1 : Operand} {n0 : Int} {n1 : Int} (h0 : ev e x0 = .int .i64 n0) (h1 : ev e x1 = .int .i64 n1) : ∀ w, (Instr.build 28 #[(0, ev e x0), (1, ev e x1)]).run Try.prog w = .ok (.agg #[.int .i64 n0, .int .i64 n1]) w := by
  intro w
  rw [h0, h1]
  simp [Instr.build, go_sem]

set_option maxHeartbeats 1000000 in
theorem bld_42_0_1_2_3_4_6_5 {e : Env} {x0 x1 x2 x3 x4 x5 x6 : Operand} {n0 : Int} {n1 : Int} {A2 : Option Addr} {l2 c2 : Nat} {A3 : Option Addr} {l3 c3 : Nat} {A4 : Option Addr} {l4 c4 : Nat} {A5 : Option Addr} {l5 c5 : Nat} {n6 : Int} (h0 : ev e x0 = .int .i64 n0) (h1 : ev e x1 = .int .i64 n1) (h2 : ev e x2 = .slice A2 l2 c2) (h3 : ev e x3 = .slice A3 l3 c3) (h4 : ev e x4 = .slice A4 l4 c4) (h5 : ev e x5 = .slice A5 l5 c5) (h6 : ev e x6 = .int .i64 n6) : ∀ w, (Instr.build 42 #[(0, ev e x0), (1, ev e x1), (2, ev e x2), (3, ev e x3), (4, ev e x4), (6, ev e x5), (5, ev e x6)]).run Try.prog w = .ok (.agg #[.int .i64 n0, .int .i64 n1, .slice A2 l2 c2, .slice A3 l3 c3, .slice A4 l4 c4, .int .i64 n6, .slice A5 l5 c5]) w := by
  intro w
  rw [h0, h1, h2, h3, h4, h5, h6]
  simp [Instr.build, go_sem]

set_option maxHeartbeats 1000000 in
theorem bld_68_0 {e : Env} {x0 : Operand} {n0 : Int} (h0 : ev e x0 = .int .i64 n0) : ∀ w, (Instr.build 68 #[(0, ev e x0)]).run Try.prog w = .ok (.agg #[.int .i64 n0, .slice none 0 0]) w := by
  intro w
  rw [h0]
  simp [Instr.build, go_sem]

set_option maxHeartbeats 1000000 in
theorem bld_76_0_1_2 {e : Env} {x0 x1 x2 : Operand} {n0 : Int} {n1 : Int} {n2 : Int} (h0 : ev e x0 = .int .i64 n0) (h1 : ev e x1 = .int .i64 n1) (h2 : ev e x2 = .int .i64 n2) : ∀ w, (Instr.build 76 #[(0, ev e x0), (1, ev e x1), (2, ev e x2)]).run Try.prog w = .ok (.agg #[.int .i64 n0, .int .i64 n1, .int .i64 n2, .int .i64 0]) w := by
  intro w
  rw [h0, h1, h2]
  simp [Instr.build, go_sem]

set_option maxHeartbeats 1000000 in
theorem bld_79_0_1 {e : Env} {x0 x1 : Operand} {v0_0 v0_1 : Value} {A1 : Option Addr} {l1 c1 : Nat} (h0 : ev e x0 = .agg #[v0_0, v0_1]) (h1 : ev e x1 = .slice A1 l1 c1) : ∀ w, (Instr.build 79 #[(0, ev e x0), (1, ev e x1)]).run Try.prog w = .ok (.agg #[v0_0, v0_1, .slice A1 l1 c1]) w := by
  intro w
  rw [h0, h1]
  simp [Instr.build, go_sem]

set_option maxHeartbeats 1000000 in
theorem bld_87_0_1_2_3_4_5 {e : Env} {x0 x1 x2 x3 x4 x5 : Operand} {n0 : Int} {n1 : Int} {n2 : Int} {b3 : Bool} {b4 : Bool} {n5 : Int} (h0 : ev e x0 = .int .i64 n0) (h1 : ev e x1 = .int .i64 n1) (h2 : ev e x2 = .int .i64 n2) (h3 : ev e x3 = .bool b3) (h4 : ev e x4 = .bool b4) (h5 : ev e x5 = .int .i64 n5) : ∀ w, (Instr.build 87 #[(0, ev e x0), (1, ev e x1), (2, ev e x2), (3, ev e x3), (4, ev e x4), (5, ev e x5)]).run Try.prog w = .ok (.agg #[.int .i64 n0, .int .i64 n1, .int .i64 n2, .bool b3, .bool b4, .int .i64 n5]) w := by
  intro w
  rw [h0, h1, h2, h3, h4, h5]
  simp [Instr.build, go_sem]

set_option maxHeartbeats 1000000 in
theorem bld_87_0_1_4 {e : Env} {x0 x1 x2 : Operand} {n0 : Int} {n1 : Int} {b2 : Bool} (h0 : ev e x0 = .int .i64 n0) (h1 : ev e x1 = .int .i64 n1) (h2 : ev e x2 = .bool b2) : ∀ w, (Instr.build 87 #[(0, ev e x0), (1, ev e x1), (4, ev e x2)]).run Try.prog w = .ok (.agg #[.int .i64 n0, .int .i64 n1, .int .i64 0, .bool false, .bool b2, .int .i64 0]) w := by
  intro w
  rw [h0, h1, h2]
  simp [Instr.build, go_sem]

set_option maxHeartbeats 1000000 in
theorem bsl_22_1_0 {e : Env} {x0 : Operand} {n0 : Int} (h0 : ev e x0 = .int .i64 n0) : ∀ w, (Instr.buildSlice 22 1 #[(0, ev e x0)]).run Try.prog w = .ok (.slice (some ⟨w.heap.size, 0, none⟩) 1 1) (w.alloc (.cells ([.int .i64 n0] : List Value).toArray 3)) := by
  intro w
  rw [h0]
  simp [Instr.buildSlice, go_sem]

set_option maxHeartbeats 1000000 in
theorem bsl_22_4_0_1_2_3 {e : Env} {x0 x1 x2 x3 : Operand} {n0 : Int} {n1 : Int} {n2 : Int} {n3 : Int} (h0 : ev e x0 = .int .i64 n0) (h1 : ev e x1 = .int .i64 n1) (h2 : ev e x2 = .int .i64 n2) (h3 : ev e x3 = .int .i64 n3) : ∀ w, (Instr.buildSlice 22 4 #[(0, ev e x0), (1, ev e x1), (2, ev e x2), (3, ev e x3)]).run Try.prog w = .ok (.slice (some ⟨w.heap.size, 0, none⟩) 4 4) (w.alloc (.cells ([.int .i64 n0, .int .i64 n1, .int .i64 n2, .int .i64 n3] : List Value).toArray 3)) := by
  intro w
  rw [h0, h1, h2, h3]
  simp [Instr.buildSlice, go_sem]

set_option maxHeartbeats 1000000 in
theorem bsl_25_1_0 {e : Env} {x0 : Operand} {b0 : Bool} (h0 : ev e x0 = .bool b0) : ∀ w, (Instr.buildSlice 25 1 #[(0, ev e x0)]).run Try.prog w = .ok (.slice (some ⟨w.heap.size, 0, none⟩) 1 1) (w.alloc (.cells ([.bool b0] : List Value).toArray 4)) := by
  intro w
  rw [h0]
  simp [Instr.buildSlice, go_sem]

set_option maxHeartbeats 1000000 in
theorem bsl_25_4_0_1_2_3 {e : Env} {x0 x1 x2 x3 : Operand} {b0 : Bool} {b1 : Bool} {b2 : Bool} {b3 : Bool} (h0 : ev e x0 = .bool b0) (h1 : ev e x1 = .bool b1) (h2 : ev e x2 = .bool b2) (h3 : ev e x3 = .bool b3) : ∀ w, (Instr.buildSlice 25 4 #[(0, ev e x0), (1, ev e x1), (2, ev e x2), (3, ev e x3)]).run Try.prog w = .ok (.slice (some ⟨w.heap.size, 0, none⟩) 4 4) (w.alloc (.cells ([.bool b0, .bool b1, .bool b2, .bool b3] : List Value).toArray 4)) := by
  intro w
  rw [h0, h1, h2, h3]
  simp [Instr.buildSlice, go_sem]

set_option maxHeartbeats 1000000 in
theorem bsl_66_2_0_1 {e : Env} {x0 x1 : Operand} {v0_0 v0_1 v0_2 v0_3 : Value} {v1_0 v1_1 v1_2 v1_3 : Value} (h0 : ev e x0 = .agg #[v0_0, v0_1, v0_2, v0_3]) (h1 : ev e x1 = .agg #[v1_0, v1_1, v1_2, v1_3]) : ∀ w, (Instr.buildSlice 66 2 #[(0, ev e x0), (1, ev e x1)]).run Try.prog w = .ok (.slice (some ⟨w.heap.size, 0, none⟩) 2 2) (w.alloc (.cells ([v0_0, v0_1, v0_2, v0_3, v1_0, v1_1, v1_2, v1_3] : List Value).toArray 76)) := by
  intro w
  rw [h0, h1]
  simp [Instr.buildSlice, go_sem]

set_option maxHeartbeats 1000000 in
theorem bsl_74_3_0_1_2 {e : Env} {x0 x1 x2 : Operand} {fn0 : Fn} {fa0 fb0 : Array Value} {fn1 : Fn} {fa1 fb1 : Array Value} {fn2 : Fn} {fa2 fb2 : Array Value} (h0 : ev e x0 = .func fn0 fa0 fb0) (h1 : ev e x1 = .func fn1 fa1 fb1) (h2 : ev e x2 = .func fn2 fa2 fb2) : ∀ w, (Instr.buildSlice 74 3 #[(0, ev e x0), (1, ev e x1), (2, ev e x2)]).run Try.prog w = .ok (.slice (some ⟨w.heap.size, 0, none⟩) 3 3) (w.alloc (.cells ([.func fn0 fa0 fb0, .func fn1 fa1 fb1, .func fn2 fa2 fb2] : List Value).toArray 73)) := by
  intro w
  rw [h0, h1, h2]
  simp [Instr.buildSlice, go_sem]

def funT : Nat → Bool
  | 3 => true
  | 4 => true
  | 5 => true
  | 6 => true
  | 7 => true
  | 8 => true
  | 9 => true
  | 10 => true
  | 11 => true
  | 12 => true
  | 13 => true
  | 14 => true
  | 15 => true
  | 16 => true
  | 17 => true
  | 18 => true
  | 19 => true
  | 20 => true
  | 21 => true
  | 22 => true
  | 23 => true
  | 24 => true
  | 25 => true
  | 26 => true
  | 27 => true
  | 28 => true
  | 29 => true
  | 30 => true
  | 31 => true
  | 32 => true
  | 33 => true
  | 34 => true
  | 35 => true
  | 36 => true
  | 37 => true
  | 38 => true
  | 39 => true
  | 40 => true
  | 41 => true
  | 42 => true
  | 43 => true
  | 44 => true
  | 45 => true
  | 46 => true
  | 47 => true
  | 48 => true
  | 49 => true
  | _ => false

set_option maxHeartbeats 2000000 in
theorem fun_run {f : Nat} (h : funT f = true) : ∀ (args : Array Value) (w : World), (callFunc f args).run Try.prog w = .ok (.enter f args) w := by
  unfold funT at h
  split at h <;> (try cases h)
  · exact Try.call3
  · exact Try.call4
  · exact Try.call5
  · exact Try.call6
  · exact Try.call7
  · exact Try.call8
  · exact Try.call9
  · exact Try.call10
  · exact Try.call11
  · exact Try.call12
  · exact Try.call13
  · exact Try.call14
  · exact Try.call15
  · exact Try.call16
  · exact Try.call17
  · exact Try.call18
  · exact Try.call19
  · exact Try.call20
  · exact Try.call21
  · exact Try.call22
  · exact Try.call23
  · exact Try.call24
  · exact Try.call25
  · exact Try.call26
  · exact Try.call27
  · exact Try.call28
  · exact Try.call29
  · exact Try.call30
  · exact Try.call31
  · exact Try.call32
  · exact Try.call33
  · exact Try.call34
  · exact Try.call35
  · exact Try.call36
  · exact Try.call37
  · exact Try.call38
  · exact Try.call39
  · exact Try.call40
  · exact Try.call41
  · exact Try.call42
  · exact Try.call43
  · exact Try.call44
  · exact Try.call45
  · exact Try.call46
  · exact Try.call47
  · exact Try.call48
  · exact Try.call49

theorem mixed : Try.prog.follows .mixedOrders = true := by kernel_rfl

end Go.Proofs.Ytmkgfgnpgoegcaa
