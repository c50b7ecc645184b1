/-
  The types and functions of this seat, as the walk wants them (written by a program from the translation).
-/
import Derived.Test.YthegjmgljolalaaProg
import Derived.Test.YthegjmgljolalaaMem
set_option linter.all false
namespace Go.Proofs.Ythegjmgljolalaa
open Go Go.W

def aggT : Nat → Option Bool
  | 2 => some false
  | 3 => some false
  | 4 => some false
  | 5 => some false
  | 6 => some false
  | 21 => some false
  | 22 => some false
  | 23 => some true
  | 24 => some true
  | 25 => some false
  | 26 => some false
  | 27 => some false
  | 28 => some false
  | 30 => some false
  | 31 => some false
  | 33 => some false
  | 34 => some false
  | 35 => some false
  | 36 => some false
  | 37 => some true
  | 38 => some true
  | 40 => some false
  | 41 => some false
  | 42 => some false
  | 43 => some false
  | 44 => some false
  | 45 => some true
  | 46 => some true
  | 47 => some false
  | 48 => some false
  | 49 => some false
  | 50 => some false
  | 51 => some true
  | 52 => some true
  | 54 => some false
  | 56 => some false
  | 57 => some false
  | 58 => some false
  | 59 => some true
  | 60 => some true
  | 62 => some false
  | 64 => some false
  | 65 => some false
  | 66 => some false
  | 67 => some false
  | 68 => some false
  | 69 => some false
  | 70 => some false
  | 71 => some false
  | 72 => some false
  | 73 => some true
  | 74 => some true
  | 75 => some false
  | 76 => some false
  | 78 => some false
  | 79 => some false
  | 80 => some true
  | 81 => some true
  | 82 => some true
  | 83 => some true
  | 84 => some false
  | 85 => some false
  | 86 => some false
  | 87 => some false
  | 88 => some true
  | 89 => some true
  | 90 => some true
  | 91 => some true
  | 92 => some true
  | 93 => some false
  | 94 => some false
  | 95 => some false
  | 96 => some false
  | 97 => some false
  | 98 => some false
  | 99 => some false
  | 100 => some true
  | 101 => some true
  | _ => none

set_option maxHeartbeats 2000000 in
theorem agg_run {t : Nat} {v : _} (h : aggT t = some v) : ∀ w, (isAgg t).run Try.prog w = .ok v w := by
  unfold aggT at h
  split at h <;> (try cases h)
  · exact Try.isAgg2
  · exact Try.isAgg3
  · exact Try.isAgg4
  · exact Try.isAgg5
  · exact Try.isAgg6
  · exact Try.isAgg21
  · exact Try.isAgg22
  · exact Try.isAgg23
  · exact Try.isAgg24
  · exact Try.isAgg25
  · exact Try.isAgg26
  · exact Try.isAgg27
  · exact Try.isAgg28
  · exact Try.isAgg30
  · exact Try.isAgg31
  · exact Try.isAgg33
  · exact Try.isAgg34
  · exact Try.isAgg35
  · exact Try.isAgg36
  · exact Try.isAgg37
  · exact Try.isAgg38
  · exact Try.isAgg40
  · exact Try.isAgg41
  · exact Try.isAgg42
  · exact Try.isAgg43
  · exact Try.isAgg44
  · exact Try.isAgg45
  · exact Try.isAgg46
  · exact Try.isAgg47
  · exact Try.isAgg48
  · exact Try.isAgg49
  · exact Try.isAgg50
  · exact Try.isAgg51
  · exact Try.isAgg52
  · exact Try.isAgg54
  · exact Try.isAgg56
  · exact Try.isAgg57
  · exact Try.isAgg58
  · exact Try.isAgg59
  · exact Try.isAgg60
  · exact Try.isAgg62
  · exact Try.isAgg64
  · exact Try.isAgg65
  · exact Try.isAgg66
  · exact Try.isAgg67
  · exact Try.isAgg68
  · exact Try.isAgg69
  · exact Try.isAgg70
  · exact Try.isAgg71
  · exact Try.isAgg72
  · exact Try.isAgg73
  · exact Try.isAgg74
  · exact Try.isAgg75
  · exact Try.isAgg76
  · exact Try.isAgg78
  · exact Try.isAgg79
  · exact Try.isAgg80
  · exact Try.isAgg81
  · exact Try.isAgg82
  · exact Try.isAgg83
  · exact Try.isAgg84
  · exact Try.isAgg85
  · exact Try.isAgg86
  · exact Try.isAgg87
  · exact Try.isAgg88
  · exact Try.isAgg89
  · exact Try.isAgg90
  · exact Try.isAgg91
  · exact Try.isAgg92
  · exact Try.isAgg93
  · exact Try.isAgg94
  · exact Try.isAgg95
  · exact Try.isAgg96
  · exact Try.isAgg97
  · exact Try.isAgg98
  · exact Try.isAgg99
  · exact Try.isAgg100
  · exact Try.isAgg101

def sizeT : Nat → Option Nat
  | 2 => some 1
  | 3 => some 1
  | 4 => some 1
  | 5 => some 1
  | 6 => some 1
  | 21 => some 1
  | 22 => some 1
  | 23 => some 2
  | 24 => some 2
  | 25 => some 1
  | 26 => some 1
  | 27 => some 1
  | 28 => some 1
  | 30 => some 1
  | 31 => some 1
  | 33 => some 1
  | 34 => some 1
  | 35 => some 1
  | 36 => some 1
  | 37 => some 4
  | 38 => some 4
  | 40 => some 1
  | 41 => some 1
  | 42 => some 1
  | 43 => some 1
  | 44 => some 1
  | 45 => some 4
  | 46 => some 4
  | 47 => some 1
  | 48 => some 1
  | 49 => some 1
  | 50 => some 1
  | 51 => some 3
  | 52 => some 3
  | 54 => some 1
  | 56 => some 1
  | 57 => some 1
  | 58 => some 1
  | 59 => some 6
  | 60 => some 6
  | 62 => some 1
  | 64 => some 1
  | 65 => some 1
  | 66 => some 1
  | 67 => some 1
  | 68 => some 1
  | 69 => some 1
  | 70 => some 1
  | 71 => some 1
  | 72 => some 1
  | 73 => some 2
  | 74 => some 2
  | 75 => some 1
  | 76 => some 1
  | 78 => some 1
  | 79 => some 1
  | 80 => some 3
  | 81 => some 3
  | 82 => some 3
  | 83 => some 3
  | 84 => some 1
  | 85 => some 1
  | 86 => some 1
  | 87 => some 1
  | 88 => some 4
  | 89 => some 4
  | 90 => some 0
  | 91 => some 0
  | 92 => some 0
  | 93 => some 1
  | 94 => some 1
  | 95 => some 1
  | 96 => some 1
  | 97 => some 1
  | 98 => some 1
  | 99 => some 1
  | 100 => some 11
  | 101 => some 11
  | _ => none

set_option maxHeartbeats 2000000 in
theorem size_run {t : Nat} {v : _} (h : sizeT t = some v) : ∀ w, (Go.sizeOf t).run Try.prog w = .ok v w := by
  unfold sizeT at h
  split at h <;> (try cases h)
  · exact Try.sizeOf2
  · exact Try.sizeOf3
  · exact Try.sizeOf4
  · exact Try.sizeOf5
  · exact Try.sizeOf6
  · exact Try.sizeOf21
  · exact Try.sizeOf22
  · exact Try.sizeOf23
  · exact Try.sizeOf24
  · exact Try.sizeOf25
  · exact Try.sizeOf26
  · exact Try.sizeOf27
  · exact Try.sizeOf28
  · exact Try.sizeOf30
  · exact Try.sizeOf31
  · exact Try.sizeOf33
  · exact Try.sizeOf34
  · exact Try.sizeOf35
  · exact Try.sizeOf36
  · exact Try.sizeOf37
  · exact Try.sizeOf38
  · exact Try.sizeOf40
  · exact Try.sizeOf41
  · exact Try.sizeOf42
  · exact Try.sizeOf43
  · exact Try.sizeOf44
  · exact Try.sizeOf45
  · exact Try.sizeOf46
  · exact Try.sizeOf47
  · exact Try.sizeOf48
  · exact Try.sizeOf49
  · exact Try.sizeOf50
  · exact Try.sizeOf51
  · exact Try.sizeOf52
  · exact Try.sizeOf54
  · exact Try.sizeOf56
  · exact Try.sizeOf57
  · exact Try.sizeOf58
  · exact Try.sizeOf59
  · exact Try.sizeOf60
  · exact Try.sizeOf62
  · exact Try.sizeOf64
  · exact Try.sizeOf65
  · exact Try.sizeOf66
  · exact Try.sizeOf67
  · exact Try.sizeOf68
  · exact Try.sizeOf69
  · exact Try.sizeOf70
  · exact Try.sizeOf71
  · exact Try.sizeOf72
  · exact Try.sizeOf73
  · exact Try.sizeOf74
  · exact Try.sizeOf75
  · exact Try.sizeOf76
  · exact Try.sizeOf78
  · exact Try.sizeOf79
  · exact Try.sizeOf80
  · exact Try.sizeOf81
  · exact Try.sizeOf82
  · exact Try.sizeOf83
  · exact Try.sizeOf84
  · exact Try.sizeOf85
  · exact Try.sizeOf86
  · exact Try.sizeOf87
  · exact Try.sizeOf88
  · exact Try.sizeOf89
  · exact Try.sizeOf90
  · exact Try.sizeOf91
  · exact Try.sizeOf92
  · exact Try.sizeOf93
  · exact Try.sizeOf94
  · exact Try.sizeOf95
  · exact Try.sizeOf96
  · exact Try.sizeOf97
  · exact Try.sizeOf98
  · exact Try.sizeOf99
  · exact Try.sizeOf100
  · exact Try.sizeOf101

def elT : Nat → Option Nat
  | 22 => some 46
  | 31 => some 4
  | 36 => some 3
  | 57 => some 60
  | 79 => some 83
  | _ => none

set_option maxHeartbeats 2000000 in
theorem el_run {t : Nat} {v : _} (h : elT t = some v) : ∀ w, (underlying t).run Try.prog w = .ok (.slice v) w := by
  unfold elT at h
  split at h <;> (try cases h)
  · exact Try.runUnderlying22
  · exact Try.runUnderlying31
  · exact Try.runUnderlying36
  · exact Try.runUnderlying57
  · exact Try.runUnderlying79

def ikT : Nat → Option IntKind
  | 2 => some .i64
  | 3 => some .i64
  | 5 => some .u8
  | 6 => some .u8
  | 21 => some .i32
  | 26 => some .i64
  | 93 => some .u32
  | 94 => some .u8
  | 95 => some .u8
  | 98 => some .i32
  | 99 => some .i32
  | _ => none

set_option maxHeartbeats 2000000 in
theorem ik_run {t : Nat} {v : _} (h : ikT t = some v) : ∀ w, (underlying t).run Try.prog w = .ok (.int v) w := by
  unfold ikT at h
  split at h <;> (try cases h)
  · exact Try.runUnderlying2
  · exact Try.runUnderlying3
  · exact Try.runUnderlying5
  · exact Try.runUnderlying6
  · exact Try.runUnderlying21
  · exact Try.runUnderlying26
  · exact Try.runUnderlying93
  · exact Try.runUnderlying94
  · exact Try.runUnderlying95
  · exact Try.runUnderlying98
  · exact Try.runUnderlying99

def arrT : Nat → Option (Nat × Nat)
  | 90 => some (0, 16)
  | _ => none

set_option maxHeartbeats 2000000 in
theorem arr_run {t : Nat} {v : _} (h : arrT t = some v) : ∀ w, (underlying t).run Try.prog w = .ok (.array v.1 v.2) w := by
  unfold arrT at h
  split at h <;> (try cases h)
  · exact Try.runUnderlying90

def zeroT : Nat → Option Value
  | 2 => some (.int .i64 0)
  | 3 => some (.int .i64 0)
  | 4 => some (.bool false)
  | 5 => some (.int .u8 0)
  | 6 => some (.int .u8 0)
  | 21 => some (.int .i32 0)
  | 22 => some (.slice none 0 0)
  | 23 => some (.agg #[.int .i64 0, .slice none 0 0])
  | 24 => some (.agg #[.int .i64 0, .slice none 0 0])
  | 25 => some (.nilFunc)
  | 26 => some (.int .i64 0)
  | 27 => some (.nilFunc)
  | 28 => some (.nilFunc)
  | 30 => some (.nilFunc)
  | 31 => some (.slice none 0 0)
  | 33 => some (.nilFunc)
  | 34 => some (.nilFunc)
  | 35 => some (.nilFunc)
  | 36 => some (.slice none 0 0)
  | 37 => some (.agg #[.int .i64 0, .int .i64 0, .slice none 0 0, .slice none 0 0])
  | 38 => some (.agg #[.int .i64 0, .int .i64 0, .slice none 0 0, .slice none 0 0])
  | 40 => some (.nilFunc)
  | 41 => some (.nilFunc)
  | 42 => some (.nilFunc)
  | 43 => some (.nilFunc)
  | 44 => some (.nilFunc)
  | 45 => some (.agg #[.int .i64 0, .int .i64 0, .int .i64 0, .int .i64 0])
  | 46 => some (.agg #[.int .i64 0, .int .i64 0, .int .i64 0, .int .i64 0])
  | 47 => some (.nilFunc)
  | 48 => some (.nilFunc)
  | 49 => some (.nilFunc)
  | 50 => some (.nilFunc)
  | 51 => some (.agg #[.int .i64 0, .slice none 0 0, .slice none 0 0])
  | 52 => some (.agg #[.int .i64 0, .slice none 0 0, .slice none 0 0])
  | 54 => some (.nilFunc)
  | 56 => some (.nilFunc)
  | 57 => some (.slice none 0 0)
  | 58 => some (.nilFunc)
  | 59 => some (.agg #[.int .i64 0, .int .i64 0, .int .i64 0, .bool false, .bool false, .int .i64 0])
  | 60 => some (.agg #[.int .i64 0, .int .i64 0, .int .i64 0, .bool false, .bool false, .int .i64 0])
  | 62 => some (.nilFunc)
  | 64 => some (.nilFunc)
  | 65 => some (.nilFunc)
  | 66 => some (.nilFunc)
  | 67 => some (.nilFunc)
  | 68 => some (.nilFunc)
  | 69 => some (.nilFunc)
  | 70 => some (.nilFunc)
  | 71 => some (.pointer none)
  | 72 => some (.nilFunc)
  | 73 => some (.agg #[.int .i64 0, .int .i64 0])
  | 74 => some (.agg #[.int .i64 0, .int .i64 0])
  | 75 => some (.nilFunc)
  | 76 => some (.nilFunc)
  | 78 => some (.nilFunc)
  | 79 => some (.slice none 0 0)
  | 80 => some (.agg #[.nilFunc, .slice none 0 0, .int .i64 0])
  | 81 => some (.agg #[.nilFunc, .slice none 0 0, .int .i64 0])
  | 82 => some (.agg #[.int .i64 0, .int .i64 0, .int .i64 0])
  | 83 => some (.agg #[.int .i64 0, .int .i64 0, .int .i64 0])
  | 84 => some (.nilFunc)
  | 85 => some (.nilFunc)
  | 86 => some (.nilFunc)
  | 87 => some (.nilFunc)
  | 90 => some (.agg #[])
  | 91 => some (.agg #[])
  | 92 => some (.agg #[])
  | 93 => some (.int .u32 0)
  | 94 => some (.int .u8 0)
  | 95 => some (.int .u8 0)
  | 96 => some (.nilFunc)
  | 97 => some (.pointer none)
  | 98 => some (.int .i32 0)
  | 99 => some (.int .i32 0)
  | 100 => some (.agg #[.int .u64 0, .int .u64 0, .int .u32 0, .int .u8 0, .int .u8 0, .int .u8 0, .int .u8 0, .nilFunc, .pointer none, .int .i32 0, .int .i32 0])
  | 101 => some (.agg #[.int .u64 0, .int .u64 0, .int .u32 0, .int .u8 0, .int .u8 0, .int .u8 0, .int .u8 0, .nilFunc, .pointer none, .int .i32 0, .int .i32 0])
  | _ => none

set_option maxHeartbeats 2000000 in
theorem zero_run {t : Nat} {v : _} (h : zeroT t = some v) : ∀ w, (zeroValue t).run Try.prog w = .ok v w := by
  unfold zeroT at h
  split at h <;> (try cases h)
  · exact Try.zeroValue2
  · exact Try.zeroValue3
  · exact Try.zeroValue4
  · exact Try.zeroValue5
  · exact Try.zeroValue6
  · exact Try.zeroValue21
  · exact Try.zeroValue22
  · exact Try.zeroValue23
  · exact Try.zeroValue24
  · exact Try.zeroValue25
  · exact Try.zeroValue26
  · exact Try.zeroValue27
  · exact Try.zeroValue28
  · exact Try.zeroValue30
  · exact Try.zeroValue31
  · exact Try.zeroValue33
  · exact Try.zeroValue34
  · exact Try.zeroValue35
  · exact Try.zeroValue36
  · exact Try.zeroValue37
  · exact Try.zeroValue38
  · exact Try.zeroValue40
  · exact Try.zeroValue41
  · exact Try.zeroValue42
  · exact Try.zeroValue43
  · exact Try.zeroValue44
  · exact Try.zeroValue45
  · exact Try.zeroValue46
  · exact Try.zeroValue47
  · exact Try.zeroValue48
  · exact Try.zeroValue49
  · exact Try.zeroValue50
  · exact Try.zeroValue51
  · exact Try.zeroValue52
  · exact Try.zeroValue54
  · exact Try.zeroValue56
  · exact Try.zeroValue57
  · exact Try.zeroValue58
  · exact Try.zeroValue59
  · exact Try.zeroValue60
  · exact Try.zeroValue62
  · exact Try.zeroValue64
  · exact Try.zeroValue65
  · exact Try.zeroValue66
  · exact Try.zeroValue67
  · exact Try.zeroValue68
  · exact Try.zeroValue69
  · exact Try.zeroValue70
  · exact Try.zeroValue71
  · exact Try.zeroValue72
  · exact Try.zeroValue73
  · exact Try.zeroValue74
  · exact Try.zeroValue75
  · exact Try.zeroValue76
  · exact Try.zeroValue78
  · exact Try.zeroValue79
  · exact Try.zeroValue80
  · exact Try.zeroValue81
  · exact Try.zeroValue82
  · exact Try.zeroValue83
  · exact Try.zeroValue84
  · exact Try.zeroValue85
  · exact Try.zeroValue86
  · exact Try.zeroValue87
  · exact Try.zeroValue90
  · exact Try.zeroValue91
  · exact Try.zeroValue92
  · exact Try.zeroValue93
  · exact Try.zeroValue94
  · exact Try.zeroValue95
  · exact Try.zeroValue96
  · exact Try.zeroValue97
  · exact Try.zeroValue98
  · exact Try.zeroValue99
  · exact Try.zeroValue100
  · exact Try.zeroValue101

def bytT : Nat → Option (Nat × Nat)
  | 2 => some (1, 8)
  | 3 => some (1, 8)
  | 4 => some (1, 1)
  | 5 => some (1, 1)
  | 6 => some (1, 1)
  | 21 => some (1, 4)
  | 22 => some (1, 24)
  | 23 => some (2, 32)
  | 24 => some (2, 32)
  | 25 => some (1, 8)
  | 26 => some (1, 8)
  | 27 => some (1, 8)
  | 28 => some (1, 8)
  | 30 => some (1, 8)
  | 31 => some (1, 24)
  | 33 => some (1, 8)
  | 34 => some (1, 8)
  | 35 => some (1, 8)
  | 36 => some (1, 24)
  | 37 => some (4, 64)
  | 38 => some (4, 64)
  | 40 => some (1, 8)
  | 41 => some (1, 8)
  | 42 => some (1, 8)
  | 43 => some (1, 8)
  | 44 => some (1, 8)
  | 45 => some (4, 32)
  | 46 => some (4, 32)
  | 47 => some (1, 8)
  | 48 => some (1, 8)
  | 49 => some (1, 8)
  | 50 => some (1, 8)
  | 51 => some (3, 56)
  | 52 => some (3, 56)
  | 54 => some (1, 8)
  | 56 => some (1, 8)
  | 57 => some (1, 24)
  | 58 => some (1, 8)
  | 59 => some (6, 40)
  | 60 => some (6, 40)
  | 62 => some (1, 8)
  | 64 => some (1, 8)
  | 65 => some (1, 8)
  | 66 => some (1, 8)
  | 67 => some (1, 8)
  | 68 => some (1, 8)
  | 69 => some (1, 8)
  | 70 => some (1, 8)
  | 71 => some (1, 8)
  | 72 => some (1, 8)
  | 73 => some (2, 16)
  | 74 => some (2, 16)
  | 75 => some (1, 8)
  | 76 => some (1, 8)
  | 78 => some (1, 8)
  | 79 => some (1, 24)
  | 80 => some (3, 40)
  | 81 => some (3, 40)
  | 82 => some (3, 24)
  | 83 => some (3, 24)
  | 84 => some (1, 8)
  | 85 => some (1, 8)
  | 86 => some (1, 8)
  | 87 => some (1, 8)
  | 88 => some (4, 40)
  | 89 => some (4, 40)
  | 90 => some (0, 0)
  | 91 => some (0, 0)
  | 92 => some (0, 0)
  | 93 => some (1, 4)
  | 94 => some (1, 1)
  | 95 => some (1, 1)
  | 96 => some (1, 8)
  | 97 => some (1, 8)
  | 98 => some (1, 4)
  | 99 => some (1, 4)
  | 100 => some (11, 48)
  | 101 => some (11, 48)
  | _ => none

set_option maxHeartbeats 2000000 in
theorem byt_run {t : Nat} {v : _} (h : bytT t = some v) : ∃ i, (∀ w, (typeInfo t).run Try.prog w = .ok i w) ∧ i.size = v.1 ∧ i.bytes = v.2 := by
  unfold bytT at h
  split at h <;> (try cases h)
  · exact ⟨_, Try.typeInfo2, rfl, rfl⟩
  · exact ⟨_, Try.typeInfo3, rfl, rfl⟩
  · exact ⟨_, Try.typeInfo4, rfl, rfl⟩
  · exact ⟨_, Try.typeInfo5, rfl, rfl⟩
  · exact ⟨_, Try.typeInfo6, rfl, rfl⟩
  · exact ⟨_, Try.typeInfo21, rfl, rfl⟩
  · exact ⟨_, Try.typeInfo22, rfl, rfl⟩
  · exact ⟨_, Try.typeInfo23, rfl, rfl⟩
  · exact ⟨_, Try.typeInfo24, rfl, rfl⟩
  · exact ⟨_, Try.typeInfo25, rfl, rfl⟩
  · exact ⟨_, Try.typeInfo26, rfl, rfl⟩
  · exact ⟨_, Try.typeInfo27, rfl, rfl⟩
  · exact ⟨_, Try.typeInfo28, rfl, rfl⟩
  · exact ⟨_, Try.typeInfo30, rfl, rfl⟩
  · exact ⟨_, Try.typeInfo31, rfl, rfl⟩
  · exact ⟨_, Try.typeInfo33, rfl, rfl⟩
  · exact ⟨_, Try.typeInfo34, rfl, rfl⟩
  · exact ⟨_, Try.typeInfo35, rfl, rfl⟩
  · exact ⟨_, Try.typeInfo36, rfl, rfl⟩
  · exact ⟨_, Try.typeInfo37, rfl, rfl⟩
  · exact ⟨_, Try.typeInfo38, rfl, rfl⟩
  · exact ⟨_, Try.typeInfo40, rfl, rfl⟩
  · exact ⟨_, Try.typeInfo41, rfl, rfl⟩
  · exact ⟨_, Try.typeInfo42, rfl, rfl⟩
  · exact ⟨_, Try.typeInfo43, rfl, rfl⟩
  · exact ⟨_, Try.typeInfo44, rfl, rfl⟩
  · exact ⟨_, Try.typeInfo45, rfl, rfl⟩
  · exact ⟨_, Try.typeInfo46, rfl, rfl⟩
  · exact ⟨_, Try.typeInfo47, rfl, rfl⟩
  · exact ⟨_, Try.typeInfo48, rfl, rfl⟩
  · exact ⟨_, Try.typeInfo49, rfl, rfl⟩
  · exact ⟨_, Try.typeInfo50, rfl, rfl⟩
  · exact ⟨_, Try.typeInfo51, rfl, rfl⟩
  · exact ⟨_, Try.typeInfo52, rfl, rfl⟩
  · exact ⟨_, Try.typeInfo54, rfl, rfl⟩
  · exact ⟨_, Try.typeInfo56, rfl, rfl⟩
  · exact ⟨_, Try.typeInfo57, rfl, rfl⟩
  · exact ⟨_, Try.typeInfo58, rfl, rfl⟩
  · exact ⟨_, Try.typeInfo59, rfl, rfl⟩
  · exact ⟨_, Try.typeInfo60, rfl, rfl⟩
  · exact ⟨_, Try.typeInfo62, rfl, rfl⟩
  · exact ⟨_, Try.typeInfo64, rfl, rfl⟩
  · exact ⟨_, Try.typeInfo65, rfl, rfl⟩
  · exact ⟨_, Try.typeInfo66, rfl, rfl⟩
  · exact ⟨_, Try.typeInfo67, rfl, rfl⟩
  · exact ⟨_, Try.typeInfo68, rfl, rfl⟩
  · exact ⟨_, Try.typeInfo69, rfl, rfl⟩
  · exact ⟨_, Try.typeInfo70, rfl, rfl⟩
  · exact ⟨_, Try.typeInfo71, rfl, rfl⟩
  · exact ⟨_, Try.typeInfo72, rfl, rfl⟩
  · exact ⟨_, Try.typeInfo73, rfl, rfl⟩
  · exact ⟨_, Try.typeInfo74, rfl, rfl⟩
  · exact ⟨_, Try.typeInfo75, rfl, rfl⟩
  · exact ⟨_, Try.typeInfo76, rfl, rfl⟩
  · exact ⟨_, Try.typeInfo78, rfl, rfl⟩
  · exact ⟨_, Try.typeInfo79, rfl, rfl⟩
  · exact ⟨_, Try.typeInfo80, rfl, rfl⟩
  · exact ⟨_, Try.typeInfo81, rfl, rfl⟩
  · exact ⟨_, Try.typeInfo82, rfl, rfl⟩
  · exact ⟨_, Try.typeInfo83, rfl, rfl⟩
  · exact ⟨_, Try.typeInfo84, rfl, rfl⟩
  · exact ⟨_, Try.typeInfo85, rfl, rfl⟩
  · exact ⟨_, Try.typeInfo86, rfl, rfl⟩
  · exact ⟨_, Try.typeInfo87, rfl, rfl⟩
  · exact ⟨_, Try.typeInfo88, rfl, rfl⟩
  · exact ⟨_, Try.typeInfo89, rfl, rfl⟩
  · exact ⟨_, Try.typeInfo90, rfl, rfl⟩
  · exact ⟨_, Try.typeInfo91, rfl, rfl⟩
  · exact ⟨_, Try.typeInfo92, rfl, rfl⟩
  · exact ⟨_, Try.typeInfo93, rfl, rfl⟩
  · exact ⟨_, Try.typeInfo94, rfl, rfl⟩
  · exact ⟨_, Try.typeInfo95, rfl, rfl⟩
  · exact ⟨_, Try.typeInfo96, rfl, rfl⟩
  · exact ⟨_, Try.typeInfo97, rfl, rfl⟩
  · exact ⟨_, Try.typeInfo98, rfl, rfl⟩
  · exact ⟨_, Try.typeInfo99, rfl, rfl⟩
  · exact ⟨_, Try.typeInfo100, rfl, rfl⟩
  · exact ⟨_, Try.typeInfo101, rfl, rfl⟩

def fldT : Nat → Nat → Option Nat
  | 24, 0 => some 0
  | 24, 1 => some 1
  | 38, 0 => some 0
  | 38, 1 => some 1
  | 38, 2 => some 2
  | 38, 3 => some 3
  | 46, 0 => some 0
  | 46, 1 => some 1
  | 46, 2 => some 2
  | 46, 3 => some 3
  | 52, 0 => some 0
  | 52, 1 => some 2
  | 60, 0 => some 0
  | 60, 1 => some 1
  | 60, 2 => some 2
  | 60, 3 => some 3
  | 60, 4 => some 4
  | 60, 5 => some 5
  | 74, 0 => some 0
  | 74, 1 => some 1
  | 81, 0 => some 0
  | 81, 1 => some 1
  | 81, 2 => some 2
  | 83, 0 => some 0
  | 83, 1 => some 2
  | 89, 0 => some 0
  | 89, 1 => some 1
  | 89, 2 => some 2
  | 89, 3 => some 3
  | 101, 0 => some 0
  | 101, 1 => some 1
  | 101, 2 => some 2
  | 101, 3 => some 3
  | 101, 4 => some 4
  | 101, 5 => some 5
  | 101, 6 => some 6
  | 101, 7 => some 7
  | 101, 8 => some 8
  | 101, 9 => some 9
  | 101, 10 => some 10
  | _, _ => none

theorem fld_24_0 : ∀ b o w, (Instr.fieldAt 24 (.pointer (some ⟨b, o, none⟩)) 0).run Try.prog w = .ok (.pointer (some ⟨b, o + 0, none⟩)) w := fieldAt_run Try.runUnderlying24 rfl Try.sizeOf3 rfl rfl
theorem fld_24_1 : ∀ b o w, (Instr.fieldAt 24 (.pointer (some ⟨b, o, none⟩)) 1).run Try.prog w = .ok (.pointer (some ⟨b, o + 1, none⟩)) w := fieldAt_run Try.runUnderlying24 rfl Try.sizeOf22 rfl rfl
theorem fld_38_0 : ∀ b o w, (Instr.fieldAt 38 (.pointer (some ⟨b, o, none⟩)) 0).run Try.prog w = .ok (.pointer (some ⟨b, o + 0, none⟩)) w := fieldAt_run Try.runUnderlying38 rfl Try.sizeOf3 rfl rfl
theorem fld_38_1 : ∀ b o w, (Instr.fieldAt 38 (.pointer (some ⟨b, o, none⟩)) 1).run Try.prog w = .ok (.pointer (some ⟨b, o + 1, none⟩)) w := fieldAt_run Try.runUnderlying38 rfl Try.sizeOf3 rfl rfl
theorem fld_38_2 : ∀ b o w, (Instr.fieldAt 38 (.pointer (some ⟨b, o, none⟩)) 2).run Try.prog w = .ok (.pointer (some ⟨b, o + 2, none⟩)) w := fieldAt_run Try.runUnderlying38 rfl Try.sizeOf36 rfl rfl
theorem fld_38_3 : ∀ b o w, (Instr.fieldAt 38 (.pointer (some ⟨b, o, none⟩)) 3).run Try.prog w = .ok (.pointer (some ⟨b, o + 3, none⟩)) w := fieldAt_run Try.runUnderlying38 rfl Try.sizeOf36 rfl rfl
theorem fld_46_0 : ∀ b o w, (Instr.fieldAt 46 (.pointer (some ⟨b, o, none⟩)) 0).run Try.prog w = .ok (.pointer (some ⟨b, o + 0, none⟩)) w := fieldAt_run Try.runUnderlying46 rfl Try.sizeOf3 rfl rfl
theorem fld_46_1 : ∀ b o w, (Instr.fieldAt 46 (.pointer (some ⟨b, o, none⟩)) 1).run Try.prog w = .ok (.pointer (some ⟨b, o + 1, none⟩)) w := fieldAt_run Try.runUnderlying46 rfl Try.sizeOf3 rfl rfl
theorem fld_46_2 : ∀ b o w, (Instr.fieldAt 46 (.pointer (some ⟨b, o, none⟩)) 2).run Try.prog w = .ok (.pointer (some ⟨b, o + 2, none⟩)) w := fieldAt_run Try.runUnderlying46 rfl Try.sizeOf3 rfl rfl
theorem fld_46_3 : ∀ b o w, (Instr.fieldAt 46 (.pointer (some ⟨b, o, none⟩)) 3).run Try.prog w = .ok (.pointer (some ⟨b, o + 3, none⟩)) w := fieldAt_run Try.runUnderlying46 rfl Try.sizeOf3 rfl rfl
theorem fld_52_0 : ∀ b o w, (Instr.fieldAt 52 (.pointer (some ⟨b, o, none⟩)) 0).run Try.prog w = .ok (.pointer (some ⟨b, o + 0, none⟩)) w := fieldAt_run Try.runUnderlying52 rfl Try.sizeOf24 rfl rfl
theorem fld_52_1 : ∀ b o w, (Instr.fieldAt 52 (.pointer (some ⟨b, o, none⟩)) 1).run Try.prog w = .ok (.pointer (some ⟨b, o + 2, none⟩)) w := fieldAt_run Try.runUnderlying52 rfl Try.sizeOf36 rfl rfl
theorem fld_60_0 : ∀ b o w, (Instr.fieldAt 60 (.pointer (some ⟨b, o, none⟩)) 0).run Try.prog w = .ok (.pointer (some ⟨b, o + 0, none⟩)) w := fieldAt_run Try.runUnderlying60 rfl Try.sizeOf3 rfl rfl
theorem fld_60_1 : ∀ b o w, (Instr.fieldAt 60 (.pointer (some ⟨b, o, none⟩)) 1).run Try.prog w = .ok (.pointer (some ⟨b, o + 1, none⟩)) w := fieldAt_run Try.runUnderlying60 rfl Try.sizeOf3 rfl rfl
theorem fld_60_2 : ∀ b o w, (Instr.fieldAt 60 (.pointer (some ⟨b, o, none⟩)) 2).run Try.prog w = .ok (.pointer (some ⟨b, o + 2, none⟩)) w := fieldAt_run Try.runUnderlying60 rfl Try.sizeOf3 rfl rfl
theorem fld_60_3 : ∀ b o w, (Instr.fieldAt 60 (.pointer (some ⟨b, o, none⟩)) 3).run Try.prog w = .ok (.pointer (some ⟨b, o + 3, none⟩)) w := fieldAt_run Try.runUnderlying60 rfl Try.sizeOf4 rfl rfl
theorem fld_60_4 : ∀ b o w, (Instr.fieldAt 60 (.pointer (some ⟨b, o, none⟩)) 4).run Try.prog w = .ok (.pointer (some ⟨b, o + 4, none⟩)) w := fieldAt_run Try.runUnderlying60 rfl Try.sizeOf4 rfl rfl
theorem fld_60_5 : ∀ b o w, (Instr.fieldAt 60 (.pointer (some ⟨b, o, none⟩)) 5).run Try.prog w = .ok (.pointer (some ⟨b, o + 5, none⟩)) w := fieldAt_run Try.runUnderlying60 rfl Try.sizeOf3 rfl rfl
theorem fld_74_0 : ∀ b o w, (Instr.fieldAt 74 (.pointer (some ⟨b, o, none⟩)) 0).run Try.prog w = .ok (.pointer (some ⟨b, o + 0, none⟩)) w := fieldAt_run Try.runUnderlying74 rfl Try.sizeOf3 rfl rfl
theorem fld_74_1 : ∀ b o w, (Instr.fieldAt 74 (.pointer (some ⟨b, o, none⟩)) 1).run Try.prog w = .ok (.pointer (some ⟨b, o + 1, none⟩)) w := fieldAt_run Try.runUnderlying74 rfl Try.sizeOf3 rfl rfl
theorem fld_81_0 : ∀ b o w, (Instr.fieldAt 81 (.pointer (some ⟨b, o, none⟩)) 0).run Try.prog w = .ok (.pointer (some ⟨b, o + 0, none⟩)) w := fieldAt_run Try.runUnderlying81 rfl Try.sizeOf75 rfl rfl
theorem fld_81_1 : ∀ b o w, (Instr.fieldAt 81 (.pointer (some ⟨b, o, none⟩)) 1).run Try.prog w = .ok (.pointer (some ⟨b, o + 1, none⟩)) w := fieldAt_run Try.runUnderlying81 rfl Try.sizeOf79 rfl rfl
theorem fld_81_2 : ∀ b o w, (Instr.fieldAt 81 (.pointer (some ⟨b, o, none⟩)) 2).run Try.prog w = .ok (.pointer (some ⟨b, o + 2, none⟩)) w := fieldAt_run Try.runUnderlying81 rfl Try.sizeOf3 rfl rfl
theorem fld_83_0 : ∀ b o w, (Instr.fieldAt 83 (.pointer (some ⟨b, o, none⟩)) 0).run Try.prog w = .ok (.pointer (some ⟨b, o + 0, none⟩)) w := fieldAt_run Try.runUnderlying83 rfl Try.sizeOf74 rfl rfl
theorem fld_83_1 : ∀ b o w, (Instr.fieldAt 83 (.pointer (some ⟨b, o, none⟩)) 1).run Try.prog w = .ok (.pointer (some ⟨b, o + 2, none⟩)) w := fieldAt_run Try.runUnderlying83 rfl Try.sizeOf3 rfl rfl
theorem fld_89_0 : ∀ b o w, (Instr.fieldAt 89 (.pointer (some ⟨b, o, none⟩)) 0).run Try.prog w = .ok (.pointer (some ⟨b, o + 0, none⟩)) w := fieldAt_run Try.runUnderlying89 rfl Try.sizeOf17 rfl rfl
theorem fld_89_1 : ∀ b o w, (Instr.fieldAt 89 (.pointer (some ⟨b, o, none⟩)) 1).run Try.prog w = .ok (.pointer (some ⟨b, o + 1, none⟩)) w := fieldAt_run Try.runUnderlying89 rfl Try.sizeOf17 rfl rfl
theorem fld_89_2 : ∀ b o w, (Instr.fieldAt 89 (.pointer (some ⟨b, o, none⟩)) 2).run Try.prog w = .ok (.pointer (some ⟨b, o + 2, none⟩)) w := fieldAt_run Try.runUnderlying89 rfl Try.sizeOf17 rfl rfl
theorem fld_89_3 : ∀ b o w, (Instr.fieldAt 89 (.pointer (some ⟨b, o, none⟩)) 3).run Try.prog w = .ok (.pointer (some ⟨b, o + 3, none⟩)) w := fieldAt_run Try.runUnderlying89 rfl Try.sizeOf9 rfl rfl
theorem fld_101_0 : ∀ b o w, (Instr.fieldAt 101 (.pointer (some ⟨b, o, none⟩)) 0).run Try.prog w = .ok (.pointer (some ⟨b, o + 0, none⟩)) w := fieldAt_run Try.runUnderlying101 rfl Try.sizeOf12 rfl rfl
theorem fld_101_1 : ∀ b o w, (Instr.fieldAt 101 (.pointer (some ⟨b, o, none⟩)) 1).run Try.prog w = .ok (.pointer (some ⟨b, o + 1, none⟩)) w := fieldAt_run Try.runUnderlying101 rfl Try.sizeOf12 rfl rfl
theorem fld_101_2 : ∀ b o w, (Instr.fieldAt 101 (.pointer (some ⟨b, o, none⟩)) 2).run Try.prog w = .ok (.pointer (some ⟨b, o + 2, none⟩)) w := fieldAt_run Try.runUnderlying101 rfl Try.sizeOf93 rfl rfl
theorem fld_101_3 : ∀ b o w, (Instr.fieldAt 101 (.pointer (some ⟨b, o, none⟩)) 3).run Try.prog w = .ok (.pointer (some ⟨b, o + 3, none⟩)) w := fieldAt_run Try.runUnderlying101 rfl Try.sizeOf94 rfl rfl
theorem fld_101_4 : ∀ b o w, (Instr.fieldAt 101 (.pointer (some ⟨b, o, none⟩)) 4).run Try.prog w = .ok (.pointer (some ⟨b, o + 4, none⟩)) w := fieldAt_run Try.runUnderlying101 rfl Try.sizeOf5 rfl rfl
theorem fld_101_5 : ∀ b o w, (Instr.fieldAt 101 (.pointer (some ⟨b, o, none⟩)) 5).run Try.prog w = .ok (.pointer (some ⟨b, o + 5, none⟩)) w := fieldAt_run Try.runUnderlying101 rfl Try.sizeOf5 rfl rfl
theorem fld_101_6 : ∀ b o w, (Instr.fieldAt 101 (.pointer (some ⟨b, o, none⟩)) 6).run Try.prog w = .ok (.pointer (some ⟨b, o + 6, none⟩)) w := fieldAt_run Try.runUnderlying101 rfl Try.sizeOf95 rfl rfl
theorem fld_101_7 : ∀ b o w, (Instr.fieldAt 101 (.pointer (some ⟨b, o, none⟩)) 7).run Try.prog w = .ok (.pointer (some ⟨b, o + 7, none⟩)) w := fieldAt_run Try.runUnderlying101 rfl Try.sizeOf96 rfl rfl
theorem fld_101_8 : ∀ b o w, (Instr.fieldAt 101 (.pointer (some ⟨b, o, none⟩)) 8).run Try.prog w = .ok (.pointer (some ⟨b, o + 8, none⟩)) w := fieldAt_run Try.runUnderlying101 rfl Try.sizeOf97 rfl rfl
theorem fld_101_9 : ∀ b o w, (Instr.fieldAt 101 (.pointer (some ⟨b, o, none⟩)) 9).run Try.prog w = .ok (.pointer (some ⟨b, o + 9, none⟩)) w := fieldAt_run Try.runUnderlying101 rfl Try.sizeOf98 rfl rfl
theorem fld_101_10 : ∀ b o w, (Instr.fieldAt 101 (.pointer (some ⟨b, o, none⟩)) 10).run Try.prog w = .ok (.pointer (some ⟨b, o + 10, none⟩)) w := fieldAt_run Try.runUnderlying101 rfl Try.sizeOf99 rfl rfl
set_option maxHeartbeats 2000000 in
theorem fld_run {s k off : Nat} (h : fldT s k = some off) : ∀ b o w, (Instr.fieldAt s (.pointer (some ⟨b, o, none⟩)) k).run Try.prog w = .ok (.pointer (some ⟨b, o + off, none⟩)) w := by
  unfold fldT at h
  split at h <;> (try cases h)
  · exact fld_24_0
  · exact fld_24_1
  · exact fld_38_0
  · exact fld_38_1
  · exact fld_38_2
  · exact fld_38_3
  · exact fld_46_0
  · exact fld_46_1
  · exact fld_46_2
  · exact fld_46_3
  · exact fld_52_0
  · exact fld_52_1
  · exact fld_60_0
  · exact fld_60_1
  · exact fld_60_2
  · exact fld_60_3
  · exact fld_60_4
  · exact fld_60_5
  · exact fld_74_0
  · exact fld_74_1
  · exact fld_81_0
  · exact fld_81_1
  · exact fld_81_2
  · exact fld_83_0
  · exact fld_83_1
  · exact fld_89_0
  · exact fld_89_1
  · exact fld_89_2
  · exact fld_89_3
  · exact fld_101_0
  · exact fld_101_1
  · exact fld_101_2
  · exact fld_101_3
  · exact fld_101_4
  · exact fld_101_5
  · exact fld_101_6
  · exact fld_101_7
  · exact fld_101_8
  · exact fld_101_9
  · exact fld_101_10

theorem sl_22 : SlFact Try.prog 22 46 4 32 [.int .i64 0, .int .i64 0, .int .i64 0, .int .i64 0] := SlFact.mk' (z := .agg #[.int .i64 0, .int .i64 0, .int .i64 0, .int .i64 0]) Try.underlying22 (by kernel_rfl) rfl rfl (by decide)
theorem sl_31 : SlFact Try.prog 31 4 1 1 [.bool false] := SlFact.mk' (z := .bool false) Try.underlying31 (by kernel_rfl) rfl rfl (by decide)
theorem sl_36 : SlFact Try.prog 36 3 1 8 [.int .i64 0] := SlFact.mk' (z := .int .i64 0) Try.underlying36 (by kernel_rfl) rfl rfl (by decide)
theorem sl_57 : SlFact Try.prog 57 60 6 40 [.int .i64 0, .int .i64 0, .int .i64 0, .bool false, .bool false, .int .i64 0] := SlFact.mk' (z := .agg #[.int .i64 0, .int .i64 0, .int .i64 0, .bool false, .bool false, .int .i64 0]) Try.underlying57 (by kernel_rfl) rfl rfl (by decide)
theorem sl_79 : SlFact Try.prog 79 83 3 24 [.int .i64 0, .int .i64 0, .int .i64 0] := SlFact.mk' (z := .agg #[.int .i64 0, .int .i64 0, .int .i64 0]) Try.underlying79 (by kernel_rfl) rfl rfl (by decide)
def slT : Nat → Option (Nat × Nat × Nat × List Value)
  | 22 => some (46, 4, 32, [.int .i64 0, .int .i64 0, .int .i64 0, .int .i64 0])
  | 31 => some (4, 1, 1, [.bool false])
  | 36 => some (3, 1, 8, [.int .i64 0])
  | 57 => some (60, 6, 40, [.int .i64 0, .int .i64 0, .int .i64 0, .bool false, .bool false, .int .i64 0])
  | 79 => some (83, 3, 24, [.int .i64 0, .int .i64 0, .int .i64 0])
  | _ => none

theorem sl_run {t el sz bt : Nat} {zs : List Value} (h : slT t = some (el, sz, bt, zs)) : SlFact Try.prog t el sz bt zs := by
  unfold slT at h
  split at h <;> (try cases h)
  · exact sl_22
  · exact sl_31
  · exact sl_36
  · exact sl_57
  · exact sl_79

set_option maxHeartbeats 1000000 in
theorem bld_24_0_1 {e : Env} {x0 x1 : Operand} {n0 : Int} {A1 : Option Addr} {l1 c1 : Nat} (h0 : ev e x0 = .int .i64 n0) (h1 : ev e x1 = .slice A1 l1 c1) : ∀ w, (Instr.build 24 #[(0, ev e x0), (1, ev e x1)]).run Try.prog w = .ok (.agg #[.int .i64 n0, .slice A1 l1 c1]) w := by
  intro w
  rw [h0, h1]
  simp [Instr.build, go_sem]

set_option maxHeartbeats 1000000 in
theorem bld_38_ {e : Env}   : ∀ w, (Instr.build 38 #[]).run Try.prog w = .ok (.agg #[.int .i64 0, .int .i64 0, .slice none 0 0, .slice none 0 0]) w := by
  intro w
  simp [Instr.build, go_sem]

set_option maxHeartbeats 1000000 in
theorem bld_38_0 {e : Env} {x0 : Operand} {n0 : Int} (h0 : ev e x0 = .int .i64 n0) : ∀ w, (Instr.build 38 #[(0, ev e x0)]).run Try.prog w = .ok (.agg #[.int .i64 n0, .int .i64 0, .slice none 0 0, .slice none 0 0]) w := by
  intro w
  rw [h0]
  simp [Instr.build, go_sem]

set_option maxHeartbeats 1000000 in
theorem bld_38_0_1_2_3 {e : Env} {x0 x1 x2 x3 : Operand} {n0 : Int} {n1 : Int} {A2 : Option Addr} {l2 c2 : Nat} {A3 : Option Addr} {l3 c3 : Nat} (h0 : ev e x0 = .int .i64 n0) (h1 : ev e x1 = .int .i64 n1) (h2 : ev e x2 = .slice A2 l2 c2) (h3 : ev e x3 = .slice A3 l3 c3) : ∀ w, (Instr.build 38 #[(0, ev e x0), (1, ev e x1), (2, ev e x2), (3, ev e x3)]).run Try.prog w = .ok (.agg #[.int .i64 n0, .int .i64 n1, .slice A2 l2 c2, .slice A3 l3 c3]) w := by
  intro w
  rw [h0, h1, h2, h3]
  simp [Instr.build, go_sem]

set_option maxHeartbeats 1000000 in
theorem bld_46_0_1_2 {e : Env} {x0 x1 x2 : Operand} {n0 : Int} {n1 : Int} {n2 : Int} (h0 : ev e x0 = .int .i64 n0) (h1 : ev e x1 = .int .i64 n1) (h2 : ev e x2 = .int .i64 n2) : ∀ w, (Instr.build 46 #[(0, ev e x0), (1, ev e x1), (2, ev e x2)]).run Try.prog w = .ok (.agg #[.int .i64 n0, .int .i64 n1, .int .i64 n2, .int .i64 0]) w := by
  intro w
  rw [h0, h1, h2]
  simp [Instr.build, go_sem]

set_option maxHeartbeats 1000000 in
theorem bld_46_0_1_2_3 {e : Env} {x0 x1 x2 x3 : Operand} {n0 : Int} {n1 : Int} {n2 : Int} {n3 : Int} (h0 : ev e x0 = .int .i64 n0) (h1 : ev e x1 = .int .i64 n1) (h2 : ev e x2 = .int .i64 n2) (h3 : ev e x3 = .int .i64 n3) : ∀ w, (Instr.build 46 #[(0, ev e x0), (1, ev e x1), (2, ev e x2), (3, ev e x3)]).run Try.prog w = .ok (.agg #[.int .i64 n0, .int .i64 n1, .int .i64 n2, .int .i64 n3]) w := by
  intro w
  rw [h0, h1, h2, h3]
  simp [Instr.build, go_sem]

set_option maxHeartbeats 1000000 in
theorem bld_52_0_1 {e : Env} {x0 x1 : Operand} {v0_0 v0_1 : Value} {A1 : Option Addr} {l1 c1 : Nat} (h0 : ev e x0 = .agg #[v0_0, v0_1]) (h1 : ev e x1 = .slice A1 l1 c1) : ∀ w, (Instr.build 52 #[(0, ev e x0), (1, ev e x1)]).run Try.prog w = .ok (.agg #[v0_0, v0_1, .slice A1 l1 c1]) w := by
  intro w
  rw [h0, h1]
  simp [Instr.build, go_sem]

set_option maxHeartbeats 1000000 in
theorem bld_60_0_1_2_3_4 {e : Env} {x0 x1 x2 x3 x4 : Operand} {n0 : Int} {n1 : Int} {n2 : Int} {b3 : Bool} {b4 : Bool} (h0 : ev e x0 = .int .i64 n0) (h1 : ev e x1 = .int .i64 n1) (h2 : ev e x2 = .int .i64 n2) (h3 : ev e x3 = .bool b3) (h4 : ev e x4 = .bool b4) : ∀ w, (Instr.build 60 #[(0, ev e x0), (1, ev e x1), (2, ev e x2), (3, ev e x3), (4, ev e x4)]).run Try.prog w = .ok (.agg #[.int .i64 n0, .int .i64 n1, .int .i64 n2, .bool b3, .bool b4, .int .i64 0]) w := by
  intro w
  rw [h0, h1, h2, h3, h4]
  simp [Instr.build, go_sem]

set_option maxHeartbeats 1000000 in
theorem bld_60_0_1_2_3_4_5 {e : Env} {x0 x1 x2 x3 x4 x5 : Operand} {n0 : Int} {n1 : Int} {n2 : Int} {b3 : Bool} {b4 : Bool} {n5 : Int} (h0 : ev e x0 = .int .i64 n0) (h1 : ev e x1 = .int .i64 n1) (h2 : ev e x2 = .int .i64 n2) (h3 : ev e x3 = .bool b3) (h4 : ev e x4 = .bool b4) (h5 : ev e x5 = .int .i64 n5) : ∀ w, (Instr.build 60 #[(0, ev e x0), (1, ev e x1), (2, ev e x2), (3, ev e x3), (4, ev e x4), (5, ev e x5)]).run Try.prog w = .ok (.agg #[.int .i64 n0, .int .i64 n1, .int .i64 n2, .bool b3, .bool b4, .int .i64 n5]) w := by
  intro w
  rw [h0, h1, h2, h3, h4, h5]
  simp [Instr.build, go_sem]

set_option maxHeartbeats 1000000 in
theorem bld_60_0_1_4 {e : Env} {x0 x1 x2 : Operand} {n0 : Int} {n1 : Int} {b2 : Bool} (h0 : ev e x0 = .int .i64 n0) (h1 : ev e x1 = .int .i64 n1) (h2 : ev e x2 = .bool b2) : ∀ w, (Instr.build 60 #[(0, ev e x0), (1, ev e x1), (4, ev e x2)]).run Try.prog w = .ok (.agg #[.int .i64 n0, .int .i64 n1, .int .i64 0, .bool false, .bool b2, .int .i64 0]) w := by
  intro w
  rw [h0, h1, h2]
  simp [Instr.build, go_sem]

set_option maxHeartbeats 1000000 in
theorem bld_74_0 {e : Env} {x0 : Operand} {n0 : Int} (h0 : ev e x0 = .int .i64 n0) : ∀ w, (Instr.build 74 #[(0, ev e x0)]).run Try.prog w = .ok (.agg #[.int .i64 n0, .int .i64 0]) w := by
  intro w
  rw [h0]
  simp [Instr.build, go_sem]

set_option maxHeartbeats 1000000 in
theorem bld_74_0_1 {e : Env} {x0 x1 : Operand} {n0 : Int} {n1 : Int} (h0 : ev e x0 = .int .i64 n0) (h1 : ev e x1 = .int .i64 n1) : ∀ w, (Instr.build 74 #[(0, ev e x0), (1, ev e x1)]).run Try.prog w = .ok (.agg #[.int .i64 n0, .int .i64 n1]) w := by
  intro w
  rw [h0, h1]
  simp [Instr.build, go_sem]

set_option maxHeartbeats 1000000 in
theorem bld_81_0 {e : Env} {x0 : Operand} {fn0 : Fn} {fa0 fb0 : Array Value} (h0 : ev e x0 = .func fn0 fa0 fb0) : ∀ w, (Instr.build 81 #[(0, ev e x0)]).run Try.prog w = .ok (.agg #[.func fn0 fa0 fb0, .slice none 0 0, .int .i64 0]) w := by
  intro w
  rw [h0]
  simp [Instr.build, go_sem]

set_option maxHeartbeats 1000000 in
theorem bld_83_0_1 {e : Env} {x0 x1 : Operand} {v0_0 v0_1 : Value} {n1 : Int} (h0 : ev e x0 = .agg #[v0_0, v0_1]) (h1 : ev e x1 = .int .i64 n1) : ∀ w, (Instr.build 83 #[(0, ev e x0), (1, ev e x1)]).run Try.prog w = .ok (.agg #[v0_0, v0_1, .int .i64 n1]) w := by
  intro w
  rw [h0, h1]
  simp [Instr.build, go_sem]

set_option maxHeartbeats 1000000 in
theorem bsl_22_0_ {e : Env}   : ∀ w, (Instr.buildSlice 22 0 #[]).run Try.prog w = .ok (.slice (some ⟨w.heap.size, 0, none⟩) 0 0) (w.alloc (.cells ([] : List Value).toArray 46)) := by
  intro w
  simp [Instr.buildSlice, go_sem]

set_option maxHeartbeats 1000000 in
theorem bsl_22_1_0 {e : Env} {x0 : Operand} {v0_0 v0_1 v0_2 v0_3 : Value} (h0 : ev e x0 = .agg #[v0_0, v0_1, v0_2, v0_3]) : ∀ w, (Instr.buildSlice 22 1 #[(0, ev e x0)]).run Try.prog w = .ok (.slice (some ⟨w.heap.size, 0, none⟩) 1 1) (w.alloc (.cells ([v0_0, v0_1, v0_2, v0_3] : List Value).toArray 46)) := by
  intro w
  rw [h0]
  simp [Instr.buildSlice, go_sem]

set_option maxHeartbeats 1000000 in
theorem bsl_22_5_0_1_2_3_4 {e : Env} {x0 x1 x2 x3 x4 : Operand} {v0_0 v0_1 v0_2 v0_3 : Value} {v1_0 v1_1 v1_2 v1_3 : Value} {v2_0 v2_1 v2_2 v2_3 : Value} {v3_0 v3_1 v3_2 v3_3 : Value} {v4_0 v4_1 v4_2 v4_3 : Value} (h0 : ev e x0 = .agg #[v0_0, v0_1, v0_2, v0_3]) (h1 : ev e x1 = .agg #[v1_0, v1_1, v1_2, v1_3]) (h2 : ev e x2 = .agg #[v2_0, v2_1, v2_2, v2_3]) (h3 : ev e x3 = .agg #[v3_0, v3_1, v3_2, v3_3]) (h4 : ev e x4 = .agg #[v4_0, v4_1, v4_2, v4_3]) : ∀ w, (Instr.buildSlice 22 5 #[(0, ev e x0), (1, ev e x1), (2, ev e x2), (3, ev e x3), (4, ev e x4)]).run Try.prog w = .ok (.slice (some ⟨w.heap.size, 0, none⟩) 5 5) (w.alloc (.cells ([v0_0, v0_1, v0_2, v0_3, v1_0, v1_1, v1_2, v1_3, v2_0, v2_1, v2_2, v2_3, v3_0, v3_1, v3_2, v3_3, v4_0, v4_1, v4_2, v4_3] : List Value).toArray 46)) := by
  intro w
  rw [h0, h1, h2, h3, h4]
  simp [Instr.buildSlice, go_sem]

set_option maxHeartbeats 1000000 in
theorem bsl_31_4_0_1_2_3 {e : Env} {x0 x1 x2 x3 : Operand} {b0 : Bool} {b1 : Bool} {b2 : Bool} {b3 : Bool} (h0 : ev e x0 = .bool b0) (h1 : ev e x1 = .bool b1) (h2 : ev e x2 = .bool b2) (h3 : ev e x3 = .bool b3) : ∀ w, (Instr.buildSlice 31 4 #[(0, ev e x0), (1, ev e x1), (2, ev e x2), (3, ev e x3)]).run Try.prog w = .ok (.slice (some ⟨w.heap.size, 0, none⟩) 4 4) (w.alloc (.cells ([.bool b0, .bool b1, .bool b2, .bool b3] : List Value).toArray 4)) := by
  intro w
  rw [h0, h1, h2, h3]
  simp [Instr.buildSlice, go_sem]

set_option maxHeartbeats 1000000 in
theorem bsl_79_1_0 {e : Env} {x0 : Operand} {v0_0 v0_1 v0_2 : Value} (h0 : ev e x0 = .agg #[v0_0, v0_1, v0_2]) : ∀ w, (Instr.buildSlice 79 1 #[(0, ev e x0)]).run Try.prog w = .ok (.slice (some ⟨w.heap.size, 0, none⟩) 1 1) (w.alloc (.cells ([v0_0, v0_1, v0_2] : List Value).toArray 83)) := by
  intro w
  rw [h0]
  simp [Instr.buildSlice, go_sem]

def funT : Nat → Bool
  | 3 => true
  | 4 => true
  | 5 => true
  | 6 => true
  | 7 => true
  | 8 => true
  | 9 => true
  | 10 => true
  | 11 => true
  | 12 => true
  | 13 => true
  | 14 => true
  | 15 => true
  | 16 => true
  | 17 => true
  | 18 => true
  | 19 => true
  | 20 => true
  | 21 => true
  | 22 => true
  | 23 => true
  | 24 => true
  | 25 => true
  | 26 => true
  | 27 => true
  | 28 => true
  | 29 => true
  | 30 => true
  | 31 => true
  | 32 => true
  | 33 => true
  | 34 => true
  | 35 => true
  | 36 => true
  | 37 => true
  | 38 => true
  | 39 => true
  | 40 => true
  | 41 => true
  | 42 => true
  | 43 => true
  | 44 => true
  | 45 => true
  | 46 => true
  | 47 => true
  | 48 => true
  | 49 => true
  | 50 => true
  | 51 => true
  | _ => false

set_option maxHeartbeats 2000000 in
theorem fun_run {f : Nat} (h : funT f = true) : ∀ (args : Array Value) (w : World), (callFunc f args).run Try.prog w = .ok (.enter f args) w := by
  unfold funT at h
  split at h <;> (try cases h)
  · exact Try.call3
  · exact Try.call4
  · exact Try.call5
  · exact Try.call6
  · exact Try.call7
  · exact Try.call8
  · exact Try.call9
  · exact Try.call10
  · exact Try.call11
  · exact Try.call12
  · exact Try.call13
  · exact Try.call14
  · exact Try.call15
  · exact Try.call16
  · exact Try.call17
  · exact Try.call18
  · exact Try.call19
  · exact Try.call20
  · exact Try.call21
  · exact Try.call22
  · exact Try.call23
  · exact Try.call24
  · exact Try.call25
  · exact Try.call26
  · exact Try.call27
  · exact Try.call28
  · exact Try.call29
  · exact Try.call30
  · exact Try.call31
  · exact Try.call32
  · exact Try.call33
  · exact Try.call34
  · exact Try.call35
  · exact Try.call36
  · exact Try.call37
  · exact Try.call38
  · exact Try.call39
  · exact Try.call40
  · exact Try.call41
  · exact Try.call42
  · exact Try.call43
  · exact Try.call44
  · exact Try.call45
  · exact Try.call46
  · exact Try.call47
  · exact Try.call48
  · exact Try.call49
  · exact Try.call50
  · exact Try.call51

theorem mixed : Try.prog.follows .mixedOrders = true := by kernel_rfl

end Go.Proofs.Ythegjmgljolalaa
