/-
  The types and functions of this seat, as the walk wants them (written by a program from the translation).
-/
import Derived.Test.YtgjfjbphngamgaaProg
import Derived.Test.YtgjfjbphngamgaaEng
import Derived.OrdersHeld
import Derived.Laws.CopyRow
import Derived.Deep.Slices
import Derived.ChangeOld
import Derived.ProofKit
import Derived.OpenShut
set_option linter.all false
namespace Go.Proofs.Ytgjfjbphngamgaa
open Go Go.W
def aggT : Nat → Option Bool
  | 2 => some false
  | 3 => some false
  | 4 => some false
  | 5 => some false
  | 6 => some false
  | 21 => some false
  | 22 => some false
  | 23 => some true
  | 24 => some true
  | 25 => some false
  | 26 => some false
  | 27 => some true
  | 28 => some true
  | 31 => some false
  | 32 => some true
  | 33 => some true
  | 34 => some false
  | 39 => some true
  | 40 => some true
  | 41 => some true
  | 42 => some true
  | 43 => some true
  | 44 => some true
  | 47 => some true
  | 48 => some true
  | 50 => some false
  | 51 => some true
  | 52 => some true
  | 58 => some false
  | 59 => some true
  | 60 => some true
  | 70 => some true
  | 71 => some true
  | 74 => some false
  | 75 => some true
  | 76 => some true
  | 85 => some false
  | 86 => some true
  | 87 => some true
  | 95 => some true
  | 96 => some true
  | 101 => some false
  | 105 => some true
  | 106 => some true
  | 108 => some false
  | 110 => some true
  | 111 => some true
  | 112 => some false
  | 115 => some true
  | 116 => some true
  | 126 => some false
  | 134 => some false
  | 135 => some false
  | 138 => some false
  | 139 => some true
  | 140 => some true
  | 143 => some false
  | 145 => some true
  | 146 => some true
  | 147 => some false
  | 152 => some false
  | 156 => some false
  | 158 => some true
  | 159 => some true
  | 161 => some false
  | 168 => some false
  | 169 => some true
  | 170 => some true
  | 171 => some true
  | 172 => some true
  | 174 => some false
  | 175 => some true
  | 176 => some true
  | 177 => some true
  | 178 => some true
  | _ => none
set_option maxHeartbeats 2000000 in
theorem agg_run {t : Nat} {v : _} (h : aggT t = some v) : ∀ w, (isAgg t).run Try.prog w = .ok v w := by
  unfold aggT at h
  split at h <;> (try cases h)
  · exact Try.isAgg2
  · exact Try.isAgg3
  · exact Try.isAgg4
  · exact Try.isAgg5
  · exact Try.isAgg6
  · exact Try.isAgg21
  · exact Try.isAgg22
  · exact Try.isAgg23
  · exact Try.isAgg24
  · exact Try.isAgg25
  · exact Try.isAgg26
  · exact Try.isAgg27
  · exact Try.isAgg28
  · exact Try.isAgg31
  · exact Try.isAgg32
  · exact Try.isAgg33
  · exact Try.isAgg34
  · exact Try.isAgg39
  · exact Try.isAgg40
  · exact Try.isAgg41
  · exact Try.isAgg42
  · exact Try.isAgg43
  · exact Try.isAgg44
  · exact Try.isAgg47
  · exact Try.isAgg48
  · exact Try.isAgg50
  · exact Try.isAgg51
  · exact Try.isAgg52
  · exact Try.isAgg58
  · exact Try.isAgg59
  · exact Try.isAgg60
  · exact Try.isAgg70
  · exact Try.isAgg71
  · exact Try.isAgg74
  · exact Try.isAgg75
  · exact Try.isAgg76
  · exact Try.isAgg85
  · exact Try.isAgg86
  · exact Try.isAgg87
  · exact Try.isAgg95
  · exact Try.isAgg96
  · exact Try.isAgg101
  · exact Try.isAgg105
  · exact Try.isAgg106
  · exact Try.isAgg108
  · exact Try.isAgg110
  · exact Try.isAgg111
  · exact Try.isAgg112
  · exact Try.isAgg115
  · exact Try.isAgg116
  · exact Try.isAgg126
  · exact Try.isAgg134
  · exact Try.isAgg135
  · exact Try.isAgg138
  · exact Try.isAgg139
  · exact Try.isAgg140
  · exact Try.isAgg143
  · exact Try.isAgg145
  · exact Try.isAgg146
  · exact Try.isAgg147
  · exact Try.isAgg152
  · exact Try.isAgg156
  · exact Try.isAgg158
  · exact Try.isAgg159
  · exact Try.isAgg161
  · exact Try.isAgg168
  · exact Try.isAgg169
  · exact Try.isAgg170
  · exact Try.isAgg171
  · exact Try.isAgg172
  · exact Try.isAgg174
  · exact Try.isAgg175
  · exact Try.isAgg176
  · exact Try.isAgg177
  · exact Try.isAgg178
def sizeT : Nat → Option Nat
  | 2 => some 1
  | 3 => some 1
  | 4 => some 1
  | 5 => some 1
  | 6 => some 1
  | 21 => some 1
  | 22 => some 1
  | 23 => some 2
  | 24 => some 2
  | 25 => some 1
  | 26 => some 1
  | 27 => some 5
  | 28 => some 5
  | 31 => some 1
  | 32 => some 4
  | 33 => some 4
  | 34 => some 1
  | 39 => some 2
  | 40 => some 2
  | 41 => some 4
  | 42 => some 4
  | 43 => some 3
  | 44 => some 3
  | 47 => some 2
  | 48 => some 2
  | 50 => some 1
  | 51 => some 2
  | 52 => some 2
  | 58 => some 1
  | 59 => some 6
  | 60 => some 6
  | 70 => some 4
  | 71 => some 4
  | 74 => some 1
  | 75 => some 2
  | 76 => some 2
  | 85 => some 1
  | 86 => some 2
  | 87 => some 2
  | 95 => some 4
  | 96 => some 4
  | 101 => some 1
  | 105 => some 13
  | 106 => some 13
  | 108 => some 1
  | 110 => some 3
  | 111 => some 3
  | 112 => some 1
  | 115 => some 6
  | 116 => some 6
  | 126 => some 1
  | 134 => some 1
  | 135 => some 1
  | 138 => some 1
  | 139 => some 2
  | 140 => some 2
  | 143 => some 1
  | 145 => some 2
  | 146 => some 2
  | 147 => some 1
  | 152 => some 1
  | 156 => some 1
  | 158 => some 3
  | 159 => some 3
  | 161 => some 1
  | 168 => some 1
  | 169 => some 3
  | 170 => some 3
  | 171 => some 3
  | 172 => some 3
  | 174 => some 1
  | 175 => some 3
  | 176 => some 3
  | 177 => some 4
  | 178 => some 4
  | _ => none
set_option maxHeartbeats 2000000 in
theorem size_run {t : Nat} {v : _} (h : sizeT t = some v) : ∀ w, (Go.sizeOf t).run Try.prog w = .ok v w := by
  unfold sizeT at h
  split at h <;> (try cases h)
  · exact Try.sizeOf2
  · exact Try.sizeOf3
  · exact Try.sizeOf4
  · exact Try.sizeOf5
  · exact Try.sizeOf6
  · exact Try.sizeOf21
  · exact Try.sizeOf22
  · exact Try.sizeOf23
  · exact Try.sizeOf24
  · exact Try.sizeOf25
  · exact Try.sizeOf26
  · exact Try.sizeOf27
  · exact Try.sizeOf28
  · exact Try.sizeOf31
  · exact Try.sizeOf32
  · exact Try.sizeOf33
  · exact Try.sizeOf34
  · exact Try.sizeOf39
  · exact Try.sizeOf40
  · exact Try.sizeOf41
  · exact Try.sizeOf42
  · exact Try.sizeOf43
  · exact Try.sizeOf44
  · exact Try.sizeOf47
  · exact Try.sizeOf48
  · exact Try.sizeOf50
  · exact Try.sizeOf51
  · exact Try.sizeOf52
  · exact Try.sizeOf58
  · exact Try.sizeOf59
  · exact Try.sizeOf60
  · exact Try.sizeOf70
  · exact Try.sizeOf71
  · exact Try.sizeOf74
  · exact Try.sizeOf75
  · exact Try.sizeOf76
  · exact Try.sizeOf85
  · exact Try.sizeOf86
  · exact Try.sizeOf87
  · exact Try.sizeOf95
  · exact Try.sizeOf96
  · exact Try.sizeOf101
  · exact Try.sizeOf105
  · exact Try.sizeOf106
  · exact Try.sizeOf108
  · exact Try.sizeOf110
  · exact Try.sizeOf111
  · exact Try.sizeOf112
  · exact Try.sizeOf115
  · exact Try.sizeOf116
  · exact Try.sizeOf126
  · exact Try.sizeOf134
  · exact Try.sizeOf135
  · exact Try.sizeOf138
  · exact Try.sizeOf139
  · exact Try.sizeOf140
  · exact Try.sizeOf143
  · exact Try.sizeOf145
  · exact Try.sizeOf146
  · exact Try.sizeOf147
  · exact Try.sizeOf152
  · exact Try.sizeOf156
  · exact Try.sizeOf158
  · exact Try.sizeOf159
  · exact Try.sizeOf161
  · exact Try.sizeOf168
  · exact Try.sizeOf169
  · exact Try.sizeOf170
  · exact Try.sizeOf171
  · exact Try.sizeOf172
  · exact Try.sizeOf174
  · exact Try.sizeOf175
  · exact Try.sizeOf176
  · exact Try.sizeOf177
  · exact Try.sizeOf178
def elT : Nat → Option Nat
  | 22 => some 44
  | 25 => some 42
  | 26 => some 48
  | 31 => some 3
  | 50 => some 87
  | 58 => some 31
  | 74 => some 96
  | 112 => some 116
  | 134 => some 140
  | 135 => some 4
  | 168 => some 172
  | 174 => some 178
  | _ => none
set_option maxHeartbeats 2000000 in
theorem el_run {t : Nat} {v : _} (h : elT t = some v) : ∀ w, (underlying t).run Try.prog w = .ok (.slice v) w := by
  unfold elT at h
  split at h <;> (try cases h)
  · exact Try.runUnderlying22
  · exact Try.runUnderlying25
  · exact Try.runUnderlying26
  · exact Try.runUnderlying31
  · exact Try.runUnderlying50
  · exact Try.runUnderlying58
  · exact Try.runUnderlying74
  · exact Try.runUnderlying112
  · exact Try.runUnderlying134
  · exact Try.runUnderlying135
  · exact Try.runUnderlying168
  · exact Try.runUnderlying174
def ikT : Nat → Option IntKind
  | 2 => some .i64
  | 3 => some .i64
  | 5 => some .u8
  | 6 => some .u8
  | 21 => some .i32
  | 34 => some .i64
  | _ => none
set_option maxHeartbeats 2000000 in
theorem ik_run {t : Nat} {v : _} (h : ikT t = some v) : ∀ w, (underlying t).run Try.prog w = .ok (.int v) w := by
  unfold ikT at h
  split at h <;> (try cases h)
  · exact Try.runUnderlying2
  · exact Try.runUnderlying3
  · exact Try.runUnderlying5
  · exact Try.runUnderlying6
  · exact Try.runUnderlying21
  · exact Try.runUnderlying34
def zeroT : Nat → Option Value
  | 2 => some (.int .i64 0)
  | 3 => some (.int .i64 0)
  | 4 => some (.bool false)
  | 5 => some (.int .u8 0)
  | 6 => some (.int .u8 0)
  | 21 => some (.int .i32 0)
  | 22 => some (.slice none 0 0)
  | 23 => some (.agg #[.int .i64 0, .slice none 0 0])
  | 24 => some (.agg #[.int .i64 0, .slice none 0 0])
  | 25 => some (.slice none 0 0)
  | 26 => some (.slice none 0 0)
  | 27 => some (.agg #[.int .i64 0, .slice none 0 0, .slice none 0 0, .slice none 0 0, .int .i64 0])
  | 28 => some (.agg #[.int .i64 0, .slice none 0 0, .slice none 0 0, .slice none 0 0, .int .i64 0])
  | 31 => some (.slice none 0 0)
  | 32 => some (.agg #[.int .i64 0, .int .i64 0, .slice none 0 0, .slice none 0 0])
  | 33 => some (.agg #[.int .i64 0, .int .i64 0, .slice none 0 0, .slice none 0 0])
  | 34 => some (.int .i64 0)
  | 39 => some (.agg #[.int .i64 0, .int .i64 0])
  | 40 => some (.agg #[.int .i64 0, .int .i64 0])
  | 41 => some (.agg #[.int .i64 0, .int .i64 0, .int .i64 0, .int .i64 0])
  | 42 => some (.agg #[.int .i64 0, .int .i64 0, .int .i64 0, .int .i64 0])
  | 43 => some (.agg #[.int .i64 0, .int .i64 0, .int .i64 0])
  | 44 => some (.agg #[.int .i64 0, .int .i64 0, .int .i64 0])
  | 47 => some (.agg #[.int .i64 0, .int .i64 0])
  | 48 => some (.agg #[.int .i64 0, .int .i64 0])
  | 50 => some (.slice none 0 0)
  | 51 => some (.agg #[.slice none 0 0, .slice none 0 0])
  | 52 => some (.agg #[.slice none 0 0, .slice none 0 0])
  | 58 => some (.slice none 0 0)
  | 59 => some (.agg #[.slice none 0 0, .slice none 0 0, .slice none 0 0, .int .i64 0, .int .i64 0, .int .i64 0])
  | 60 => some (.agg #[.slice none 0 0, .slice none 0 0, .slice none 0 0, .int .i64 0, .int .i64 0, .int .i64 0])
  | 70 => some (.agg #[.int .i64 0, .int .i64 0, .slice none 0 0, .slice none 0 0])
  | 71 => some (.agg #[.int .i64 0, .int .i64 0, .slice none 0 0, .slice none 0 0])
  | 74 => some (.slice none 0 0)
  | 75 => some (.agg #[.int .i64 0, .slice none 0 0])
  | 76 => some (.agg #[.int .i64 0, .slice none 0 0])
  | 85 => some (.nilFunc)
  | 86 => some (.agg #[.int .i64 0, .slice none 0 0])
  | 87 => some (.agg #[.int .i64 0, .slice none 0 0])
  | 95 => some (.agg #[.int .i64 0, .int .i64 0, .int .i64 0, .int .i64 0])
  | 96 => some (.agg #[.int .i64 0, .int .i64 0, .int .i64 0, .int .i64 0])
  | 101 => some (.pointer none)
  | 105 => some (.agg #[.int .i64 0, .int .i64 0, .int .i64 0, .int .i64 0, .int .i64 0, .slice none 0 0, .slice none 0 0, .slice none 0 0, .int .i64 0, .int .i64 0, .int .i64 0, .int .i64 0, .int .i64 0])
  | 106 => some (.agg #[.int .i64 0, .int .i64 0, .int .i64 0, .int .i64 0, .int .i64 0, .slice none 0 0, .slice none 0 0, .slice none 0 0, .int .i64 0, .int .i64 0, .int .i64 0, .int .i64 0, .int .i64 0])
  | 108 => some (.nilFunc)
  | 110 => some (.agg #[.int .i64 0, .slice none 0 0, .slice none 0 0])
  | 111 => some (.agg #[.int .i64 0, .slice none 0 0, .slice none 0 0])
  | 112 => some (.slice none 0 0)
  | 115 => some (.agg #[.int .i64 0, .int .i64 0, .int .i64 0, .bool false, .bool false, .int .i64 0])
  | 116 => some (.agg #[.int .i64 0, .int .i64 0, .int .i64 0, .bool false, .bool false, .int .i64 0])
  | 126 => some (.nilFunc)
  | 134 => some (.slice none 0 0)
  | 135 => some (.slice none 0 0)
  | 138 => some (.nilFunc)
  | 139 => some (.agg #[.int .i64 0, .int .i64 0])
  | 140 => some (.agg #[.int .i64 0, .int .i64 0])
  | 143 => some (.pointer none)
  | 145 => some (.agg #[.int .i64 0, .int .i64 0])
  | 146 => some (.agg #[.int .i64 0, .int .i64 0])
  | 147 => some (.nilFunc)
  | 152 => some (.nilFunc)
  | 156 => some (.pointer none)
  | 158 => some (.agg #[.int .i64 0, .int .i64 0, .int .i64 0])
  | 159 => some (.agg #[.int .i64 0, .int .i64 0, .int .i64 0])
  | 161 => some (.nilFunc)
  | 168 => some (.slice none 0 0)
  | 169 => some (.agg #[.nilFunc, .slice none 0 0, .int .i64 0])
  | 170 => some (.agg #[.nilFunc, .slice none 0 0, .int .i64 0])
  | 171 => some (.agg #[.int .i64 0, .int .i64 0, .int .i64 0])
  | 172 => some (.agg #[.int .i64 0, .int .i64 0, .int .i64 0])
  | 174 => some (.slice none 0 0)
  | 175 => some (.agg #[.nilFunc, .slice none 0 0, .int .i64 0])
  | 176 => some (.agg #[.nilFunc, .slice none 0 0, .int .i64 0])
  | 177 => some (.agg #[.int .i64 0, .int .i64 0, .int .i64 0, .int .i64 0])
  | 178 => some (.agg #[.int .i64 0, .int .i64 0, .int .i64 0, .int .i64 0])
  | _ => none
set_option maxHeartbeats 2000000 in
theorem zero_run {t : Nat} {v : _} (h : zeroT t = some v) : ∀ w, (zeroValue t).run Try.prog w = .ok v w := by
  unfold zeroT at h
  split at h <;> (try cases h)
  · exact Try.zeroValue2
  · exact Try.zeroValue3
  · exact Try.zeroValue4
  · exact Try.zeroValue5
  · exact Try.zeroValue6
  · exact Try.zeroValue21
  · exact Try.zeroValue22
  · exact Try.zeroValue23
  · exact Try.zeroValue24
  · exact Try.zeroValue25
  · exact Try.zeroValue26
  · exact Try.zeroValue27
  · exact Try.zeroValue28
  · exact Try.zeroValue31
  · exact Try.zeroValue32
  · exact Try.zeroValue33
  · exact Try.zeroValue34
  · exact Try.zeroValue39
  · exact Try.zeroValue40
  · exact Try.zeroValue41
  · exact Try.zeroValue42
  · exact Try.zeroValue43
  · exact Try.zeroValue44
  · exact Try.zeroValue47
  · exact Try.zeroValue48
  · exact Try.zeroValue50
  · exact Try.zeroValue51
  · exact Try.zeroValue52
  · exact Try.zeroValue58
  · exact Try.zeroValue59
  · exact Try.zeroValue60
  · exact Try.zeroValue70
  · exact Try.zeroValue71
  · exact Try.zeroValue74
  · exact Try.zeroValue75
  · exact Try.zeroValue76
  · exact Try.zeroValue85
  · exact Try.zeroValue86
  · exact Try.zeroValue87
  · exact Try.zeroValue95
  · exact Try.zeroValue96
  · exact Try.zeroValue101
  · exact Try.zeroValue105
  · exact Try.zeroValue106
  · exact Try.zeroValue108
  · exact Try.zeroValue110
  · exact Try.zeroValue111
  · exact Try.zeroValue112
  · exact Try.zeroValue115
  · exact Try.zeroValue116
  · exact Try.zeroValue126
  · exact Try.zeroValue134
  · exact Try.zeroValue135
  · exact Try.zeroValue138
  · exact Try.zeroValue139
  · exact Try.zeroValue140
  · exact Try.zeroValue143
  · exact Try.zeroValue145
  · exact Try.zeroValue146
  · exact Try.zeroValue147
  · exact Try.zeroValue152
  · exact Try.zeroValue156
  · exact Try.zeroValue158
  · exact Try.zeroValue159
  · exact Try.zeroValue161
  · exact Try.zeroValue168
  · exact Try.zeroValue169
  · exact Try.zeroValue170
  · exact Try.zeroValue171
  · exact Try.zeroValue172
  · exact Try.zeroValue174
  · exact Try.zeroValue175
  · exact Try.zeroValue176
  · exact Try.zeroValue177
  · exact Try.zeroValue178
def bytT : Nat → Option (Nat × Nat)
  | 2 => some (1, 8)
  | 3 => some (1, 8)
  | 4 => some (1, 1)
  | 5 => some (1, 1)
  | 6 => some (1, 1)
  | 21 => some (1, 4)
  | 22 => some (1, 24)
  | 23 => some (2, 32)
  | 24 => some (2, 32)
  | 25 => some (1, 24)
  | 26 => some (1, 24)
  | 27 => some (5, 88)
  | 28 => some (5, 88)
  | 31 => some (1, 24)
  | 32 => some (4, 64)
  | 33 => some (4, 64)
  | 34 => some (1, 8)
  | 39 => some (2, 16)
  | 40 => some (2, 16)
  | 41 => some (4, 32)
  | 42 => some (4, 32)
  | 43 => some (3, 24)
  | 44 => some (3, 24)
  | 47 => some (2, 16)
  | 48 => some (2, 16)
  | 50 => some (1, 24)
  | 51 => some (2, 48)
  | 52 => some (2, 48)
  | 58 => some (1, 24)
  | 59 => some (6, 96)
  | 60 => some (6, 96)
  | 70 => some (4, 64)
  | 71 => some (4, 64)
  | 74 => some (1, 24)
  | 75 => some (2, 32)
  | 76 => some (2, 32)
  | 85 => some (1, 8)
  | 86 => some (2, 32)
  | 87 => some (2, 32)
  | 95 => some (4, 32)
  | 96 => some (4, 32)
  | 101 => some (1, 8)
  | 105 => some (13, 152)
  | 106 => some (13, 152)
  | 108 => some (1, 8)
  | 110 => some (3, 56)
  | 111 => some (3, 56)
  | 112 => some (1, 24)
  | 115 => some (6, 40)
  | 116 => some (6, 40)
  | 126 => some (1, 8)
  | 134 => some (1, 24)
  | 135 => some (1, 24)
  | 138 => some (1, 8)
  | 139 => some (2, 16)
  | 140 => some (2, 16)
  | 143 => some (1, 8)
  | 145 => some (2, 16)
  | 146 => some (2, 16)
  | 147 => some (1, 8)
  | 152 => some (1, 8)
  | 156 => some (1, 8)
  | 158 => some (3, 24)
  | 159 => some (3, 24)
  | 161 => some (1, 8)
  | 168 => some (1, 24)
  | 169 => some (3, 40)
  | 170 => some (3, 40)
  | 171 => some (3, 24)
  | 172 => some (3, 24)
  | 174 => some (1, 24)
  | 175 => some (3, 40)
  | 176 => some (3, 40)
  | 177 => some (4, 32)
  | 178 => some (4, 32)
  | _ => none
set_option maxHeartbeats 2000000 in
theorem byt_run {t : Nat} {v : _} (h : bytT t = some v) : ∃ i, (∀ w, (typeInfo t).run Try.prog w = .ok i w) ∧ i.size = v.1 ∧ i.bytes = v.2 := by
  unfold bytT at h
  split at h <;> (try cases h)
  · exact ⟨_, Try.typeInfo2, rfl, rfl⟩
  · exact ⟨_, Try.typeInfo3, rfl, rfl⟩
  · exact ⟨_, Try.typeInfo4, rfl, rfl⟩
  · exact ⟨_, Try.typeInfo5, rfl, rfl⟩
  · exact ⟨_, Try.typeInfo6, rfl, rfl⟩
  · exact ⟨_, Try.typeInfo21, rfl, rfl⟩
  · exact ⟨_, Try.typeInfo22, rfl, rfl⟩
  · exact ⟨_, Try.typeInfo23, rfl, rfl⟩
  · exact ⟨_, Try.typeInfo24, rfl, rfl⟩
  · exact ⟨_, Try.typeInfo25, rfl, rfl⟩
  · exact ⟨_, Try.typeInfo26, rfl, rfl⟩
  · exact ⟨_, Try.typeInfo27, rfl, rfl⟩
  · exact ⟨_, Try.typeInfo28, rfl, rfl⟩
  · exact ⟨_, Try.typeInfo31, rfl, rfl⟩
  · exact ⟨_, Try.typeInfo32, rfl, rfl⟩
  · exact ⟨_, Try.typeInfo33, rfl, rfl⟩
  · exact ⟨_, Try.typeInfo34, rfl, rfl⟩
  · exact ⟨_, Try.typeInfo39, rfl, rfl⟩
  · exact ⟨_, Try.typeInfo40, rfl, rfl⟩
  · exact ⟨_, Try.typeInfo41, rfl, rfl⟩
  · exact ⟨_, Try.typeInfo42, rfl, rfl⟩
  · exact ⟨_, Try.typeInfo43, rfl, rfl⟩
  · exact ⟨_, Try.typeInfo44, rfl, rfl⟩
  · exact ⟨_, Try.typeInfo47, rfl, rfl⟩
  · exact ⟨_, Try.typeInfo48, rfl, rfl⟩
  · exact ⟨_, Try.typeInfo50, rfl, rfl⟩
  · exact ⟨_, Try.typeInfo51, rfl, rfl⟩
  · exact ⟨_, Try.typeInfo52, rfl, rfl⟩
  · exact ⟨_, Try.typeInfo58, rfl, rfl⟩
  · exact ⟨_, Try.typeInfo59, rfl, rfl⟩
  · exact ⟨_, Try.typeInfo60, rfl, rfl⟩
  · exact ⟨_, Try.typeInfo70, rfl, rfl⟩
  · exact ⟨_, Try.typeInfo71, rfl, rfl⟩
  · exact ⟨_, Try.typeInfo74, rfl, rfl⟩
  · exact ⟨_, Try.typeInfo75, rfl, rfl⟩
  · exact ⟨_, Try.typeInfo76, rfl, rfl⟩
  · exact ⟨_, Try.typeInfo85, rfl, rfl⟩
  · exact ⟨_, Try.typeInfo86, rfl, rfl⟩
  · exact ⟨_, Try.typeInfo87, rfl, rfl⟩
  · exact ⟨_, Try.typeInfo95, rfl, rfl⟩
  · exact ⟨_, Try.typeInfo96, rfl, rfl⟩
  · exact ⟨_, Try.typeInfo101, rfl, rfl⟩
  · exact ⟨_, Try.typeInfo105, rfl, rfl⟩
  · exact ⟨_, Try.typeInfo106, rfl, rfl⟩
  · exact ⟨_, Try.typeInfo108, rfl, rfl⟩
  · exact ⟨_, Try.typeInfo110, rfl, rfl⟩
  · exact ⟨_, Try.typeInfo111, rfl, rfl⟩
  · exact ⟨_, Try.typeInfo112, rfl, rfl⟩
  · exact ⟨_, Try.typeInfo115, rfl, rfl⟩
  · exact ⟨_, Try.typeInfo116, rfl, rfl⟩
  · exact ⟨_, Try.typeInfo126, rfl, rfl⟩
  · exact ⟨_, Try.typeInfo134, rfl, rfl⟩
  · exact ⟨_, Try.typeInfo135, rfl, rfl⟩
  · exact ⟨_, Try.typeInfo138, rfl, rfl⟩
  · exact ⟨_, Try.typeInfo139, rfl, rfl⟩
  · exact ⟨_, Try.typeInfo140, rfl, rfl⟩
  · exact ⟨_, Try.typeInfo143, rfl, rfl⟩
  · exact ⟨_, Try.typeInfo145, rfl, rfl⟩
  · exact ⟨_, Try.typeInfo146, rfl, rfl⟩
  · exact ⟨_, Try.typeInfo147, rfl, rfl⟩
  · exact ⟨_, Try.typeInfo152, rfl, rfl⟩
  · exact ⟨_, Try.typeInfo156, rfl, rfl⟩
  · exact ⟨_, Try.typeInfo158, rfl, rfl⟩
  · exact ⟨_, Try.typeInfo159, rfl, rfl⟩
  · exact ⟨_, Try.typeInfo161, rfl, rfl⟩
  · exact ⟨_, Try.typeInfo168, rfl, rfl⟩
  · exact ⟨_, Try.typeInfo169, rfl, rfl⟩
  · exact ⟨_, Try.typeInfo170, rfl, rfl⟩
  · exact ⟨_, Try.typeInfo171, rfl, rfl⟩
  · exact ⟨_, Try.typeInfo172, rfl, rfl⟩
  · exact ⟨_, Try.typeInfo174, rfl, rfl⟩
  · exact ⟨_, Try.typeInfo175, rfl, rfl⟩
  · exact ⟨_, Try.typeInfo176, rfl, rfl⟩
  · exact ⟨_, Try.typeInfo177, rfl, rfl⟩
  · exact ⟨_, Try.typeInfo178, rfl, rfl⟩
def fldT24 : Nat → Option Nat
  | 0 => some 0
  | 1 => some 1
  | _ => none
def fldT28 : Nat → Option Nat
  | 0 => some 0
  | 1 => some 2
  | 2 => some 3
  | 3 => some 4
  | _ => none
def fldT33 : Nat → Option Nat
  | 0 => some 0
  | 1 => some 1
  | 2 => some 2
  | 3 => some 3
  | _ => none
def fldT40 : Nat → Option Nat
  | 0 => some 0
  | 1 => some 1
  | _ => none
def fldT42 : Nat → Option Nat
  | 0 => some 0
  | 1 => some 1
  | 2 => some 2
  | _ => none
def fldT44 : Nat → Option Nat
  | 0 => some 0
  | 1 => some 1
  | 2 => some 2
  | _ => none
def fldT48 : Nat → Option Nat
  | 0 => some 0
  | 1 => some 1
  | _ => none
def fldT52 : Nat → Option Nat
  | 0 => some 0
  | 1 => some 1
  | _ => none
def fldT60 : Nat → Option Nat
  | 0 => some 0
  | 1 => some 1
  | 2 => some 2
  | 3 => some 3
  | 4 => some 4
  | 5 => some 5
  | _ => none
def fldT71 : Nat → Option Nat
  | 0 => some 0
  | 1 => some 1
  | 2 => some 2
  | 3 => some 3
  | _ => none
def fldT76 : Nat → Option Nat
  | 0 => some 0
  | 1 => some 1
  | _ => none
def fldT87 : Nat → Option Nat
  | 0 => some 0
  | 1 => some 1
  | _ => none
def fldT96 : Nat → Option Nat
  | 0 => some 0
  | 1 => some 1
  | 2 => some 2
  | 3 => some 3
  | _ => none
def fldT106 : Nat → Option Nat
  | 0 => some 0
  | 1 => some 4
  | 2 => some 9
  | 3 => some 10
  | 4 => some 11
  | 5 => some 12
  | _ => none
def fldT111 : Nat → Option Nat
  | 0 => some 0
  | 1 => some 2
  | _ => none
def fldT116 : Nat → Option Nat
  | 0 => some 0
  | 1 => some 1
  | 2 => some 2
  | 3 => some 3
  | 4 => some 4
  | 5 => some 5
  | _ => none
def fldT140 : Nat → Option Nat
  | 0 => some 0
  | 1 => some 1
  | _ => none
def fldT146 : Nat → Option Nat
  | 0 => some 0
  | 1 => some 1
  | _ => none
def fldT159 : Nat → Option Nat
  | 0 => some 0
  | 1 => some 1
  | _ => none
def fldT170 : Nat → Option Nat
  | 0 => some 0
  | 1 => some 1
  | 2 => some 2
  | _ => none
def fldT172 : Nat → Option Nat
  | 0 => some 0
  | 1 => some 2
  | _ => none
def fldT176 : Nat → Option Nat
  | 0 => some 0
  | 1 => some 1
  | 2 => some 2
  | _ => none
def fldT178 : Nat → Option Nat
  | 0 => some 0
  | 1 => some 3
  | _ => none
def fldT : Nat → Nat → Option Nat
  | 24, j => fldT24 j
  | 28, j => fldT28 j
  | 33, j => fldT33 j
  | 40, j => fldT40 j
  | 42, j => fldT42 j
  | 44, j => fldT44 j
  | 48, j => fldT48 j
  | 52, j => fldT52 j
  | 60, j => fldT60 j
  | 71, j => fldT71 j
  | 76, j => fldT76 j
  | 87, j => fldT87 j
  | 96, j => fldT96 j
  | 106, j => fldT106 j
  | 111, j => fldT111 j
  | 116, j => fldT116 j
  | 140, j => fldT140 j
  | 146, j => fldT146 j
  | 159, j => fldT159 j
  | 170, j => fldT170 j
  | 172, j => fldT172 j
  | 176, j => fldT176 j
  | 178, j => fldT178 j
  | _, _ => none
theorem fld_24_0 : ∀ b o w, (Instr.fieldAt 24 (.pointer (some ⟨b, o, none⟩)) 0).run Try.prog w = .ok (.pointer (some ⟨b, o + 0, none⟩)) w := fieldAt_run Try.runUnderlying24 rfl Try.sizeOf3 rfl rfl
theorem fld_24_1 : ∀ b o w, (Instr.fieldAt 24 (.pointer (some ⟨b, o, none⟩)) 1).run Try.prog w = .ok (.pointer (some ⟨b, o + 1, none⟩)) w := fieldAt_run Try.runUnderlying24 rfl Try.sizeOf22 rfl rfl
theorem fld_28_0 : ∀ b o w, (Instr.fieldAt 28 (.pointer (some ⟨b, o, none⟩)) 0).run Try.prog w = .ok (.pointer (some ⟨b, o + 0, none⟩)) w := fieldAt_run Try.runUnderlying28 rfl Try.sizeOf24 rfl rfl
theorem fld_28_1 : ∀ b o w, (Instr.fieldAt 28 (.pointer (some ⟨b, o, none⟩)) 1).run Try.prog w = .ok (.pointer (some ⟨b, o + 2, none⟩)) w := fieldAt_run Try.runUnderlying28 rfl Try.sizeOf25 rfl rfl
theorem fld_28_2 : ∀ b o w, (Instr.fieldAt 28 (.pointer (some ⟨b, o, none⟩)) 2).run Try.prog w = .ok (.pointer (some ⟨b, o + 3, none⟩)) w := fieldAt_run Try.runUnderlying28 rfl Try.sizeOf26 rfl rfl
theorem fld_28_3 : ∀ b o w, (Instr.fieldAt 28 (.pointer (some ⟨b, o, none⟩)) 3).run Try.prog w = .ok (.pointer (some ⟨b, o + 4, none⟩)) w := fieldAt_run Try.runUnderlying28 rfl Try.sizeOf3 rfl rfl
theorem fld_33_0 : ∀ b o w, (Instr.fieldAt 33 (.pointer (some ⟨b, o, none⟩)) 0).run Try.prog w = .ok (.pointer (some ⟨b, o + 0, none⟩)) w := fieldAt_run Try.runUnderlying33 rfl Try.sizeOf3 rfl rfl
theorem fld_33_1 : ∀ b o w, (Instr.fieldAt 33 (.pointer (some ⟨b, o, none⟩)) 1).run Try.prog w = .ok (.pointer (some ⟨b, o + 1, none⟩)) w := fieldAt_run Try.runUnderlying33 rfl Try.sizeOf3 rfl rfl
theorem fld_33_2 : ∀ b o w, (Instr.fieldAt 33 (.pointer (some ⟨b, o, none⟩)) 2).run Try.prog w = .ok (.pointer (some ⟨b, o + 2, none⟩)) w := fieldAt_run Try.runUnderlying33 rfl Try.sizeOf31 rfl rfl
theorem fld_33_3 : ∀ b o w, (Instr.fieldAt 33 (.pointer (some ⟨b, o, none⟩)) 3).run Try.prog w = .ok (.pointer (some ⟨b, o + 3, none⟩)) w := fieldAt_run Try.runUnderlying33 rfl Try.sizeOf31 rfl rfl
theorem fld_40_0 : ∀ b o w, (Instr.fieldAt 40 (.pointer (some ⟨b, o, none⟩)) 0).run Try.prog w = .ok (.pointer (some ⟨b, o + 0, none⟩)) w := fieldAt_run Try.runUnderlying40 rfl Try.sizeOf3 rfl rfl
theorem fld_40_1 : ∀ b o w, (Instr.fieldAt 40 (.pointer (some ⟨b, o, none⟩)) 1).run Try.prog w = .ok (.pointer (some ⟨b, o + 1, none⟩)) w := fieldAt_run Try.runUnderlying40 rfl Try.sizeOf3 rfl rfl
theorem fld_42_0 : ∀ b o w, (Instr.fieldAt 42 (.pointer (some ⟨b, o, none⟩)) 0).run Try.prog w = .ok (.pointer (some ⟨b, o + 0, none⟩)) w := fieldAt_run Try.runUnderlying42 rfl Try.sizeOf3 rfl rfl
theorem fld_42_1 : ∀ b o w, (Instr.fieldAt 42 (.pointer (some ⟨b, o, none⟩)) 1).run Try.prog w = .ok (.pointer (some ⟨b, o + 1, none⟩)) w := fieldAt_run Try.runUnderlying42 rfl Try.sizeOf3 rfl rfl
theorem fld_42_2 : ∀ b o w, (Instr.fieldAt 42 (.pointer (some ⟨b, o, none⟩)) 2).run Try.prog w = .ok (.pointer (some ⟨b, o + 2, none⟩)) w := fieldAt_run Try.runUnderlying42 rfl Try.sizeOf40 rfl rfl
theorem fld_44_0 : ∀ b o w, (Instr.fieldAt 44 (.pointer (some ⟨b, o, none⟩)) 0).run Try.prog w = .ok (.pointer (some ⟨b, o + 0, none⟩)) w := fieldAt_run Try.runUnderlying44 rfl Try.sizeOf3 rfl rfl
theorem fld_44_1 : ∀ b o w, (Instr.fieldAt 44 (.pointer (some ⟨b, o, none⟩)) 1).run Try.prog w = .ok (.pointer (some ⟨b, o + 1, none⟩)) w := fieldAt_run Try.runUnderlying44 rfl Try.sizeOf3 rfl rfl
theorem fld_44_2 : ∀ b o w, (Instr.fieldAt 44 (.pointer (some ⟨b, o, none⟩)) 2).run Try.prog w = .ok (.pointer (some ⟨b, o + 2, none⟩)) w := fieldAt_run Try.runUnderlying44 rfl Try.sizeOf3 rfl rfl
theorem fld_48_0 : ∀ b o w, (Instr.fieldAt 48 (.pointer (some ⟨b, o, none⟩)) 0).run Try.prog w = .ok (.pointer (some ⟨b, o + 0, none⟩)) w := fieldAt_run Try.runUnderlying48 rfl Try.sizeOf3 rfl rfl
theorem fld_48_1 : ∀ b o w, (Instr.fieldAt 48 (.pointer (some ⟨b, o, none⟩)) 1).run Try.prog w = .ok (.pointer (some ⟨b, o + 1, none⟩)) w := fieldAt_run Try.runUnderlying48 rfl Try.sizeOf3 rfl rfl
theorem fld_52_0 : ∀ b o w, (Instr.fieldAt 52 (.pointer (some ⟨b, o, none⟩)) 0).run Try.prog w = .ok (.pointer (some ⟨b, o + 0, none⟩)) w := fieldAt_run Try.runUnderlying52 rfl Try.sizeOf50 rfl rfl
theorem fld_52_1 : ∀ b o w, (Instr.fieldAt 52 (.pointer (some ⟨b, o, none⟩)) 1).run Try.prog w = .ok (.pointer (some ⟨b, o + 1, none⟩)) w := fieldAt_run Try.runUnderlying52 rfl Try.sizeOf31 rfl rfl
theorem fld_60_0 : ∀ b o w, (Instr.fieldAt 60 (.pointer (some ⟨b, o, none⟩)) 0).run Try.prog w = .ok (.pointer (some ⟨b, o + 0, none⟩)) w := fieldAt_run Try.runUnderlying60 rfl Try.sizeOf26 rfl rfl
theorem fld_60_1 : ∀ b o w, (Instr.fieldAt 60 (.pointer (some ⟨b, o, none⟩)) 1).run Try.prog w = .ok (.pointer (some ⟨b, o + 1, none⟩)) w := fieldAt_run Try.runUnderlying60 rfl Try.sizeOf26 rfl rfl
theorem fld_60_2 : ∀ b o w, (Instr.fieldAt 60 (.pointer (some ⟨b, o, none⟩)) 2).run Try.prog w = .ok (.pointer (some ⟨b, o + 2, none⟩)) w := fieldAt_run Try.runUnderlying60 rfl Try.sizeOf58 rfl rfl
theorem fld_60_3 : ∀ b o w, (Instr.fieldAt 60 (.pointer (some ⟨b, o, none⟩)) 3).run Try.prog w = .ok (.pointer (some ⟨b, o + 3, none⟩)) w := fieldAt_run Try.runUnderlying60 rfl Try.sizeOf3 rfl rfl
theorem fld_60_4 : ∀ b o w, (Instr.fieldAt 60 (.pointer (some ⟨b, o, none⟩)) 4).run Try.prog w = .ok (.pointer (some ⟨b, o + 4, none⟩)) w := fieldAt_run Try.runUnderlying60 rfl Try.sizeOf3 rfl rfl
theorem fld_60_5 : ∀ b o w, (Instr.fieldAt 60 (.pointer (some ⟨b, o, none⟩)) 5).run Try.prog w = .ok (.pointer (some ⟨b, o + 5, none⟩)) w := fieldAt_run Try.runUnderlying60 rfl Try.sizeOf3 rfl rfl
theorem fld_71_0 : ∀ b o w, (Instr.fieldAt 71 (.pointer (some ⟨b, o, none⟩)) 0).run Try.prog w = .ok (.pointer (some ⟨b, o + 0, none⟩)) w := fieldAt_run Try.runUnderlying71 rfl Try.sizeOf3 rfl rfl
theorem fld_71_1 : ∀ b o w, (Instr.fieldAt 71 (.pointer (some ⟨b, o, none⟩)) 1).run Try.prog w = .ok (.pointer (some ⟨b, o + 1, none⟩)) w := fieldAt_run Try.runUnderlying71 rfl Try.sizeOf3 rfl rfl
theorem fld_71_2 : ∀ b o w, (Instr.fieldAt 71 (.pointer (some ⟨b, o, none⟩)) 2).run Try.prog w = .ok (.pointer (some ⟨b, o + 2, none⟩)) w := fieldAt_run Try.runUnderlying71 rfl Try.sizeOf31 rfl rfl
theorem fld_71_3 : ∀ b o w, (Instr.fieldAt 71 (.pointer (some ⟨b, o, none⟩)) 3).run Try.prog w = .ok (.pointer (some ⟨b, o + 3, none⟩)) w := fieldAt_run Try.runUnderlying71 rfl Try.sizeOf31 rfl rfl
theorem fld_76_0 : ∀ b o w, (Instr.fieldAt 76 (.pointer (some ⟨b, o, none⟩)) 0).run Try.prog w = .ok (.pointer (some ⟨b, o + 0, none⟩)) w := fieldAt_run Try.runUnderlying76 rfl Try.sizeOf3 rfl rfl
theorem fld_76_1 : ∀ b o w, (Instr.fieldAt 76 (.pointer (some ⟨b, o, none⟩)) 1).run Try.prog w = .ok (.pointer (some ⟨b, o + 1, none⟩)) w := fieldAt_run Try.runUnderlying76 rfl Try.sizeOf74 rfl rfl
theorem fld_87_0 : ∀ b o w, (Instr.fieldAt 87 (.pointer (some ⟨b, o, none⟩)) 0).run Try.prog w = .ok (.pointer (some ⟨b, o + 0, none⟩)) w := fieldAt_run Try.runUnderlying87 rfl Try.sizeOf3 rfl rfl
theorem fld_87_1 : ∀ b o w, (Instr.fieldAt 87 (.pointer (some ⟨b, o, none⟩)) 1).run Try.prog w = .ok (.pointer (some ⟨b, o + 1, none⟩)) w := fieldAt_run Try.runUnderlying87 rfl Try.sizeOf31 rfl rfl
theorem fld_96_0 : ∀ b o w, (Instr.fieldAt 96 (.pointer (some ⟨b, o, none⟩)) 0).run Try.prog w = .ok (.pointer (some ⟨b, o + 0, none⟩)) w := fieldAt_run Try.runUnderlying96 rfl Try.sizeOf3 rfl rfl
theorem fld_96_1 : ∀ b o w, (Instr.fieldAt 96 (.pointer (some ⟨b, o, none⟩)) 1).run Try.prog w = .ok (.pointer (some ⟨b, o + 1, none⟩)) w := fieldAt_run Try.runUnderlying96 rfl Try.sizeOf3 rfl rfl
theorem fld_96_2 : ∀ b o w, (Instr.fieldAt 96 (.pointer (some ⟨b, o, none⟩)) 2).run Try.prog w = .ok (.pointer (some ⟨b, o + 2, none⟩)) w := fieldAt_run Try.runUnderlying96 rfl Try.sizeOf3 rfl rfl
theorem fld_96_3 : ∀ b o w, (Instr.fieldAt 96 (.pointer (some ⟨b, o, none⟩)) 3).run Try.prog w = .ok (.pointer (some ⟨b, o + 3, none⟩)) w := fieldAt_run Try.runUnderlying96 rfl Try.sizeOf3 rfl rfl
theorem fld_106_0 : ∀ b o w, (Instr.fieldAt 106 (.pointer (some ⟨b, o, none⟩)) 0).run Try.prog w = .ok (.pointer (some ⟨b, o + 0, none⟩)) w := fieldAt_run Try.runUnderlying106 rfl Try.sizeOf42 rfl rfl
theorem fld_106_1 : ∀ b o w, (Instr.fieldAt 106 (.pointer (some ⟨b, o, none⟩)) 1).run Try.prog w = .ok (.pointer (some ⟨b, o + 4, none⟩)) w := fieldAt_run Try.runUnderlying106 rfl Try.sizeOf28 rfl rfl
theorem fld_106_2 : ∀ b o w, (Instr.fieldAt 106 (.pointer (some ⟨b, o, none⟩)) 2).run Try.prog w = .ok (.pointer (some ⟨b, o + 9, none⟩)) w := fieldAt_run Try.runUnderlying106 rfl Try.sizeOf3 rfl rfl
theorem fld_106_3 : ∀ b o w, (Instr.fieldAt 106 (.pointer (some ⟨b, o, none⟩)) 3).run Try.prog w = .ok (.pointer (some ⟨b, o + 10, none⟩)) w := fieldAt_run Try.runUnderlying106 rfl Try.sizeOf3 rfl rfl
theorem fld_106_4 : ∀ b o w, (Instr.fieldAt 106 (.pointer (some ⟨b, o, none⟩)) 4).run Try.prog w = .ok (.pointer (some ⟨b, o + 11, none⟩)) w := fieldAt_run Try.runUnderlying106 rfl Try.sizeOf3 rfl rfl
theorem fld_106_5 : ∀ b o w, (Instr.fieldAt 106 (.pointer (some ⟨b, o, none⟩)) 5).run Try.prog w = .ok (.pointer (some ⟨b, o + 12, none⟩)) w := fieldAt_run Try.runUnderlying106 rfl Try.sizeOf3 rfl rfl
theorem fld_111_0 : ∀ b o w, (Instr.fieldAt 111 (.pointer (some ⟨b, o, none⟩)) 0).run Try.prog w = .ok (.pointer (some ⟨b, o + 0, none⟩)) w := fieldAt_run Try.runUnderlying111 rfl Try.sizeOf76 rfl rfl
theorem fld_111_1 : ∀ b o w, (Instr.fieldAt 111 (.pointer (some ⟨b, o, none⟩)) 1).run Try.prog w = .ok (.pointer (some ⟨b, o + 2, none⟩)) w := fieldAt_run Try.runUnderlying111 rfl Try.sizeOf31 rfl rfl
theorem fld_116_0 : ∀ b o w, (Instr.fieldAt 116 (.pointer (some ⟨b, o, none⟩)) 0).run Try.prog w = .ok (.pointer (some ⟨b, o + 0, none⟩)) w := fieldAt_run Try.runUnderlying116 rfl Try.sizeOf3 rfl rfl
theorem fld_116_1 : ∀ b o w, (Instr.fieldAt 116 (.pointer (some ⟨b, o, none⟩)) 1).run Try.prog w = .ok (.pointer (some ⟨b, o + 1, none⟩)) w := fieldAt_run Try.runUnderlying116 rfl Try.sizeOf3 rfl rfl
theorem fld_116_2 : ∀ b o w, (Instr.fieldAt 116 (.pointer (some ⟨b, o, none⟩)) 2).run Try.prog w = .ok (.pointer (some ⟨b, o + 2, none⟩)) w := fieldAt_run Try.runUnderlying116 rfl Try.sizeOf3 rfl rfl
theorem fld_116_3 : ∀ b o w, (Instr.fieldAt 116 (.pointer (some ⟨b, o, none⟩)) 3).run Try.prog w = .ok (.pointer (some ⟨b, o + 3, none⟩)) w := fieldAt_run Try.runUnderlying116 rfl Try.sizeOf4 rfl rfl
theorem fld_116_4 : ∀ b o w, (Instr.fieldAt 116 (.pointer (some ⟨b, o, none⟩)) 4).run Try.prog w = .ok (.pointer (some ⟨b, o + 4, none⟩)) w := fieldAt_run Try.runUnderlying116 rfl Try.sizeOf4 rfl rfl
theorem fld_116_5 : ∀ b o w, (Instr.fieldAt 116 (.pointer (some ⟨b, o, none⟩)) 5).run Try.prog w = .ok (.pointer (some ⟨b, o + 5, none⟩)) w := fieldAt_run Try.runUnderlying116 rfl Try.sizeOf3 rfl rfl
theorem fld_140_0 : ∀ b o w, (Instr.fieldAt 140 (.pointer (some ⟨b, o, none⟩)) 0).run Try.prog w = .ok (.pointer (some ⟨b, o + 0, none⟩)) w := fieldAt_run Try.runUnderlying140 rfl Try.sizeOf3 rfl rfl
theorem fld_140_1 : ∀ b o w, (Instr.fieldAt 140 (.pointer (some ⟨b, o, none⟩)) 1).run Try.prog w = .ok (.pointer (some ⟨b, o + 1, none⟩)) w := fieldAt_run Try.runUnderlying140 rfl Try.sizeOf3 rfl rfl
theorem fld_146_0 : ∀ b o w, (Instr.fieldAt 146 (.pointer (some ⟨b, o, none⟩)) 0).run Try.prog w = .ok (.pointer (some ⟨b, o + 0, none⟩)) w := fieldAt_run Try.runUnderlying146 rfl Try.sizeOf3 rfl rfl
theorem fld_146_1 : ∀ b o w, (Instr.fieldAt 146 (.pointer (some ⟨b, o, none⟩)) 1).run Try.prog w = .ok (.pointer (some ⟨b, o + 1, none⟩)) w := fieldAt_run Try.runUnderlying146 rfl Try.sizeOf3 rfl rfl
theorem fld_159_0 : ∀ b o w, (Instr.fieldAt 159 (.pointer (some ⟨b, o, none⟩)) 0).run Try.prog w = .ok (.pointer (some ⟨b, o + 0, none⟩)) w := fieldAt_run Try.runUnderlying159 rfl Try.sizeOf3 rfl rfl
theorem fld_159_1 : ∀ b o w, (Instr.fieldAt 159 (.pointer (some ⟨b, o, none⟩)) 1).run Try.prog w = .ok (.pointer (some ⟨b, o + 1, none⟩)) w := fieldAt_run Try.runUnderlying159 rfl Try.sizeOf140 rfl rfl
theorem fld_170_0 : ∀ b o w, (Instr.fieldAt 170 (.pointer (some ⟨b, o, none⟩)) 0).run Try.prog w = .ok (.pointer (some ⟨b, o + 0, none⟩)) w := fieldAt_run Try.runUnderlying170 rfl Try.sizeOf147 rfl rfl
theorem fld_170_1 : ∀ b o w, (Instr.fieldAt 170 (.pointer (some ⟨b, o, none⟩)) 1).run Try.prog w = .ok (.pointer (some ⟨b, o + 1, none⟩)) w := fieldAt_run Try.runUnderlying170 rfl Try.sizeOf168 rfl rfl
theorem fld_170_2 : ∀ b o w, (Instr.fieldAt 170 (.pointer (some ⟨b, o, none⟩)) 2).run Try.prog w = .ok (.pointer (some ⟨b, o + 2, none⟩)) w := fieldAt_run Try.runUnderlying170 rfl Try.sizeOf3 rfl rfl
theorem fld_172_0 : ∀ b o w, (Instr.fieldAt 172 (.pointer (some ⟨b, o, none⟩)) 0).run Try.prog w = .ok (.pointer (some ⟨b, o + 0, none⟩)) w := fieldAt_run Try.runUnderlying172 rfl Try.sizeOf146 rfl rfl
theorem fld_172_1 : ∀ b o w, (Instr.fieldAt 172 (.pointer (some ⟨b, o, none⟩)) 1).run Try.prog w = .ok (.pointer (some ⟨b, o + 2, none⟩)) w := fieldAt_run Try.runUnderlying172 rfl Try.sizeOf3 rfl rfl
theorem fld_176_0 : ∀ b o w, (Instr.fieldAt 176 (.pointer (some ⟨b, o, none⟩)) 0).run Try.prog w = .ok (.pointer (some ⟨b, o + 0, none⟩)) w := fieldAt_run Try.runUnderlying176 rfl Try.sizeOf161 rfl rfl
theorem fld_176_1 : ∀ b o w, (Instr.fieldAt 176 (.pointer (some ⟨b, o, none⟩)) 1).run Try.prog w = .ok (.pointer (some ⟨b, o + 1, none⟩)) w := fieldAt_run Try.runUnderlying176 rfl Try.sizeOf174 rfl rfl
theorem fld_176_2 : ∀ b o w, (Instr.fieldAt 176 (.pointer (some ⟨b, o, none⟩)) 2).run Try.prog w = .ok (.pointer (some ⟨b, o + 2, none⟩)) w := fieldAt_run Try.runUnderlying176 rfl Try.sizeOf3 rfl rfl
theorem fld_178_0 : ∀ b o w, (Instr.fieldAt 178 (.pointer (some ⟨b, o, none⟩)) 0).run Try.prog w = .ok (.pointer (some ⟨b, o + 0, none⟩)) w := fieldAt_run Try.runUnderlying178 rfl Try.sizeOf159 rfl rfl
theorem fld_178_1 : ∀ b o w, (Instr.fieldAt 178 (.pointer (some ⟨b, o, none⟩)) 1).run Try.prog w = .ok (.pointer (some ⟨b, o + 3, none⟩)) w := fieldAt_run Try.runUnderlying178 rfl Try.sizeOf3 rfl rfl
theorem fldr_24 {k off : Nat} (h : fldT24 k = some off) : ∀ b o w, (Instr.fieldAt 24 (.pointer (some ⟨b, o, none⟩)) k).run Try.prog w = .ok (.pointer (some ⟨b, o + off, none⟩)) w := by
  unfold fldT24 at h
  split at h <;> (try cases h)
  · exact fld_24_0
  · exact fld_24_1
theorem fldr_28 {k off : Nat} (h : fldT28 k = some off) : ∀ b o w, (Instr.fieldAt 28 (.pointer (some ⟨b, o, none⟩)) k).run Try.prog w = .ok (.pointer (some ⟨b, o + off, none⟩)) w := by
  unfold fldT28 at h
  split at h <;> (try cases h)
  · exact fld_28_0
  · exact fld_28_1
  · exact fld_28_2
  · exact fld_28_3
theorem fldr_33 {k off : Nat} (h : fldT33 k = some off) : ∀ b o w, (Instr.fieldAt 33 (.pointer (some ⟨b, o, none⟩)) k).run Try.prog w = .ok (.pointer (some ⟨b, o + off, none⟩)) w := by
  unfold fldT33 at h
  split at h <;> (try cases h)
  · exact fld_33_0
  · exact fld_33_1
  · exact fld_33_2
  · exact fld_33_3
theorem fldr_40 {k off : Nat} (h : fldT40 k = some off) : ∀ b o w, (Instr.fieldAt 40 (.pointer (some ⟨b, o, none⟩)) k).run Try.prog w = .ok (.pointer (some ⟨b, o + off, none⟩)) w := by
  unfold fldT40 at h
  split at h <;> (try cases h)
  · exact fld_40_0
  · exact fld_40_1
theorem fldr_42 {k off : Nat} (h : fldT42 k = some off) : ∀ b o w, (Instr.fieldAt 42 (.pointer (some ⟨b, o, none⟩)) k).run Try.prog w = .ok (.pointer (some ⟨b, o + off, none⟩)) w := by
  unfold fldT42 at h
  split at h <;> (try cases h)
  · exact fld_42_0
  · exact fld_42_1
  · exact fld_42_2
theorem fldr_44 {k off : Nat} (h : fldT44 k = some off) : ∀ b o w, (Instr.fieldAt 44 (.pointer (some ⟨b, o, none⟩)) k).run Try.prog w = .ok (.pointer (some ⟨b, o + off, none⟩)) w := by
  unfold fldT44 at h
  split at h <;> (try cases h)
  · exact fld_44_0
  · exact fld_44_1
  · exact fld_44_2
theorem fldr_48 {k off : Nat} (h : fldT48 k = some off) : ∀ b o w, (Instr.fieldAt 48 (.pointer (some ⟨b, o, none⟩)) k).run Try.prog w = .ok (.pointer (some ⟨b, o + off, none⟩)) w := by
  unfold fldT48 at h
  split at h <;> (try cases h)
  · exact fld_48_0
  · exact fld_48_1
theorem fldr_52 {k off : Nat} (h : fldT52 k = some off) : ∀ b o w, (Instr.fieldAt 52 (.pointer (some ⟨b, o, none⟩)) k).run Try.prog w = .ok (.pointer (some ⟨b, o + off, none⟩)) w := by
  unfold fldT52 at h
  split at h <;> (try cases h)
  · exact fld_52_0
  · exact fld_52_1
theorem fldr_60 {k off : Nat} (h : fldT60 k = some off) : ∀ b o w, (Instr.fieldAt 60 (.pointer (some ⟨b, o, none⟩)) k).run Try.prog w = .ok (.pointer (some ⟨b, o + off, none⟩)) w := by
  unfold fldT60 at h
  split at h <;> (try cases h)
  · exact fld_60_0
  · exact fld_60_1
  · exact fld_60_2
  · exact fld_60_3
  · exact fld_60_4
  · exact fld_60_5
theorem fldr_71 {k off : Nat} (h : fldT71 k = some off) : ∀ b o w, (Instr.fieldAt 71 (.pointer (some ⟨b, o, none⟩)) k).run Try.prog w = .ok (.pointer (some ⟨b, o + off, none⟩)) w := by
  unfold fldT71 at h
  split at h <;> (try cases h)
  · exact fld_71_0
  · exact fld_71_1
  · exact fld_71_2
  · exact fld_71_3
theorem fldr_76 {k off : Nat} (h : fldT76 k = some off) : ∀ b o w, (Instr.fieldAt 76 (.pointer (some ⟨b, o, none⟩)) k).run Try.prog w = .ok (.pointer (some ⟨b, o + off, none⟩)) w := by
  unfold fldT76 at h
  split at h <;> (try cases h)
  · exact fld_76_0
  · exact fld_76_1
theorem fldr_87 {k off : Nat} (h : fldT87 k = some off) : ∀ b o w, (Instr.fieldAt 87 (.pointer (some ⟨b, o, none⟩)) k).run Try.prog w = .ok (.pointer (some ⟨b, o + off, none⟩)) w := by
  unfold fldT87 at h
  split at h <;> (try cases h)
  · exact fld_87_0
  · exact fld_87_1
theorem fldr_96 {k off : Nat} (h : fldT96 k = some off) : ∀ b o w, (Instr.fieldAt 96 (.pointer (some ⟨b, o, none⟩)) k).run Try.prog w = .ok (.pointer (some ⟨b, o + off, none⟩)) w := by
  unfold fldT96 at h
  split at h <;> (try cases h)
  · exact fld_96_0
  · exact fld_96_1
  · exact fld_96_2
  · exact fld_96_3
theorem fldr_106 {k off : Nat} (h : fldT106 k = some off) : ∀ b o w, (Instr.fieldAt 106 (.pointer (some ⟨b, o, none⟩)) k).run Try.prog w = .ok (.pointer (some ⟨b, o + off, none⟩)) w := by
  unfold fldT106 at h
  split at h <;> (try cases h)
  · exact fld_106_0
  · exact fld_106_1
  · exact fld_106_2
  · exact fld_106_3
  · exact fld_106_4
  · exact fld_106_5
theorem fldr_111 {k off : Nat} (h : fldT111 k = some off) : ∀ b o w, (Instr.fieldAt 111 (.pointer (some ⟨b, o, none⟩)) k).run Try.prog w = .ok (.pointer (some ⟨b, o + off, none⟩)) w := by
  unfold fldT111 at h
  split at h <;> (try cases h)
  · exact fld_111_0
  · exact fld_111_1
theorem fldr_116 {k off : Nat} (h : fldT116 k = some off) : ∀ b o w, (Instr.fieldAt 116 (.pointer (some ⟨b, o, none⟩)) k).run Try.prog w = .ok (.pointer (some ⟨b, o + off, none⟩)) w := by
  unfold fldT116 at h
  split at h <;> (try cases h)
  · exact fld_116_0
  · exact fld_116_1
  · exact fld_116_2
  · exact fld_116_3
  · exact fld_116_4
  · exact fld_116_5
theorem fldr_140 {k off : Nat} (h : fldT140 k = some off) : ∀ b o w, (Instr.fieldAt 140 (.pointer (some ⟨b, o, none⟩)) k).run Try.prog w = .ok (.pointer (some ⟨b, o + off, none⟩)) w := by
  unfold fldT140 at h
  split at h <;> (try cases h)
  · exact fld_140_0
  · exact fld_140_1
theorem fldr_146 {k off : Nat} (h : fldT146 k = some off) : ∀ b o w, (Instr.fieldAt 146 (.pointer (some ⟨b, o, none⟩)) k).run Try.prog w = .ok (.pointer (some ⟨b, o + off, none⟩)) w := by
  unfold fldT146 at h
  split at h <;> (try cases h)
  · exact fld_146_0
  · exact fld_146_1
theorem fldr_159 {k off : Nat} (h : fldT159 k = some off) : ∀ b o w, (Instr.fieldAt 159 (.pointer (some ⟨b, o, none⟩)) k).run Try.prog w = .ok (.pointer (some ⟨b, o + off, none⟩)) w := by
  unfold fldT159 at h
  split at h <;> (try cases h)
  · exact fld_159_0
  · exact fld_159_1
theorem fldr_170 {k off : Nat} (h : fldT170 k = some off) : ∀ b o w, (Instr.fieldAt 170 (.pointer (some ⟨b, o, none⟩)) k).run Try.prog w = .ok (.pointer (some ⟨b, o + off, none⟩)) w := by
  unfold fldT170 at h
  split at h <;> (try cases h)
  · exact fld_170_0
  · exact fld_170_1
  · exact fld_170_2
theorem fldr_172 {k off : Nat} (h : fldT172 k = some off) : ∀ b o w, (Instr.fieldAt 172 (.pointer (some ⟨b, o, none⟩)) k).run Try.prog w = .ok (.pointer (some ⟨b, o + off, none⟩)) w := by
  unfold fldT172 at h
  split at h <;> (try cases h)
  · exact fld_172_0
  · exact fld_172_1
theorem fldr_176 {k off : Nat} (h : fldT176 k = some off) : ∀ b o w, (Instr.fieldAt 176 (.pointer (some ⟨b, o, none⟩)) k).run Try.prog w = .ok (.pointer (some ⟨b, o + off, none⟩)) w := by
  unfold fldT176 at h
  split at h <;> (try cases h)
  · exact fld_176_0
  · exact fld_176_1
  · exact fld_176_2
theorem fldr_178 {k off : Nat} (h : fldT178 k = some off) : ∀ b o w, (Instr.fieldAt 178 (.pointer (some ⟨b, o, none⟩)) k).run Try.prog w = .ok (.pointer (some ⟨b, o + off, none⟩)) w := by
  unfold fldT178 at h
  split at h <;> (try cases h)
  · exact fld_178_0
  · exact fld_178_1
set_option maxHeartbeats 2000000 in
theorem fld_run {s k off : Nat} (h : fldT s k = some off) : ∀ b o w, (Instr.fieldAt s (.pointer (some ⟨b, o, none⟩)) k).run Try.prog w = .ok (.pointer (some ⟨b, o + off, none⟩)) w := by
  unfold fldT at h
  split at h
  · exact fldr_24 h
  · exact fldr_28 h
  · exact fldr_33 h
  · exact fldr_40 h
  · exact fldr_42 h
  · exact fldr_44 h
  · exact fldr_48 h
  · exact fldr_52 h
  · exact fldr_60 h
  · exact fldr_71 h
  · exact fldr_76 h
  · exact fldr_87 h
  · exact fldr_96 h
  · exact fldr_106 h
  · exact fldr_111 h
  · exact fldr_116 h
  · exact fldr_140 h
  · exact fldr_146 h
  · exact fldr_159 h
  · exact fldr_170 h
  · exact fldr_172 h
  · exact fldr_176 h
  · exact fldr_178 h
  · cases h
theorem sl_22 : SlFact Try.prog 22 44 3 24 [.int .i64 0, .int .i64 0, .int .i64 0] := SlFact.mk' (z := .agg #[.int .i64 0, .int .i64 0, .int .i64 0]) Try.underlying22 (by kernel_rfl) rfl rfl (by decide)
theorem sl_25 : SlFact Try.prog 25 42 4 32 [.int .i64 0, .int .i64 0, .int .i64 0, .int .i64 0] := SlFact.mk' (z := .agg #[.int .i64 0, .int .i64 0, .int .i64 0, .int .i64 0]) Try.underlying25 (by kernel_rfl) rfl rfl (by decide)
theorem sl_26 : SlFact Try.prog 26 48 2 16 [.int .i64 0, .int .i64 0] := SlFact.mk' (z := .agg #[.int .i64 0, .int .i64 0]) Try.underlying26 (by kernel_rfl) rfl rfl (by decide)
theorem sl_31 : SlFact Try.prog 31 3 1 8 [.int .i64 0] := SlFact.mk' (z := .int .i64 0) Try.underlying31 (by kernel_rfl) rfl rfl (by decide)
theorem sl_50 : SlFact Try.prog 50 87 2 32 [.int .i64 0, .slice none 0 0] := SlFact.mk' (z := .agg #[.int .i64 0, .slice none 0 0]) Try.underlying50 (by kernel_rfl) rfl rfl (by decide)
theorem sl_58 : SlFact Try.prog 58 31 1 24 [.slice none 0 0] := SlFact.mk' (z := .slice none 0 0) Try.underlying58 (by kernel_rfl) rfl rfl (by decide)
theorem sl_74 : SlFact Try.prog 74 96 4 32 [.int .i64 0, .int .i64 0, .int .i64 0, .int .i64 0] := SlFact.mk' (z := .agg #[.int .i64 0, .int .i64 0, .int .i64 0, .int .i64 0]) Try.underlying74 (by kernel_rfl) rfl rfl (by decide)
theorem sl_112 : SlFact Try.prog 112 116 6 40 [.int .i64 0, .int .i64 0, .int .i64 0, .bool false, .bool false, .int .i64 0] := SlFact.mk' (z := .agg #[.int .i64 0, .int .i64 0, .int .i64 0, .bool false, .bool false, .int .i64 0]) Try.underlying112 (by kernel_rfl) rfl rfl (by decide)
theorem sl_134 : SlFact Try.prog 134 140 2 16 [.int .i64 0, .int .i64 0] := SlFact.mk' (z := .agg #[.int .i64 0, .int .i64 0]) Try.underlying134 (by kernel_rfl) rfl rfl (by decide)
theorem sl_135 : SlFact Try.prog 135 4 1 1 [.bool false] := SlFact.mk' (z := .bool false) Try.underlying135 (by kernel_rfl) rfl rfl (by decide)
theorem sl_168 : SlFact Try.prog 168 172 3 24 [.int .i64 0, .int .i64 0, .int .i64 0] := SlFact.mk' (z := .agg #[.int .i64 0, .int .i64 0, .int .i64 0]) Try.underlying168 (by kernel_rfl) rfl rfl (by decide)
theorem sl_174 : SlFact Try.prog 174 178 4 32 [.int .i64 0, .int .i64 0, .int .i64 0, .int .i64 0] := SlFact.mk' (z := .agg #[.int .i64 0, .int .i64 0, .int .i64 0, .int .i64 0]) Try.underlying174 (by kernel_rfl) rfl rfl (by decide)
def slT : Nat → Option (Nat × Nat × Nat × List Value)
  | 22 => some (44, 3, 24, [.int .i64 0, .int .i64 0, .int .i64 0])
  | 25 => some (42, 4, 32, [.int .i64 0, .int .i64 0, .int .i64 0, .int .i64 0])
  | 26 => some (48, 2, 16, [.int .i64 0, .int .i64 0])
  | 31 => some (3, 1, 8, [.int .i64 0])
  | 50 => some (87, 2, 32, [.int .i64 0, .slice none 0 0])
  | 58 => some (31, 1, 24, [.slice none 0 0])
  | 74 => some (96, 4, 32, [.int .i64 0, .int .i64 0, .int .i64 0, .int .i64 0])
  | 112 => some (116, 6, 40, [.int .i64 0, .int .i64 0, .int .i64 0, .bool false, .bool false, .int .i64 0])
  | 134 => some (140, 2, 16, [.int .i64 0, .int .i64 0])
  | 135 => some (4, 1, 1, [.bool false])
  | 168 => some (172, 3, 24, [.int .i64 0, .int .i64 0, .int .i64 0])
  | 174 => some (178, 4, 32, [.int .i64 0, .int .i64 0, .int .i64 0, .int .i64 0])
  | _ => none
theorem sl_run {t el sz bt : Nat} {zs : List Value} (h : slT t = some (el, sz, bt, zs)) : SlFact Try.prog t el sz bt zs := by
  unfold slT at h
  split at h <;> (try cases h)
  · exact sl_22
  · exact sl_25
  · exact sl_26
  · exact sl_31
  · exact sl_50
  · exact sl_58
  · exact sl_74
  · exact sl_112
  · exact sl_134
  · exact sl_135
  · exact sl_168
  · exact sl_174
set_option maxHeartbeats 1000000 in
theorem bld_24_0 {e : Env} {x0 : Operand} {n0 : Int} (h0 : ev e x0 = .int .i64 n0) : ∀ w, (Instr.build 24 #[(0, ev e x0)]).run Try.prog w = .ok (.agg #[.int .i64 n0, .slice none 0 0]) w := by
  intro w
  rw [h0]
  simp [Instr.build, go_sem]
set_option maxHeartbeats 1000000 in
theorem bld_24_0_1 {e : Env} {x0 x1 : Operand} {n0 : Int} {A1 : Option Addr} {l1 c1 : Nat} (h0 : ev e x0 = .int .i64 n0) (h1 : ev e x1 = .slice A1 l1 c1) : ∀ w, (Instr.build 24 #[(0, ev e x0), (1, ev e x1)]).run Try.prog w = .ok (.agg #[.int .i64 n0, .slice A1 l1 c1]) w := by
  intro w
  rw [h0, h1]
  simp [Instr.build, go_sem]
set_option maxHeartbeats 1000000 in
theorem bld_28_0_1_2 {e : Env} {x0 x1 x2 : Operand} {v0_0 v0_1 : Value} {A1 : Option Addr} {l1 c1 : Nat} {A2 : Option Addr} {l2 c2 : Nat} (h0 : ev e x0 = .agg #[v0_0, v0_1]) (h1 : ev e x1 = .slice A1 l1 c1) (h2 : ev e x2 = .slice A2 l2 c2) : ∀ w, (Instr.build 28 #[(0, ev e x0), (1, ev e x1), (2, ev e x2)]).run Try.prog w = .ok (.agg #[v0_0, v0_1, .slice A1 l1 c1, .slice A2 l2 c2, .int .i64 0]) w := by
  intro w
  rw [h0, h1, h2]
  simp [Instr.build, go_sem]
set_option maxHeartbeats 1000000 in
theorem bld_33_ {e : Env}   : ∀ w, (Instr.build 33 #[]).run Try.prog w = .ok (.agg #[.int .i64 0, .int .i64 0, .slice none 0 0, .slice none 0 0]) w := by
  intro w
  simp [Instr.build, go_sem]
set_option maxHeartbeats 1000000 in
theorem bld_33_0_1 {e : Env} {x0 x1 : Operand} {n0 : Int} {n1 : Int} (h0 : ev e x0 = .int .i64 n0) (h1 : ev e x1 = .int .i64 n1) : ∀ w, (Instr.build 33 #[(0, ev e x0), (1, ev e x1)]).run Try.prog w = .ok (.agg #[.int .i64 n0, .int .i64 n1, .slice none 0 0, .slice none 0 0]) w := by
  intro w
  rw [h0, h1]
  simp [Instr.build, go_sem]
set_option maxHeartbeats 1000000 in
theorem bld_33_0_1_2_3 {e : Env} {x0 x1 x2 x3 : Operand} {n0 : Int} {n1 : Int} {A2 : Option Addr} {l2 c2 : Nat} {A3 : Option Addr} {l3 c3 : Nat} (h0 : ev e x0 = .int .i64 n0) (h1 : ev e x1 = .int .i64 n1) (h2 : ev e x2 = .slice A2 l2 c2) (h3 : ev e x3 = .slice A3 l3 c3) : ∀ w, (Instr.build 33 #[(0, ev e x0), (1, ev e x1), (2, ev e x2), (3, ev e x3)]).run Try.prog w = .ok (.agg #[.int .i64 n0, .int .i64 n1, .slice A2 l2 c2, .slice A3 l3 c3]) w := by
  intro w
  rw [h0, h1, h2, h3]
  simp [Instr.build, go_sem]
set_option maxHeartbeats 1000000 in
theorem bld_33_1_0 {e : Env} {x0 x1 : Operand} {n0 : Int} {n1 : Int} (h0 : ev e x0 = .int .i64 n0) (h1 : ev e x1 = .int .i64 n1) : ∀ w, (Instr.build 33 #[(1, ev e x0), (0, ev e x1)]).run Try.prog w = .ok (.agg #[.int .i64 n1, .int .i64 n0, .slice none 0 0, .slice none 0 0]) w := by
  intro w
  rw [h0, h1]
  simp [Instr.build, go_sem]
set_option maxHeartbeats 1000000 in
theorem bld_40_1 {e : Env} {x0 : Operand} {n0 : Int} (h0 : ev e x0 = .int .i64 n0) : ∀ w, (Instr.build 40 #[(1, ev e x0)]).run Try.prog w = .ok (.agg #[.int .i64 0, .int .i64 n0]) w := by
  intro w
  rw [h0]
  simp [Instr.build, go_sem]
set_option maxHeartbeats 1000000 in
theorem bld_42_1_2 {e : Env} {x0 x1 : Operand} {n0 : Int} {v1_0 v1_1 : Value} (h0 : ev e x0 = .int .i64 n0) (h1 : ev e x1 = .agg #[v1_0, v1_1]) : ∀ w, (Instr.build 42 #[(1, ev e x0), (2, ev e x1)]).run Try.prog w = .ok (.agg #[.int .i64 0, .int .i64 n0, v1_0, v1_1]) w := by
  intro w
  rw [h0, h1]
  simp [Instr.build, go_sem]
set_option maxHeartbeats 1000000 in
theorem bld_44_0_1_2 {e : Env} {x0 x1 x2 : Operand} {n0 : Int} {n1 : Int} {n2 : Int} (h0 : ev e x0 = .int .i64 n0) (h1 : ev e x1 = .int .i64 n1) (h2 : ev e x2 = .int .i64 n2) : ∀ w, (Instr.build 44 #[(0, ev e x0), (1, ev e x1), (2, ev e x2)]).run Try.prog w = .ok (.agg #[.int .i64 n0, .int .i64 n1, .int .i64 n2]) w := by
  intro w
  rw [h0, h1, h2]
  simp [Instr.build, go_sem]
set_option maxHeartbeats 1000000 in
theorem bld_48_0_1 {e : Env} {x0 x1 : Operand} {n0 : Int} {n1 : Int} (h0 : ev e x0 = .int .i64 n0) (h1 : ev e x1 = .int .i64 n1) : ∀ w, (Instr.build 48 #[(0, ev e x0), (1, ev e x1)]).run Try.prog w = .ok (.agg #[.int .i64 n0, .int .i64 n1]) w := by
  intro w
  rw [h0, h1]
  simp [Instr.build, go_sem]
set_option maxHeartbeats 1000000 in
theorem bld_48_1 {e : Env} {x0 : Operand} {n0 : Int} (h0 : ev e x0 = .int .i64 n0) : ∀ w, (Instr.build 48 #[(1, ev e x0)]).run Try.prog w = .ok (.agg #[.int .i64 0, .int .i64 n0]) w := by
  intro w
  rw [h0]
  simp [Instr.build, go_sem]
set_option maxHeartbeats 1000000 in
theorem bld_60_ {e : Env}   : ∀ w, (Instr.build 60 #[]).run Try.prog w = .ok (.agg #[.slice none 0 0, .slice none 0 0, .slice none 0 0, .int .i64 0, .int .i64 0, .int .i64 0]) w := by
  intro w
  simp [Instr.build, go_sem]
set_option maxHeartbeats 1000000 in
theorem bld_71_ {e : Env}   : ∀ w, (Instr.build 71 #[]).run Try.prog w = .ok (.agg #[.int .i64 0, .int .i64 0, .slice none 0 0, .slice none 0 0]) w := by
  intro w
  simp [Instr.build, go_sem]
set_option maxHeartbeats 1000000 in
theorem bld_71_0_1_2_3 {e : Env} {x0 x1 x2 x3 : Operand} {n0 : Int} {n1 : Int} {A2 : Option Addr} {l2 c2 : Nat} {A3 : Option Addr} {l3 c3 : Nat} (h0 : ev e x0 = .int .i64 n0) (h1 : ev e x1 = .int .i64 n1) (h2 : ev e x2 = .slice A2 l2 c2) (h3 : ev e x3 = .slice A3 l3 c3) : ∀ w, (Instr.build 71 #[(0, ev e x0), (1, ev e x1), (2, ev e x2), (3, ev e x3)]).run Try.prog w = .ok (.agg #[.int .i64 n0, .int .i64 n1, .slice A2 l2 c2, .slice A3 l3 c3]) w := by
  intro w
  rw [h0, h1, h2, h3]
  simp [Instr.build, go_sem]
set_option maxHeartbeats 1000000 in
theorem bld_76_0 {e : Env} {x0 : Operand} {n0 : Int} (h0 : ev e x0 = .int .i64 n0) : ∀ w, (Instr.build 76 #[(0, ev e x0)]).run Try.prog w = .ok (.agg #[.int .i64 n0, .slice none 0 0]) w := by
  intro w
  rw [h0]
  simp [Instr.build, go_sem]
set_option maxHeartbeats 1000000 in
theorem bld_96_0_1_2 {e : Env} {x0 x1 x2 : Operand} {n0 : Int} {n1 : Int} {n2 : Int} (h0 : ev e x0 = .int .i64 n0) (h1 : ev e x1 = .int .i64 n1) (h2 : ev e x2 = .int .i64 n2) : ∀ w, (Instr.build 96 #[(0, ev e x0), (1, ev e x1), (2, ev e x2)]).run Try.prog w = .ok (.agg #[.int .i64 n0, .int .i64 n1, .int .i64 n2, .int .i64 0]) w := by
  intro w
  rw [h0, h1, h2]
  simp [Instr.build, go_sem]
set_option maxHeartbeats 1000000 in
theorem bld_96_0_1_2_3 {e : Env} {x0 x1 x2 x3 : Operand} {n0 : Int} {n1 : Int} {n2 : Int} {n3 : Int} (h0 : ev e x0 = .int .i64 n0) (h1 : ev e x1 = .int .i64 n1) (h2 : ev e x2 = .int .i64 n2) (h3 : ev e x3 = .int .i64 n3) : ∀ w, (Instr.build 96 #[(0, ev e x0), (1, ev e x1), (2, ev e x2), (3, ev e x3)]).run Try.prog w = .ok (.agg #[.int .i64 n0, .int .i64 n1, .int .i64 n2, .int .i64 n3]) w := by
  intro w
  rw [h0, h1, h2, h3]
  simp [Instr.build, go_sem]
set_option maxHeartbeats 1000000 in
theorem bld_111_0_1 {e : Env} {x0 x1 : Operand} {v0_0 v0_1 : Value} {A1 : Option Addr} {l1 c1 : Nat} (h0 : ev e x0 = .agg #[v0_0, v0_1]) (h1 : ev e x1 = .slice A1 l1 c1) : ∀ w, (Instr.build 111 #[(0, ev e x0), (1, ev e x1)]).run Try.prog w = .ok (.agg #[v0_0, v0_1, .slice A1 l1 c1]) w := by
  intro w
  rw [h0, h1]
  simp [Instr.build, go_sem]
set_option maxHeartbeats 1000000 in
theorem bld_116_0_1_2_3_4 {e : Env} {x0 x1 x2 x3 x4 : Operand} {n0 : Int} {n1 : Int} {n2 : Int} {b3 : Bool} {b4 : Bool} (h0 : ev e x0 = .int .i64 n0) (h1 : ev e x1 = .int .i64 n1) (h2 : ev e x2 = .int .i64 n2) (h3 : ev e x3 = .bool b3) (h4 : ev e x4 = .bool b4) : ∀ w, (Instr.build 116 #[(0, ev e x0), (1, ev e x1), (2, ev e x2), (3, ev e x3), (4, ev e x4)]).run Try.prog w = .ok (.agg #[.int .i64 n0, .int .i64 n1, .int .i64 n2, .bool b3, .bool b4, .int .i64 0]) w := by
  intro w
  rw [h0, h1, h2, h3, h4]
  simp [Instr.build, go_sem]
set_option maxHeartbeats 1000000 in
theorem bld_116_0_1_2_3_4_5 {e : Env} {x0 x1 x2 x3 x4 x5 : Operand} {n0 : Int} {n1 : Int} {n2 : Int} {b3 : Bool} {b4 : Bool} {n5 : Int} (h0 : ev e x0 = .int .i64 n0) (h1 : ev e x1 = .int .i64 n1) (h2 : ev e x2 = .int .i64 n2) (h3 : ev e x3 = .bool b3) (h4 : ev e x4 = .bool b4) (h5 : ev e x5 = .int .i64 n5) : ∀ w, (Instr.build 116 #[(0, ev e x0), (1, ev e x1), (2, ev e x2), (3, ev e x3), (4, ev e x4), (5, ev e x5)]).run Try.prog w = .ok (.agg #[.int .i64 n0, .int .i64 n1, .int .i64 n2, .bool b3, .bool b4, .int .i64 n5]) w := by
  intro w
  rw [h0, h1, h2, h3, h4, h5]
  simp [Instr.build, go_sem]
set_option maxHeartbeats 1000000 in
theorem bld_116_0_1_4 {e : Env} {x0 x1 x2 : Operand} {n0 : Int} {n1 : Int} {b2 : Bool} (h0 : ev e x0 = .int .i64 n0) (h1 : ev e x1 = .int .i64 n1) (h2 : ev e x2 = .bool b2) : ∀ w, (Instr.build 116 #[(0, ev e x0), (1, ev e x1), (4, ev e x2)]).run Try.prog w = .ok (.agg #[.int .i64 n0, .int .i64 n1, .int .i64 0, .bool false, .bool b2, .int .i64 0]) w := by
  intro w
  rw [h0, h1, h2]
  simp [Instr.build, go_sem]
set_option maxHeartbeats 1000000 in
theorem bld_140_0_1 {e : Env} {x0 x1 : Operand} {n0 : Int} {n1 : Int} (h0 : ev e x0 = .int .i64 n0) (h1 : ev e x1 = .int .i64 n1) : ∀ w, (Instr.build 140 #[(0, ev e x0), (1, ev e x1)]).run Try.prog w = .ok (.agg #[.int .i64 n0, .int .i64 n1]) w := by
  intro w
  rw [h0, h1]
  simp [Instr.build, go_sem]
set_option maxHeartbeats 1000000 in
theorem bld_146_0 {e : Env} {x0 : Operand} {n0 : Int} (h0 : ev e x0 = .int .i64 n0) : ∀ w, (Instr.build 146 #[(0, ev e x0)]).run Try.prog w = .ok (.agg #[.int .i64 n0, .int .i64 0]) w := by
  intro w
  rw [h0]
  simp [Instr.build, go_sem]
set_option maxHeartbeats 1000000 in
theorem bld_146_0_1 {e : Env} {x0 x1 : Operand} {n0 : Int} {n1 : Int} (h0 : ev e x0 = .int .i64 n0) (h1 : ev e x1 = .int .i64 n1) : ∀ w, (Instr.build 146 #[(0, ev e x0), (1, ev e x1)]).run Try.prog w = .ok (.agg #[.int .i64 n0, .int .i64 n1]) w := by
  intro w
  rw [h0, h1]
  simp [Instr.build, go_sem]
set_option maxHeartbeats 1000000 in
theorem bld_159_0 {e : Env} {x0 : Operand} {n0 : Int} (h0 : ev e x0 = .int .i64 n0) : ∀ w, (Instr.build 159 #[(0, ev e x0)]).run Try.prog w = .ok (.agg #[.int .i64 n0, .int .i64 0, .int .i64 0]) w := by
  intro w
  rw [h0]
  simp [Instr.build, go_sem]
set_option maxHeartbeats 1000000 in
theorem bld_159_0_1 {e : Env} {x0 x1 : Operand} {n0 : Int} {v1_0 v1_1 : Value} (h0 : ev e x0 = .int .i64 n0) (h1 : ev e x1 = .agg #[v1_0, v1_1]) : ∀ w, (Instr.build 159 #[(0, ev e x0), (1, ev e x1)]).run Try.prog w = .ok (.agg #[.int .i64 n0, v1_0, v1_1]) w := by
  intro w
  rw [h0, h1]
  simp [Instr.build, go_sem]
set_option maxHeartbeats 1000000 in
theorem bld_170_0 {e : Env} {x0 : Operand} {fn0 : Fn} {fa0 fb0 : Array Value} (h0 : ev e x0 = .func fn0 fa0 fb0) : ∀ w, (Instr.build 170 #[(0, ev e x0)]).run Try.prog w = .ok (.agg #[.func fn0 fa0 fb0, .slice none 0 0, .int .i64 0]) w := by
  intro w
  rw [h0]
  simp [Instr.build, go_sem]
set_option maxHeartbeats 1000000 in
theorem bld_172_0_1 {e : Env} {x0 x1 : Operand} {v0_0 v0_1 : Value} {n1 : Int} (h0 : ev e x0 = .agg #[v0_0, v0_1]) (h1 : ev e x1 = .int .i64 n1) : ∀ w, (Instr.build 172 #[(0, ev e x0), (1, ev e x1)]).run Try.prog w = .ok (.agg #[v0_0, v0_1, .int .i64 n1]) w := by
  intro w
  rw [h0, h1]
  simp [Instr.build, go_sem]
set_option maxHeartbeats 1000000 in
theorem bld_176_0 {e : Env} {x0 : Operand} {fn0 : Fn} {fa0 fb0 : Array Value} (h0 : ev e x0 = .func fn0 fa0 fb0) : ∀ w, (Instr.build 176 #[(0, ev e x0)]).run Try.prog w = .ok (.agg #[.func fn0 fa0 fb0, .slice none 0 0, .int .i64 0]) w := by
  intro w
  rw [h0]
  simp [Instr.build, go_sem]
set_option maxHeartbeats 1000000 in
theorem bld_178_0_1 {e : Env} {x0 x1 : Operand} {v0_0 v0_1 v0_2 : Value} {n1 : Int} (h0 : ev e x0 = .agg #[v0_0, v0_1, v0_2]) (h1 : ev e x1 = .int .i64 n1) : ∀ w, (Instr.build 178 #[(0, ev e x0), (1, ev e x1)]).run Try.prog w = .ok (.agg #[v0_0, v0_1, v0_2, .int .i64 n1]) w := by
  intro w
  rw [h0, h1]
  simp [Instr.build, go_sem]
set_option maxHeartbeats 1000000 in
theorem bsl_22_1_0 {e : Env} {x0 : Operand} {v0_0 v0_1 v0_2 : Value} (h0 : ev e x0 = .agg #[v0_0, v0_1, v0_2]) : ∀ w, (Instr.buildSlice 22 1 #[(0, ev e x0)]).run Try.prog w = .ok (.slice (some ⟨w.heap.size, 0, none⟩) 1 1) (w.alloc (.cells ([v0_0, v0_1, v0_2] : List Value).toArray 44)) := by
  intro w
  rw [h0]
  simp [Instr.buildSlice, go_sem]
set_option maxHeartbeats 1000000 in
theorem bsl_22_3_0_1_2 {e : Env} {x0 x1 x2 : Operand} {v0_0 v0_1 v0_2 : Value} {v1_0 v1_1 v1_2 : Value} {v2_0 v2_1 v2_2 : Value} (h0 : ev e x0 = .agg #[v0_0, v0_1, v0_2]) (h1 : ev e x1 = .agg #[v1_0, v1_1, v1_2]) (h2 : ev e x2 = .agg #[v2_0, v2_1, v2_2]) : ∀ w, (Instr.buildSlice 22 3 #[(0, ev e x0), (1, ev e x1), (2, ev e x2)]).run Try.prog w = .ok (.slice (some ⟨w.heap.size, 0, none⟩) 3 3) (w.alloc (.cells ([v0_0, v0_1, v0_2, v1_0, v1_1, v1_2, v2_0, v2_1, v2_2] : List Value).toArray 44)) := by
  intro w
  rw [h0, h1, h2]
  simp [Instr.buildSlice, go_sem]
set_option maxHeartbeats 1000000 in
theorem bsl_25_1_0 {e : Env} {x0 : Operand} {v0_0 v0_1 v0_2 v0_3 : Value} (h0 : ev e x0 = .agg #[v0_0, v0_1, v0_2, v0_3]) : ∀ w, (Instr.buildSlice 25 1 #[(0, ev e x0)]).run Try.prog w = .ok (.slice (some ⟨w.heap.size, 0, none⟩) 1 1) (w.alloc (.cells ([v0_0, v0_1, v0_2, v0_3] : List Value).toArray 42)) := by
  intro w
  rw [h0]
  simp [Instr.buildSlice, go_sem]
set_option maxHeartbeats 1000000 in
theorem bsl_26_0_ {e : Env}   : ∀ w, (Instr.buildSlice 26 0 #[]).run Try.prog w = .ok (.slice (some ⟨w.heap.size, 0, none⟩) 0 0) (w.alloc (.cells ([] : List Value).toArray 48)) := by
  intro w
  simp [Instr.buildSlice, go_sem]
set_option maxHeartbeats 1000000 in
theorem bsl_26_1_0 {e : Env} {x0 : Operand} {v0_0 v0_1 : Value} (h0 : ev e x0 = .agg #[v0_0, v0_1]) : ∀ w, (Instr.buildSlice 26 1 #[(0, ev e x0)]).run Try.prog w = .ok (.slice (some ⟨w.heap.size, 0, none⟩) 1 1) (w.alloc (.cells ([v0_0, v0_1] : List Value).toArray 48)) := by
  intro w
  rw [h0]
  simp [Instr.buildSlice, go_sem]
set_option maxHeartbeats 1000000 in
theorem bsl_26_2_0_1 {e : Env} {x0 x1 : Operand} {v0_0 v0_1 : Value} {v1_0 v1_1 : Value} (h0 : ev e x0 = .agg #[v0_0, v0_1]) (h1 : ev e x1 = .agg #[v1_0, v1_1]) : ∀ w, (Instr.buildSlice 26 2 #[(0, ev e x0), (1, ev e x1)]).run Try.prog w = .ok (.slice (some ⟨w.heap.size, 0, none⟩) 2 2) (w.alloc (.cells ([v0_0, v0_1, v1_0, v1_1] : List Value).toArray 48)) := by
  intro w
  rw [h0, h1]
  simp [Instr.buildSlice, go_sem]
set_option maxHeartbeats 1000000 in
theorem bsl_26_3_0_1_2 {e : Env} {x0 x1 x2 : Operand} {v0_0 v0_1 : Value} {v1_0 v1_1 : Value} {v2_0 v2_1 : Value} (h0 : ev e x0 = .agg #[v0_0, v0_1]) (h1 : ev e x1 = .agg #[v1_0, v1_1]) (h2 : ev e x2 = .agg #[v2_0, v2_1]) : ∀ w, (Instr.buildSlice 26 3 #[(0, ev e x0), (1, ev e x1), (2, ev e x2)]).run Try.prog w = .ok (.slice (some ⟨w.heap.size, 0, none⟩) 3 3) (w.alloc (.cells ([v0_0, v0_1, v1_0, v1_1, v2_0, v2_1] : List Value).toArray 48)) := by
  intro w
  rw [h0, h1, h2]
  simp [Instr.buildSlice, go_sem]
set_option maxHeartbeats 1000000 in
theorem bsl_31_1_0 {e : Env} {x0 : Operand} {n0 : Int} (h0 : ev e x0 = .int .i64 n0) : ∀ w, (Instr.buildSlice 31 1 #[(0, ev e x0)]).run Try.prog w = .ok (.slice (some ⟨w.heap.size, 0, none⟩) 1 1) (w.alloc (.cells ([.int .i64 n0] : List Value).toArray 3)) := by
  intro w
  rw [h0]
  simp [Instr.buildSlice, go_sem]
set_option maxHeartbeats 1000000 in
theorem bsl_31_2_0_1 {e : Env} {x0 x1 : Operand} {n0 : Int} {n1 : Int} (h0 : ev e x0 = .int .i64 n0) (h1 : ev e x1 = .int .i64 n1) : ∀ w, (Instr.buildSlice 31 2 #[(0, ev e x0), (1, ev e x1)]).run Try.prog w = .ok (.slice (some ⟨w.heap.size, 0, none⟩) 2 2) (w.alloc (.cells ([.int .i64 n0, .int .i64 n1] : List Value).toArray 3)) := by
  intro w
  rw [h0, h1]
  simp [Instr.buildSlice, go_sem]
set_option maxHeartbeats 1000000 in
theorem bsl_58_1_0 {e : Env} {x0 : Operand} {A0 : Option Addr} {l0 c0 : Nat} (h0 : ev e x0 = .slice A0 l0 c0) : ∀ w, (Instr.buildSlice 58 1 #[(0, ev e x0)]).run Try.prog w = .ok (.slice (some ⟨w.heap.size, 0, none⟩) 1 1) (w.alloc (.cells ([.slice A0 l0 c0] : List Value).toArray 31)) := by
  intro w
  rw [h0]
  simp [Instr.buildSlice, go_sem]
set_option maxHeartbeats 1000000 in
theorem bsl_74_1_0 {e : Env} {x0 : Operand} {v0_0 v0_1 v0_2 v0_3 : Value} (h0 : ev e x0 = .agg #[v0_0, v0_1, v0_2, v0_3]) : ∀ w, (Instr.buildSlice 74 1 #[(0, ev e x0)]).run Try.prog w = .ok (.slice (some ⟨w.heap.size, 0, none⟩) 1 1) (w.alloc (.cells ([v0_0, v0_1, v0_2, v0_3] : List Value).toArray 96)) := by
  intro w
  rw [h0]
  simp [Instr.buildSlice, go_sem]
set_option maxHeartbeats 1000000 in
theorem bsl_168_1_0 {e : Env} {x0 : Operand} {v0_0 v0_1 v0_2 : Value} (h0 : ev e x0 = .agg #[v0_0, v0_1, v0_2]) : ∀ w, (Instr.buildSlice 168 1 #[(0, ev e x0)]).run Try.prog w = .ok (.slice (some ⟨w.heap.size, 0, none⟩) 1 1) (w.alloc (.cells ([v0_0, v0_1, v0_2] : List Value).toArray 172)) := by
  intro w
  rw [h0]
  simp [Instr.buildSlice, go_sem]
set_option maxHeartbeats 1000000 in
theorem bsl_174_1_0 {e : Env} {x0 : Operand} {v0_0 v0_1 v0_2 v0_3 : Value} (h0 : ev e x0 = .agg #[v0_0, v0_1, v0_2, v0_3]) : ∀ w, (Instr.buildSlice 174 1 #[(0, ev e x0)]).run Try.prog w = .ok (.slice (some ⟨w.heap.size, 0, none⟩) 1 1) (w.alloc (.cells ([v0_0, v0_1, v0_2, v0_3] : List Value).toArray 178)) := by
  intro w
  rw [h0]
  simp [Instr.buildSlice, go_sem]
def funT : Nat → Bool
  | 3 => true
  | 4 => true
  | 5 => true
  | 7 => true
  | 8 => true
  | 9 => true
  | 10 => true
  | 11 => true
  | 12 => true
  | 13 => true
  | 14 => true
  | 15 => true
  | 16 => true
  | 17 => true
  | 18 => true
  | 19 => true
  | 20 => true
  | 21 => true
  | 22 => true
  | 23 => true
  | 24 => true
  | 25 => true
  | 26 => true
  | 27 => true
  | 28 => true
  | 29 => true
  | 30 => true
  | 31 => true
  | 32 => true
  | 33 => true
  | 34 => true
  | 35 => true
  | 36 => true
  | 39 => true
  | 40 => true
  | 41 => true
  | 42 => true
  | 43 => true
  | 44 => true
  | 45 => true
  | 46 => true
  | 47 => true
  | 48 => true
  | 49 => true
  | 50 => true
  | 52 => true
  | 53 => true
  | 54 => true
  | 55 => true
  | 56 => true
  | 57 => true
  | 58 => true
  | 59 => true
  | 60 => true
  | 61 => true
  | 62 => true
  | 63 => true
  | 64 => true
  | 65 => true
  | 66 => true
  | 67 => true
  | 71 => true
  | 72 => true
  | 73 => true
  | 74 => true
  | 75 => true
  | 76 => true
  | 77 => true
  | 78 => true
  | 79 => true
  | 80 => true
  | 81 => true
  | 82 => true
  | 83 => true
  | 84 => true
  | 85 => true
  | 86 => true
  | 87 => true
  | 88 => true
  | 89 => true
  | 90 => true
  | 91 => true
  | 92 => true
  | 93 => true
  | 94 => true
  | 95 => true
  | 96 => true
  | 97 => true
  | 98 => true
  | 99 => true
  | 100 => true
  | 101 => true
  | 102 => true
  | 103 => true
  | 104 => true
  | 105 => true
  | _ => false
set_option maxHeartbeats 2000000 in
theorem fun_run {f : Nat} (h : funT f = true) : ∀ (args : Array Value) (w : World), (callFunc f args).run Try.prog w = .ok (.enter f args) w := by
  unfold funT at h
  split at h <;> (try cases h)
  · exact Try.call3
  · exact Try.call4
  · exact Try.call5
  · exact Try.call7
  · exact Try.call8
  · exact Try.call9
  · exact Try.call10
  · exact Try.call11
  · exact Try.call12
  · exact Try.call13
  · exact Try.call14
  · exact Try.call15
  · exact Try.call16
  · exact Try.call17
  · exact Try.call18
  · exact Try.call19
  · exact Try.call20
  · exact Try.call21
  · exact Try.call22
  · exact Try.call23
  · exact Try.call24
  · exact Try.call25
  · exact Try.call26
  · exact Try.call27
  · exact Try.call28
  · exact Try.call29
  · exact Try.call30
  · exact Try.call31
  · exact Try.call32
  · exact Try.call33
  · exact Try.call34
  · exact Try.call35
  · exact Try.call36
  · exact Try.call39
  · exact Try.call40
  · exact Try.call41
  · exact Try.call42
  · exact Try.call43
  · exact Try.call44
  · exact Try.call45
  · exact Try.call46
  · exact Try.call47
  · exact Try.call48
  · exact Try.call49
  · exact Try.call50
  · exact Try.call52
  · exact Try.call53
  · exact Try.call54
  · exact Try.call55
  · exact Try.call56
  · exact Try.call57
  · exact Try.call58
  · exact Try.call59
  · exact Try.call60
  · exact Try.call61
  · exact Try.call62
  · exact Try.call63
  · exact Try.call64
  · exact Try.call65
  · exact Try.call66
  · exact Try.call67
  · exact Try.call71
  · exact Try.call72
  · exact Try.call73
  · exact Try.call74
  · exact Try.call75
  · exact Try.call76
  · exact Try.call77
  · exact Try.call78
  · exact Try.call79
  · exact Try.call80
  · exact Try.call81
  · exact Try.call82
  · exact Try.call83
  · exact Try.call84
  · exact Try.call85
  · exact Try.call86
  · exact Try.call87
  · exact Try.call88
  · exact Try.call89
  · exact Try.call90
  · exact Try.call91
  · exact Try.call92
  · exact Try.call93
  · exact Try.call94
  · exact Try.call95
  · exact Try.call96
  · exact Try.call97
  · exact Try.call98
  · exact Try.call99
  · exact Try.call100
  · exact Try.call101
  · exact Try.call102
  · exact Try.call103
  · exact Try.call104
  · exact Try.call105
theorem mixed : Try.prog.follows .mixedOrders = true := by kernel_rfl
end Go.Proofs.Ytgjfjbphngamgaa

/-
 Regions whose order is open and that make memory in more than one place: quiet operations are taken first, over the others it is branched.
-/
set_option linter.all false
namespace Go.W
open Go.RowKit
structure OPH (P : Program) (N : Nat) (ops : Array Oper) (K : Env → World → Prop) (w0 : World) (S : List Nat) (L : List Blk) (fuel : Nat) (listed : Array Bool) (e : Env) (w : World) : Prop where
 run : ∀ a : Act, envOf a = e → a.tmps.size = N → a.defers = [] → wpAnyH P .any ops (post N K NoX NoR) (fun w' => SH w0 S w' L) fuel listed a w
section
variable {P : Program} {N : Nat} {ops : Array Oper} {K : Env → World → Prop} {Kn : Env → World → Prop} {Kx : Nat → Env → World → Prop} {Kr : Env → World → Prop} {e : Env} {w w0 : World} {S : List Nat} {L : List Blk} {fuel : Nat} {listed : Array Bool}
theorem WP.rheld {id : Nat} (hm : P.follows .mixedOrders = true) (H : SH w0 S w L) (h : ∀ w', Below w.heap.size w w' → SH w0 S w' L → OPH P N ops Kn w0 S L ops.size (Array.replicate ops.size false) e w') : WP P N (.region id ops true) Kn Kx Kr e w :=
 ⟨fun a h1 h2 h3 => Code.wp_mono post_up (wp_region_held (S := fun w' => SH w0 S w' L) hm ((h { w with drawn := w.drawn + 1 } ⟨rfl, rfl, rfl, Nat.le_refl _, fun _ _ => rfl⟩ H.drew).run a h1 h2 h3))⟩
theorem WP.rheldC {id : Nat} (M : List Nat) (I : Env → World → Prop) (hm : P.follows .mixedOrders = true) (H : SH w0 S w L)
  (h : ∀ w', Below w.heap.size w w' → SH w0 S w' L → OPH P N ops (fun e' w' => Agree M e' e ∧ I e' w') w0 S L ops.size (Array.replicate ops.size false) e w') (hk : ∀ u w', I u w' → Kn (W.mix M u e) w') : WP P N (.region id ops true) Kn Kx Kr e w :=
 WP.mono (WP.rheld (Kn := fun e' w' => Agree M e' e ∧ I e' w') (Kx := Kx) (Kr := Kr) hm H h) (fun e' w' hh => by rw [hh.1.eq]; exact hk e' w' hh.2) (fun _ _ _ h => h) (fun _ _ h => h)
theorem OPH.take (i : Nat) {oi : Oper} {d : Nat} {v : Value} {f : Nat} (hi : ops[i]? = some oi) (hg : oi.guard = none) (hd : oi.dst = some d) (hN : Nat.blt d N = true) (hs : Region.noSelect ops = true) (hf : Region.free .any ops listed i = true)
  (hr : (Region.ready .any ops listed).contains i = true) (hfu : fuel = f + 1) (H : SH w0 S w L) (hE : ∀ w', SH w0 S w' L → Ev P e w' oi.type oi.op v)
  (h : OPH P N ops K w0 S L f (listed.setIfInBounds i true) (upd e d v) w) : OPH P N ops K w0 S L fuel listed e w :=
 ⟨fun a h1 h2 h3 => by
  subst hfu
  have hn := h.run (a.put (some d) v) (by rw [envOf_put v h2 hN, h1]) (by rw [size_put]; exact h2) (by rw [defers_put]; exact h3)
  refine wpAnyH_take hi hs hf hr (fun c a w hh => by simp only [post] at hh) (v := v) (.inl ⟨wanted_none hg _, fun w' hw' => ?_⟩) H (by rw [hd]; exact hn)
  have := (hE w' hw').run w' (Below.refl _ _) oi rfl rfl
  rw [eval_eq, h1]; exact this⟩
theorem OPH.all (rs : List Nat) {f : Nat} (hr : Region.ready .any ops listed = rs) (hne : rs ≠ []) (hfu : fuel = f + 1)
  (h : ∀ i ∈ rs, ∃ o, ops[i]? = some o ∧ OPS P N .plain ops (fun e' w' => SH w0 S w' L ∧ OPH P N ops K w0 S L f (listed.setIfInBounds i true) e' w') [o] e w) : OPH P N ops K w0 S L fuel listed e w :=
 ⟨fun a h1 h2 h3 => by
  subst hfu
  refine wpAnyH_all hr hne fun i hi => ?_
  obtain ⟨o, ho, hO⟩ := h i hi
  have hl := hO.run a h1 h2 h3
  simp only at hl
  unfold wpList at hl
  unfold wpOp
  simp only [ho]
  split
  ·rename_i hw
   rw [if_pos hw] at hl
   rcases hl with hl | ⟨_, _, _, hl⟩
   ·refine .inl ?_
    unfold Oper.wp at hl ⊢
    generalize (execOp a.eval o).run P w = r at hl ⊢
    have key : ∀ a' w', wpList P ops (post N (fun e' w' => SH w0 S w' L ∧ OPH P N ops K w0 S L f (listed.setIfInBounds i true) e' w') NoX NoR) [] a' w' → SH w0 S w' L ∧ wpAnyH P .any ops (post N K NoX NoR) (fun w' => SH w0 S w' L) f (listed.setIfInBounds i true) a' w' := by
     intro a' w' hh
     have hh : a'.tmps.size = N ∧ a'.defers = [] ∧ _ := hh
     exact ⟨hh.2.2.1, hh.2.2.2.run a' rfl hh.1 hh.2.1⟩
    cases r with
    | ok n w' =>
     cases n <;> simp only [Oper.upon] at hl ⊢
     case value u => exact key _ _ hl
     case skip => exact key _ _ hl
     case defer d => exact key _ _ hl
     case enter g args =>
      refine Calls.mono hl ?_
      intro e' w'' he
      cases e' with
      | returned u => exact key _ _ he
      | panicked c => simp only [post] at he
      | outgrown => obtain ⟨_, _, he⟩ := he; simp only [post] at he
     case row row args => exact Rows.mono hl fun u w'' he => key _ _ he
    | halt x w' =>
     cases x <;> simp only [Oper.upon] at hl ⊢
     case panic u => simp only [post] at hl
   ·simp only [post] at hl
  ·rename_i hw
   rw [if_neg hw] at hl
   have hl : (a.put o.dst undef).tmps.size = N ∧ (a.put o.dst undef).defers = [] ∧ _ := hl
   exact ⟨hl.2.2.1, hl.2.2.2.run _ rfl hl.1 hl.2.1⟩⟩
theorem OPH.done (hr : Region.ready .any ops listed = []) (h : K e w) : OPH P N ops K w0 S L fuel listed e w := ⟨fun _ h1 h2 h3 => wpAnyH_done hr ⟨h2, h3, h1 ▸ h⟩ fuel⟩
end
end Go.W

/-
 Words for what arguments read as: lists of one-cell elements, lists of elements of several cells.
-/
set_option linter.all false
namespace Go.W
open Go.RowKit
abbrev I (n : Int) : Value := .int .i64 n
abbrev Bo (b : Bool) : Value := .bool b
/-- the slice of address A holds the list l, an element a cell -/
def OnesAt {α : Type} (enc : α → Value) (w : World) (A : Option Addr) (l : List α) : Prop := ∀ k (hk : k < l.length), ∃ b o, A = some ⟨b, o, none⟩ ∧ w.cell? ⟨b, o + k, none⟩ = some (enc (l[k]'hk))
theorem OnesAt.below {α : Type} {enc : α → Value} {w w' : World} {A : Option Addr} {l : List α} (h : OnesAt enc w A l) (hb : Below w.heap.size w w') : OnesAt enc w' A l := fun k hk => by
 obtain ⟨b, o, h1, h2⟩ := h k hk
 exact ⟨b, o, h1, cell_below hb h2⟩
theorem OnesAt.sh {α : Type} {enc : α → Value} {w0 w : World} {L : List Blk} {A : Option Addr} {l : List α} (h : OnesAt enc w0 A l) (H : SH w0 [] w L) : OnesAt enc w A l := fun k hk => by
 obtain ⟨b, o, h1, h2⟩ := h k hk
 exact ⟨b, o, h1, H.ld0 h2⟩
theorem OnesAt.nil {α : Type} {enc : α → Value} {w : World} {A : Option Addr} : OnesAt enc w A [] := fun k hk => absurd hk (by simp)
/-- an own block that begins with the list -/
theorem OnesAt.own {α : Type} {enc : α → Value} {w0 w : World} {S : List Nat} {L : List Blk} (H : SH w0 S w L) (i : Nat) {b : Blk} (hi : L[i]? = some b) {l : List α} {post : List Value} (hc : b.cs = l.map enc ++ post) :
  OnesAt enc w (some ⟨b.g, 0, none⟩) l := fun k hk => ⟨b.g, 0, rfl, by
 have h1 : b.cs[k]? = some (enc (l[k]'hk)) := by
  rw [hc, List.getElem?_append_left (by simpa using hk), List.getElem?_map, List.getElem?_eq_getElem hk]; rfl
 rw [Nat.zero_add]
 exact H.ldL i hi k h1⟩
abbrev IntsAt := OnesAt I
abbrev BoolsAt := OnesAt Bo
/-- the slice of address A holds the list l, an element sz cells -/
def RowsAt {α : Type} (sz : Nat) (enc : α → List Value) (w : World) (A : Option Addr) (l : List α) : Prop := ∀ k (hk : k < l.length), ∃ b o, A = some ⟨b, o, none⟩ ∧ cellsAt w b (o + k * sz) (enc (l[k]'hk))
theorem RowsAt.below {α : Type} {sz : Nat} {enc : α → List Value} {w w' : World} {A : Option Addr} {l : List α} (h : RowsAt sz enc w A l) (hb : Below w.heap.size w w') : RowsAt sz enc w' A l := fun k hk => by
 obtain ⟨b, o, h1, h2⟩ := h k hk
 exact ⟨b, o, h1, cellsAt_below hb h2⟩
theorem cellsAt_sh {w0 w : World} {L : List Blk} (H : SH w0 [] w L) {b : Nat} : ∀ {vs : List Value} {o : Nat}, cellsAt w0 b o vs → cellsAt w b o vs
 | [], _, _ => trivial
 | _ :: _, _, h => ⟨H.ld0 h.1, cellsAt_sh H h.2⟩
theorem RowsAt.sh {α : Type} {sz : Nat} {enc : α → List Value} {w0 w : World} {L : List Blk} {A : Option Addr} {l : List α} (h : RowsAt sz enc w0 A l) (H : SH w0 [] w L) : RowsAt sz enc w A l := fun k hk => by
 obtain ⟨b, o, h1, h2⟩ := h k hk
 exact ⟨b, o, h1, cellsAt_sh H h2⟩
theorem RowsAt.nil {α : Type} {sz : Nat} {enc : α → List Value} {w : World} {A : Option Addr} : RowsAt sz enc w A [] := fun k hk => absurd hk (by simp)
theorem SH.ldS {w0 w : World} {S : List Nat} {L : List Blk} (h : SH w0 S w L) {a : Addr} {v : Value} (hc : w0.cell? a = some v) (hS : a.block ∉ S) : w.cell? a = some v :=
 (World.cell?_of_block (w := w0) (h.low a.block (cell_lt hc) hS)).trans hc
/-- the address of a slice lies in none of these blocks -/
def Off (A : Option Addr) (S : List Nat) : Prop := ∀ b o, A = some ⟨b, o, none⟩ → b ∉ S
theorem Off.nil {A : Option Addr} : Off A [] := fun _ _ _ => by simp
theorem OnesAt.shS {α : Type} {enc : α → Value} {w0 w : World} {S : List Nat} {L : List Blk} {A : Option Addr} {l : List α} (h : OnesAt enc w0 A l) (hS : Off A S) (H : SH w0 S w L) : OnesAt enc w A l := fun k hk => by
 obtain ⟨b, o, h1, h2⟩ := h k hk
 exact ⟨b, o, h1, H.ldS h2 (hS b o h1)⟩
theorem cellsAt_shS {w0 w : World} {S : List Nat} {L : List Blk} (H : SH w0 S w L) {b : Nat} (hS : b ∉ S) : ∀ {vs : List Value} {o : Nat}, cellsAt w0 b o vs → cellsAt w b o vs
 | [], _, _ => trivial
 | _ :: _, _, h => ⟨H.ldS h.1 hS, cellsAt_shS H hS h.2⟩
theorem RowsAt.shS {α : Type} {sz : Nat} {enc : α → List Value} {w0 w : World} {S : List Nat} {L : List Blk} {A : Option Addr} {l : List α} (h : RowsAt sz enc w0 A l) (hS : Off A S) (H : SH w0 S w L) : RowsAt sz enc w A l := fun k hk => by
 obtain ⟨b, o, h1, h2⟩ := h k hk
 exact ⟨b, o, h1, cellsAt_shS H (hS b o h1) h2⟩
/-- the blocks of a list, as a callee that may write them gets them -/
theorem SH.restart {w0 w : World} {S : List Nat} {L Lv : List Blk} (H : SH w0 S w L) (hs : Lv.Sublist L) : SH w (Lv.map (·.g)) w Lv :=
 ⟨rfl, rfl, rfl, Nat.le_refl _, fun _ _ _ => rfl, fun b hb => H.own b (hs.subset hb), fun b hb => .inr (List.mem_map_of_mem hb), (hs.map _).nodup H.nodup⟩
/-- behind a call that may have written the blocks Lv -/
theorem SH.call {w0 w w' : World} {S : List Nat} {L1 Lv Lv' : List Blk} (H : SH w0 S w (L1 ++ Lv)) (Hc : SH w (Lv.map (·.g)) w' Lv') : SH w0 S w' (L1 ++ Lv') where
 os := Hc.os.trans H.os
 tape := Hc.tape.trans H.tape
 output := Hc.output.trans H.output
 size := Nat.le_trans H.size Hc.size
 low k hk hS := by
  rw [Hc.low k (Nat.lt_of_lt_of_le hk H.size) (fun hm => ?_)]
  ·exact H.low k hk hS
  ·obtain ⟨b, hb, rfl⟩ := List.mem_map.1 hm
   rcases H.may b (List.mem_append_right _ hb) with h | h
   ·omega
   ·exact hS h
 own b hb := by
  rcases List.mem_append.1 hb with h | h
  ·rw [Hc.low b.g (H.lt (List.mem_append_left _ h)) (fun hm => ?_)]
   ·exact H.own b (List.mem_append_left _ h)
   ·have hn := H.nodup
    rw [List.map_append, List.nodup_append] at hn
    exact hn.2.2 b.g (List.mem_map_of_mem h) b.g hm rfl
  ·exact Hc.own b h
 may b hb := by
  rcases List.mem_append.1 hb with h | h
  ·exact H.may b (List.mem_append_left _ h)
  ·rcases Hc.may b h with h2 | h2
   ·exact .inl (Nat.le_trans H.size h2)
   ·obtain ⟨c, hc, he⟩ := List.mem_map.1 h2
    rw [← he]; exact H.may c (List.mem_append_right _ hc)
 nodup := by
  have hn := H.nodup
  rw [List.map_append, List.nodup_append] at hn ⊢
  refine ⟨hn.1, Hc.nodup, fun a ha b hb he => ?_⟩
  subst he
  obtain ⟨c, hc, rfl⟩ := List.mem_map.1 ha
  obtain ⟨d, hd, hde⟩ := List.mem_map.1 hb
  rcases Hc.may d hd with h2 | h2
  ·have := H.lt (List.mem_append_left _ hc); omega
  ·rw [hde] at h2
   exact hn.2.2 c.g (List.mem_map_of_mem hc) c.g h2 rfl
theorem SH.fresh {w0 w : World} {L : List Blk} (H : SH w0 [] w L) : ∀ g ∈ L.map (·.g), w0.heap.size ≤ g := fun g hg => by
 obtain ⟨b, hb, rfl⟩ := List.mem_map.1 hg
 rcases H.may b hb with h | h
 ·exact h
 ·simp at h
theorem OnesAt.off {α : Type} {enc : α → Value} {w0 : World} {A : Option Addr} {l : List α} {gs : List Nat} (h : OnesAt enc w0 A l) (hg : ∀ g ∈ gs, w0.heap.size ≤ g) : l ≠ [] → Off A gs := fun hl b o he hm => by
 subst he
 obtain ⟨b', o', h1, h2⟩ := h 0 (List.length_pos_iff.2 hl)
 cases h1
 have h3 := cell_lt h2
 have h3 : b < w0.heap.size := h3
 have := hg b hm
 omega
theorem RowsAt.off {α : Type} {sz : Nat} {enc : α → List Value} {w0 : World} {A : Option Addr} {l : List α} {gs : List Nat} (h : RowsAt sz enc w0 A l) (hne : ∀ x, enc x ≠ []) (hg : ∀ g ∈ gs, w0.heap.size ≤ g) : l ≠ [] → Off A gs := fun hl b o he hm => by
 subst he
 obtain ⟨b', o', h1, h2⟩ := h 0 (List.length_pos_iff.2 hl)
 cases h1
 have hgb := hg b hm
 generalize hx : enc (l[0]'(List.length_pos_iff.2 hl)) = vs at h2
 match vs, h2 with
 | [], _ => exact hne _ hx
 | v :: vs, h2 =>
  have h3 : b < w0.heap.size := cell_lt h2.1
  omega
/-- some of the blocks, in another order -/
theorem SH.reidx {w0 w : World} {S : List Nat} {L L' : List Blk} (H : SH w0 S w L) (idx : List Nat) (hn : idx.Nodup) (hi : idx.map (fun i => L[i]?) = L'.map some) : SH w0 S w L' := by
 have hlen : idx.length = L'.length := by have := congrArg List.length hi; simpa using this
 have hat : ∀ p (h : p < L'.length), L[idx[p]'(by omega)]? = some L'[p] := by
  intro p h
  have := congrArg (fun l => l[p]?) hi
  simp only [List.getElem?_map] at this
  rw [List.getElem?_eq_getElem (by omega), List.getElem?_eq_getElem h] at this
  simpa using this
 have hmem : ∀ b ∈ L', b ∈ L := by
  intro b hb
  obtain ⟨p, hp, rfl⟩ := List.mem_iff_getElem.1 hb
  exact List.mem_of_getElem? (hat p hp)
 refine ⟨H.os, H.tape, H.output, H.size, H.low, fun b hb => H.own b (hmem b hb), fun b hb => H.may b (hmem b hb), ?_⟩
 rw [List.nodup_iff_pairwise_ne, List.pairwise_iff_getElem]
 intro p q hp hq hpq
 simp only [List.length_map] at hp hq
 have h1 := hat p hp
 have h2 := hat q hq
 have hne : idx[p]'(by omega) ≠ idx[q]'(by omega) := by
  rw [List.nodup_iff_pairwise_ne, List.pairwise_iff_getElem] at hn
  exact hn p q (by omega) (by omega) hpq
 generalize idx[p]'(by omega) = i at *
 generalize idx[q]'(by omega) = j at *
 obtain ⟨hi1, hi2⟩ := List.getElem?_eq_some_iff.1 h1
 obtain ⟨hj1, hj2⟩ := List.getElem?_eq_some_iff.1 h2
 have hd := H.nodup
 rw [List.nodup_iff_pairwise_ne, List.pairwise_iff_getElem] at hd
 simp only [List.getElem_map]
 rcases Nat.lt_or_gt_of_ne hne with h | h
 ·have := hd i j (by simpa) (by simpa) h
  simpa [hi2, hj2] using this
 ·have := hd j i (by simpa) (by simpa) h
  simp [hi2, hj2] at this
  exact fun he => this he.symm
/-- what lies off the blocks at the start lies off those that stand later -/
theorem Off.later {α : Type} {enc : α → Value} {w0 w : World} {gs : List Nat} {L : List Blk} {A : Option Addr} {l : List α} (h : OnesAt enc w0 A l) (hg : l ≠ [] → Off A gs) (H : SH w0 gs w L) : l ≠ [] → Off A (L.map (·.g)) := fun hl b o he hm => by
 have hoff := hg hl b o he
 subst he
 obtain ⟨b', o', h1, h2⟩ := h 0 (List.length_pos_iff.2 hl)
 cases h1
 have h3 : b < w0.heap.size := cell_lt h2
 obtain ⟨c, hc, rfl⟩ := List.mem_map.1 hm
 rcases H.may c hc with h4 | h4
 ·omega
 ·exact hoff h4
theorem ret_eq {v v' : Value} (h : v = v') : Ending.returned v = .returned v' := by rw [h]
theorem ret_int {a b : Int} (h : a = b) : Ending.returned (I a) = .returned (I b) := by rw [h]
end Go.W

/-
 Own blocks that hold rows of several cells: reading and writing an element.
-/
set_option linter.all false
namespace Go.W
open Go.RowKit
section
variable {α : Type} {enc : α → List Value} {sz : Nat}
theorem rows_length (hsz : ∀ x, (enc x).length = sz) (l : List α) : (l.flatMap enc).length = l.length * sz := by
 induction l with
 | nil => simp
 | cons x l ih => simp only [List.flatMap_cons, List.length_append, hsz, ih, List.length_cons, Nat.succ_mul]; omega
theorem rows_get (hsz : ∀ x, (enc x).length = sz) : ∀ (l : List α) (k j : Nat) (hk : k < l.length), j < sz → (l.flatMap enc)[k * sz + j]? = (enc (l[k]'hk))[j]?
 | [], _, _, hk, _ => by simp at hk
 | x :: l, 0, j, _, hj => by
  simp only [List.flatMap_cons, Nat.zero_mul, Nat.zero_add, List.getElem_cons_zero]
  rw [List.getElem?_append_left (by rw [hsz]; exact hj)]
 | x :: l, k + 1, j, hk, hj => by
  simp only [List.flatMap_cons, List.getElem_cons_succ]
  rw [List.getElem?_append_right (by rw [hsz, Nat.succ_mul]; omega), hsz, show (k + 1) * sz + j - sz = k * sz + j by rw [Nat.succ_mul]; omega]
  exact rows_get hsz l k j (by simpa using hk) hj
theorem putL_append_right (pre : List Value) : ∀ (vs cs : List Value) (k : Nat), putL (pre ++ cs) (pre.length + k) vs = pre ++ putL cs k vs
 | [], _, _ => rfl
 | v :: vs, cs, k => by
  rw [putL, putL, List.set_append_right _ _ (by omega), show pre.length + k - pre.length = k by omega, show pre.length + k + 1 = pre.length + (k + 1) by omega]
  exact putL_append_right pre vs _ _
theorem putL_whole : ∀ (vs old : List Value) (post : List Value), old.length = vs.length → putL (old ++ post) 0 vs = vs ++ post
 | [], [], _, _ => rfl
 | v :: vs, u :: old, post, h => by
  rw [putL]
  have := putL_append_right [v] vs (old ++ post) 0
  simp only [List.cons_append, List.set_cons_zero, List.nil_append, List.length_cons, List.length_nil, Nat.zero_add, Nat.add_zero] at this ⊢
  rw [this, putL_whole vs old post (by simpa using h)]
 | [], _ :: _, _, h => by simp at h
 | _ :: _, [], _, h => by simp at h
theorem putL_rows (hsz : ∀ x, (enc x).length = sz) : ∀ (l : List α) (k : Nat) (x : α), k < l.length → putL (l.flatMap enc) (k * sz) (enc x) = (l.set k x).flatMap enc
 | [], _, _, h => by simp at h
 | y :: l, 0, x, _ => by
  simp only [List.flatMap_cons, Nat.zero_mul, List.set_cons_zero]
  exact putL_whole _ _ _ (by rw [hsz, hsz])
 | y :: l, k + 1, x, h => by
  simp only [List.flatMap_cons, List.set_cons_succ]
  rw [show (k + 1) * sz = (enc y).length + k * sz by rw [hsz, Nat.succ_mul]; omega, putL_append_right, putL_rows hsz l k x (by simpa using h)]
theorem rowsOwn {w0 w : World} {S : List Nat} {L : List Blk} (hsz : ∀ x, (enc x).length = sz) (H : SH w0 S w L) (i : Nat) {g : Nat} {T : TypeId} {l : List α} {post : List Value} (hi : L[i]? = some ⟨g, T, l.flatMap enc ++ post⟩) :
  RowsAt sz enc w (some ⟨g, 0, none⟩) l := fun k hk => ⟨g, 0, rfl, by
 refine cellsAt_own H i hi _ _ fun j hj => ?_
 rw [hsz] at hj
 have hlen := rows_length hsz l
 have hkk : k * sz + sz ≤ l.length * sz := by rw [← Nat.succ_mul]; exact Nat.mul_le_mul_right _ hk
 rw [Nat.zero_add, List.getElem?_append_left (by rw [hlen]; omega), rows_get hsz l k j hk hj, List.getElem?_eq_getElem]⟩
theorem rowsOwn' {w0 w : World} {S : List Nat} {L : List Blk} (hsz : ∀ x, (enc x).length = sz) (H : SH w0 S w L) (i : Nat) {g : Nat} {T : TypeId} {l : List α} (hi : L[i]? = some ⟨g, T, l.flatMap enc⟩) :
  RowsAt sz enc w (some ⟨g, 0, none⟩) l := rowsOwn (post := []) hsz H i (by simpa using hi)
theorem mkL_rows (n : Nat) (x : α) : mkL n (enc x) = (List.replicate n x).flatMap enc := by
 induction n with
 | zero => rfl
 | succ n ih => simp only [mkL, List.replicate_succ, List.flatten_cons, List.flatMap_cons] at ih ⊢; rw [ih]
theorem mkL_ones {enc1 : α → Value} (n : Nat) (x : α) : mkL n [enc1 x] = (List.replicate n x).map enc1 := by rw [mkL_one]; simp
end
theorem OwnS.rows {α : Type} {enc : α → List Value} {sz : Nat} (hsz : ∀ x, (enc x).length = sz) (hp : 0 < sz) {w0 w : World} {S : List Nat} {A : Option Addr} {cap n el : Nat} {l : List α} {R Lo : List Blk} (h : OwnS A cap n (l.flatMap enc) el sz Lo) (H : SH w0 S w (R ++ Lo)) :
  RowsAt sz enc w A l ∧ l.length = n := by
 have hl : l.length = n := by
  have := h.len
  rw [rows_length hsz] at this
  exact Nat.eq_of_mul_eq_mul_right hp this
 refine ⟨?_, hl⟩
 rcases h.form with ⟨rfl, h0, _, _⟩ | ⟨g, sp, rfl, rfl, _⟩
 ·intro k hk; omega
 ·exact rowsOwn (T := el) (post := sp) hsz H R.length (by simp)
theorem OwnS.ones {α : Type} {enc : α → Value} {w0 w : World} {S : List Nat} {A : Option Addr} {cap n el : Nat} {l : List α} {R Lo : List Blk} (h : OwnS A cap n (l.map enc) el 1 Lo) (H : SH w0 S w (R ++ Lo)) :
  OnesAt enc w A l ∧ l.length = n := by
 have hl : l.length = n := by simpa using h.len
 refine ⟨?_, hl⟩
 rcases h.form with ⟨rfl, h0, _, _⟩ | ⟨g, sp, rfl, rfl, _⟩
 ·intro k hk; omega
 ·exact OnesAt.own (b := ⟨g, el, l.map enc ++ sp⟩) H R.length (by simp) (post := sp) rfl
theorem onesOwn {α : Type} {enc : α → Value} {w0 w : World} {S : List Nat} {L : List Blk} (H : SH w0 S w L) (i : Nat) {g : Nat} {T : TypeId} {l : List α} (hi : L[i]? = some ⟨g, T, l.map enc⟩) : OnesAt enc w (some ⟨g, 0, none⟩) l :=
 OnesAt.own (b := ⟨g, T, l.map enc⟩) H i hi (post := []) (by simp)
/-- a store of one element -/
theorem putL_ones {α : Type} {enc : α → Value} (l : List α) (k : Nat) (x : α) : putL (l.map enc) k [enc x] = (l.set k x).map enc := by simp [putL, List.map_set]
end Go.W

/-
 More rules: copy.
-/
set_option linter.all false
namespace Go.W
open Go.RowKit
section
variable {P : Program} {N : Nat} {ops : Array Oper} {K : Env → World → Prop} {e : Env} {w w0 : World} {S : List Nat} {L : List Blk} {rest : List Oper} {o : Oper} {t : TypeId} {x y : Operand}
/-- copy of a whole list into a block of the call's own; elements of one cell -/
theorem OPS.copy {d el n sb so c c' : Nat} {b : Blk} {vs : List Value} (i k : Nat) (hg : o.guard = none) (hd : o.dst = some d) (hN : Nat.blt d N = true)
  (hop : o.op = .call { callee := .builtin .copy, args := #[x, y], argTypes := #[t, t] }) (hU : ∀ w, (underlying t).run P w = .ok (.slice el) w) (hs : ∀ w, (Go.sizeOf el).run P w = .ok 1 w)
  (hx : ev e x = .slice (some ⟨b.g, k, none⟩) n c) (hy : ev e y = .slice (some ⟨sb, so, none⟩) n c') (hn : vs.length = n) (hsrc : cellsAt w sb so vs) (h1 : (vs.all (·.oneCell')) = true)
  (H : SH w0 S w L) (hi : L[i]? = some b) (hk : k + n ≤ b.cs.length)
  (h : ∀ w', SH w0 S w' (L.set i ⟨b.g, b.T, putL b.cs k vs⟩) → OPS P N .plain ops K rest (upd e d (.int .i64 n)) w') : OPS P N .plain ops K (o :: rest) e w := by
 obtain ⟨w', hr, H'⟩ := store_run (P := P) vs w L b k 0 H hi (by omega) h1
 refine OPS.act (v := .int .i64 n) (w' := w') hg hd hN ?_ (h w' H')
 unfold execOp; rw [hop]
 have hl := loadCells_at (P := P) vs hsrc
 rw [hn] at hl
 simp [resolve, invoke, builtin, hx, hy, Builtin.copy_, hU, hs, Builtin.lenOf, Builtin.firstCells, hl, hr, goInt]
/-- as OPS.box, OPS.alloc, OPS.makeSlice, OPS.buildSlice, with what the new world keeps -/
theorem OPS.boxB {d : Nat} {cs : List Value} (hg : o.guard = none) (hd : o.dst = some d) (hN : Nat.blt d N = true) (hop : o.op = .box t x) (hx : (ev e x).cells = cs.toArray) (H : SH w0 S w L)
  (h : ∀ g w', Below w.heap.size w w' → SH w0 S w' (⟨g, t, cs⟩ :: L) → OPS P N .plain ops K rest (upd e d (.pointer (some ⟨g, 0, none⟩))) w') : OPS P N .plain ops K (o :: rest) e w :=
 OPS.act (v := .pointer (some ⟨w.heap.size, 0, none⟩)) (w' := w.alloc (.cells cs.toArray t)) hg hd hN (by unfold execOp; rw [hop]; simp [Instr.box, newVar, newRow, newObj, Sem.run, hx]) (h _ _ ((Below.refl _ _).alloc (Nat.le_refl _) _) (H.alloc t cs))
theorem OPS.allocB {d : Nat} {z : Value} {cs : List Value} (hg : o.guard = none) (hd : o.dst = some d) (hN : Nat.blt d N = true) (hop : o.op = .alloc t) (hz : ∀ w, (zeroValue t).run P w = .ok z w) (hx : z.cells = cs.toArray) (H : SH w0 S w L)
  (h : ∀ g w', Below w.heap.size w w' → SH w0 S w' (⟨g, t, cs⟩ :: L) → OPS P N .plain ops K rest (upd e d (.pointer (some ⟨g, 0, none⟩))) w') : OPS P N .plain ops K (o :: rest) e w :=
 OPS.act (v := .pointer (some ⟨w.heap.size, 0, none⟩)) (w' := w.alloc (.cells cs.toArray t)) hg hd hN (by unfold execOp; rw [hop]; simp [Instr.alloc, hz, newVar, newRow, newObj, Sem.run, hx]) (h _ _ ((Below.refl _ _).alloc (Nat.le_refl _) _) (H.alloc t cs))
theorem OPS.makeSliceB {d el sz bt m : Nat} {n : Int} {k k' : IntKind} {zs : List Value} (hg : o.guard = none) (hd : o.dst = some d) (hN : Nat.blt d N = true) (hop : o.op = .makeSlice t x y) (hf : SlFact P t el sz bt zs)
  (hx : ev e x = .int k n) (hy : ev e y = .int k' n) (hn : n = (m : Int)) (hb : bt * m ≤ 140737488355328) (hm : m ≤ 9223372036854775807) (H : SH w0 S w L)
  (h : ∀ g w', Below w.heap.size w w' → SH w0 S w' (⟨g, el, mkL m zs⟩ :: L) → OPS P N .plain ops K rest (upd e d (.slice (some ⟨g, 0, none⟩) m m)) w') : OPS P N .plain ops K (o :: rest) e w := by
 subst hn
 refine OPS.act (v := .slice (some ⟨w.heap.size, 0, none⟩) m m) (w' := w.alloc (.cells (mkL m zs).toArray el)) hg hd hN ?_ (h _ _ ((Below.refl _ _).alloc (Nat.le_refl _) _) (H.alloc _ _))
 unfold execOp; rw [hop]
 simp only [hx, hy, Sem.run_bind, run_makeSlice_own hf m k k' hb hm w, Result.andThen_ok, Sem.run_pure]
theorem OPS.buildSliceB {d el n : Nat} {cs : List Value} {parts : List (Nat × Operand)} (hg : o.guard = none) (hd : o.dst = some d) (hN : Nat.blt d N = true) (hop : o.op = .buildSlice t n parts.toArray)
  (hr : ∀ w, (Instr.buildSlice t n (parts.map fun p => (p.1, ev e p.2)).toArray).run P w = .ok (.slice (some ⟨w.heap.size, 0, none⟩) n n) (w.alloc (.cells cs.toArray el))) (H : SH w0 S w L)
  (h : ∀ g w', Below w.heap.size w w' → SH w0 S w' (⟨g, el, cs⟩ :: L) → OPS P N .plain ops K rest (upd e d (.slice (some ⟨g, 0, none⟩) n n)) w') : OPS P N .plain ops K (o :: rest) e w := by
 refine OPS.act (v := .slice (some ⟨w.heap.size, 0, none⟩) n n) (w' := w.alloc (.cells cs.toArray el)) hg hd hN ?_ (h _ _ ((Below.refl _ _).alloc (Nat.le_refl _) _) (H.alloc _ _))
 unfold execOp; rw [hop]
 simp only [List.map_toArray, Sem.run_bind, hr, Result.andThen_ok, Sem.run_pure]
/-- a guarded call in a quiet region, the contract first -/
theorem OPS.gcallq2 {d j dj : Nat} {want b : Bool} {f : FuncId} {args : List Value} {v : Value}
  (hC : b = want → ∀ w', Below w.heap.size w w' → Calls P f args.toArray w' fun e' w'' => e' = .returned v ∧ Below w'.heap.size w' w'')
  (hg : o.guard = some (j, want)) (hj : ops[j]?.bind (·.dst) = some dj) (hb : e dj = .bool b) (hd : o.dst = some d) (hN : Nat.blt d N = true) (hE : b = want → EvC P e o.op f args)
  (h : OPS P N .quiet ops K rest (upd e d (gv b want v)) w) : OPS P N .quiet ops K (o :: rest) e w :=
 ⟨fun a h1 h2 h3 => by
  have hn := h.run (a.put (some d) (gv b want v)) (by rw [envOf_put _ h2 hN, h1]) (by rw [size_put]; exact h2) (by rw [defers_put]; exact h3)
  have hy := yielded_of (a := a) hj (h1 ▸ hb)
  simp only at hn ⊢
  unfold wpQuiet
  by_cases hw : b = want
  ·subst hw
   have hwt : Region.wanted o (yielded ops a.tmps) = true := by simp [Region.wanted, hg, hy]
   have hgv : gv b b v = v := by simp [gv]
   rw [hgv] at hn
   rw [if_pos hwt]
   refine ⟨v, fun w' hb => ?_, by rw [hd]; exact hn⟩
   unfold Oper.quietAt
   have hr := (hE rfl).run w' o rfl
   rw [← h1, ← eval_eq] at hr
   rw [hr]
   exact ⟨rfl, (hC rfl w' hb).mono fun e' w'' ⟨he, hb2⟩ => ⟨he, hb.trans (hb2.mono hb.size)⟩⟩
  ·have hwt : Region.wanted o (yielded ops a.tmps) = false := by simp [Region.wanted, hg, hy, hw]
   have hgv : gv b want v = undef := by simp [gv, hw]
   rw [hgv] at hn
   rw [hwt, hd]; exact hn⟩
/-- a guarded call whose result is not known beforehand -/
theorem OPS.gcallX {α : Type} [Inhabited α] (val : α → Value) (R : α → World → Prop) {d j dj : Nat} {want b : Bool} {f : FuncId} {args : List Value}
  (hC : b = want → Calls P f args.toArray w fun e' w' => ∃ x, e' = .returned (val x) ∧ R x w' ∧ Below w.heap.size w w') (hg : o.guard = some (j, want)) (hj : ops[j]?.bind (·.dst) = some dj) (hb : e dj = .bool b) (hd : o.dst = some d) (hN : Nat.blt d N = true)
  (hE : b = want → EvC P e o.op f args)
  (h : ∀ x w', (b = want → R x w') → Below w.heap.size w w' → OPS P N .plain ops K rest (upd e d (gv b want (val x))) w') : OPS P N .plain ops K (o :: rest) e w :=
 ⟨fun a h1 h2 h3 => by
  have hy := yielded_of (a := a) hj (h1 ▸ hb)
  simp only
  unfold wpList
  by_cases hw : b = want
  ·subst hw
   have hwt : Region.wanted o (yielded ops a.tmps) = true := by simp [Region.wanted, hg, hy]
   rw [if_pos hwt]
   refine .inl ?_
   unfold Oper.wp
   have hr := (hE rfl).run w o rfl
   rw [← h1, ← eval_eq] at hr
   rw [hr]
   refine (hC rfl).mono fun e' w' ⟨x, he, hR, hb2⟩ => ?_
   subst he
   have hn := (h x w' (fun _ => hR) hb2).run (a.put (some d) (gv b b (val x))) (by rw [envOf_put _ h2 hN, h1]) (by rw [size_put]; exact h2) (by rw [defers_put]; exact h3)
   have hgv : gv b b (val x) = val x := by simp [gv]
   rw [hgv] at hn
   rw [hd]
   exact hn
  ·have hwt : Region.wanted o (yielded ops a.tmps) = false := by simp [Region.wanted, hg, hy, hw]
   have hn := (h default w (fun hx => absurd hx hw) (Below.refl _ _)).run (a.put (some d) (gv b want (val default))) (by rw [envOf_put _ h2 hN, h1]) (by rw [size_put]; exact h2) (by rw [defers_put]; exact h3)
   have hgv : gv b want (val default) = undef := by simp [gv, hw]
   rw [hgv] at hn
   rw [hwt, hd]; exact hn⟩
end
section
variable {P : Program} {e : Env} {w : World} {ty t : TypeId} {x y : Operand}
theorem Ev.pickT {c : Operand} {b : Bool} {v : Value} (hc : ev e c = .bool b) (hb : b = true) (hx : ev e x = v) : Ev P e w ty (.pick c x y) v := by
 have := Ev.pick (P := P) (w := w) (ty := ty) (x := x) (y := y) hc
 rw [if_pos hb, hx] at this; exact this
theorem Ev.pickF {c : Operand} {b : Bool} {v : Value} (hc : ev e c = .bool b) (hb : b = false) (hy : ev e y = v) : Ev P e w ty (.pick c x y) v := by
 have := Ev.pick (P := P) (w := w) (ty := ty) (x := x) (y := y) hc
 rw [if_neg (by simp [hb]), hy] at this; exact this
theorem equalB {a b : Bool} (hU : ∀ w, (underlying t).run P w = .ok .bool w) (w : World) : (Op.equal t (.bool a) (.bool b)).run P w = .ok (a == b) w := by
 unfold Op.equal
 rw [show Op.maxDepth = 9999 + 1 from rfl, Op.equalIn]
 simp [hU]
theorem Ev.neqB {t' : TypeId} {a b : Bool} (hU : ∀ w, (underlying t).run P w = .ok .bool w) (hx : ev e x = .bool a) (hy : ev e y = .bool b) : Ev P e w ty (.binOp .neq t x y t') (.bool (a != b)) :=
 ⟨fun w' _ o ho _ => by unfold execOp; rw [ho]; simp [hx, hy, eqGuard, binOp, equalB hU, bne]⟩
theorem Ev.eqlB {t' : TypeId} {a b : Bool} (hU : ∀ w, (underlying t).run P w = .ok .bool w) (hx : ev e x = .bool a) (hy : ev e y = .bool b) : Ev P e w ty (.binOp .eql t x y t') (.bool (a == b)) :=
 ⟨fun w' _ o ho _ => by unfold execOp; rw [ho]; simp [hx, hy, eqGuard, binOp, equalB hU]⟩
/-- two structs of one type, compared -/
theorem Ev.eqlA {t' : TypeId} {vs us : Array Value} {q : Bool} (hg : P.eqGuardType P.depth t = false) (hr : ∀ w, (Op.equal t (.agg vs) (.agg us)).run P w = .ok q w) (hx : ev e x = .agg vs) (hy : ev e y = .agg us) : Ev P e w ty (.binOp .eql t x y t') (.bool q) :=
 ⟨fun w' _ o ho _ => by
  have hp : (program : Sem Program).run P w' = .ok P w' := rfl
  unfold execOp; rw [ho]; simp [hx, hy, eqGuard, binOp, hr, hp, hg]⟩
end
theorem zero_of {P : Program} {t : TypeId} {z : Value} (h : (P.info? t).map (·.zero) = some (some z)) : ∀ w, (zeroValue t).run P w = .ok z w := by
 intro w
 cases hi : P.info? t with
 | none => simp [hi] at h
 | some i =>
  simp [hi] at h
  have ht : (typeInfo t).run P w = .ok i w := by unfold typeInfo program; simp only [Sem.run_bind, Sem.run, Result.andThen_ok, hi, Sem.run_pure]
  unfold zeroValue; simp only [Sem.run_bind, ht, Result.andThen_ok, h, Sem.run_pure]
/-- a cell of a block of ints -/
theorem intCell {w0 w : World} {S : List Nat} {L : List Blk} (H : SH w0 S w L) (i : Nat) {g : Nat} {T : TypeId} {ms : List Int} (hi : L[i]? = some ⟨g, T, ms.map fun n => Value.int .i64 n⟩) (k : Nat) (hk : k < ms.length) : w.cell? ⟨g, k, none⟩ = some (.int .i64 (ms.getD k 0)) :=
 H.ldL i hi k (by simp [hk])
/-- a list that is being filled: the first j elements stand, the others are z -/
def fillL {α : Type} (l : List α) (z : α) (j : Nat) : List α := l.take j ++ List.replicate (l.length - j) z
theorem fillL_length {α : Type} (l : List α) (z : α) (j : Nat) (h : j ≤ l.length) : (fillL l z j).length = l.length := by simp [fillL]; omega
theorem fillL_zero {α : Type} (l : List α) (z : α) : fillL l z 0 = List.replicate l.length z := by simp [fillL]
theorem fillL_all {α : Type} (l : List α) (z : α) : fillL l z l.length = l := by simp [fillL]
theorem fillL_set {α : Type} (l : List α) (z : α) (j : Nat) (h : j < l.length) : (fillL l z j).set j (l[j]) = fillL l z (j + 1) := by
 have e : l.length - j = (l.length - (j + 1)) + 1 := by omega
 unfold fillL
 have e2 : j - (l.take j).length = 0 := by simp; omega
 rw [List.set_append_right _ _ (by simp; omega), e, List.replicate_succ, e2, List.set_cons_zero, ← List.take_append_getElem h, List.append_assoc]
 rfl
/-- how many are not set yet -/
def openN (l : List Bool) : Nat := (l.filter (fun b => !b)).length
theorem openN_set : ∀ (l : List Bool) (k : Nat), k < l.length → l.getD k false = false → openN (l.set k true) < openN l
 | [], _, h, _ => by simp at h
 | b :: l, 0, _, hb => by
  simp at hb; subst hb
  simp [openN]
 | b :: l, k + 1, h, hb => by
  have := openN_set l k (by simpa using h) (by simpa using hb)
  cases b <;> simpa [openN] using this
end Go.W

/-
 Arguments, read: what the cells of a datum are, type by type.
-/
set_option linter.all false
namespace Go.W
open Go.RowKit Go.Deep
theorem exists_list {α : Type} {p : Nat → α → Prop} : ∀ (n : Nat), (∀ i, i < n → ∃ a, p i a) → ∃ l : List α, l.length = n ∧ ∀ i (h : i < l.length), p i l[i]
 | 0, _ => ⟨[], rfl, fun i h => absurd h (by simp)⟩
 | n + 1, h => by
  obtain ⟨l, h1, h2⟩ := exists_list (p := p) n fun i hi => h i (by omega)
  obtain ⟨a, ha⟩ := h n (by omega)
  refine ⟨l ++ [a], by simp [h1], fun i hi => ?_⟩
  by_cases hl : i < l.length
  ·rw [List.getElem_append_left hl]; exact h2 i hl
  ·simp only [List.length_append, List.length_cons, List.length_nil] at hi
   obtain rfl : i = n := by omega
   rw [List.getElem_append_right (by omega)]
   simpa [h1] using ha
section
variable {H : Type} {enc : TypeId × Value → H} {P : Program} {w : World} {base : Nat} {spare : Nat → Bool} {held : Bool}
/-- a datum of type t is some 'a', whose cells are 'cells a', and G holds of it -/
structure Rd (enc : TypeId × Value → H) (P : Program) (w : World) (base : Nat) (spare : Nat → Bool) (held : Bool) (t : TypeId) {α : Type} (cells : α → List Value) (G : α → Prop) : Prop where
 out : ∀ fuel cs x, DataW.trod enc P w base spare held fuel t cs = some x → ∃ a, cs = cells a ∧ G a
theorem Rd.int {t : TypeId} {k : IntKind} (ht : P.underlying t = some (.int k)) : Rd enc P w base spare held t (fun n : Int => [.int k n]) (fun n => (Lit.int k n).wf = true) :=
 ⟨fun _ _ _ h => by obtain ⟨n, h1, _, h2⟩ := DataW.trod_int ht h; exact ⟨n, h1, h2⟩⟩
theorem Rd.bool {t : TypeId} (ht : P.underlying t = some .bool) : Rd enc P w base spare held t (fun b : Bool => [.bool b]) (fun _ => True) :=
 ⟨fun _ _ _ h => by obtain ⟨n, h1, _⟩ := DataW.trod_bool ht h; exact ⟨n, h1, trivial⟩⟩
theorem Rd.mono {t : TypeId} {α : Type} {cells : α → List Value} {G G' : α → Prop} (h : Rd enc P w base spare held t cells G) (hG : ∀ a, G a → G' a) : Rd enc P w base spare held t cells G' :=
 ⟨fun f cs x hx => by obtain ⟨a, h1, h2⟩ := h.out f cs x hx; exact ⟨a, h1, hG a h2⟩⟩
structure SlA (α : Type) where
 A : Option Addr
 cap : Nat
 l : List α
def slCells {α : Type} (s : SlA α) : List Value := [.slice s.A s.l.length s.cap]
structure SlG {α : Type} (w : World) (sz : Nat) (cells : α → List Value) (G : α → Prop) (s : SlA α) : Prop where
 rows : RowsAt sz cells w s.A s.l
 len : s.l.length ≤ maxLen
 all : ∀ a ∈ s.l, G a
 le : s.l.length ≤ s.cap
theorem cellsAt_of {b : Nat} : ∀ (vs : List Value) (o : Nat), (∀ j (h : j < vs.length), w.cell? ⟨b, o + j, none⟩ = some vs[j]) → cellsAt w b o vs
 | [], _, _ => trivial
 | v :: vs, o, h => ⟨h 0 (by simp), cellsAt_of vs (o + 1) fun j hj => by
   have := h (j + 1) (by simpa using hj)
   rw [show o + 1 + j = o + (j + 1) by omega]; exact this⟩
theorem Rd.slice {t e : TypeId} {sz : Nat} {α : Type} {cells : α → List Value} {G : α → Prop} (ht : P.underlying t = some (.slice e)) (hs : P.cellsOf e = sz) (h0 : 0 < sz) (he : Rd enc P w base spare held e cells G) :
  Rd enc P w base spare held t (slCells (α := α)) (SlG w sz cells G) := ⟨fun fuel cs x h => by
 rcases open_slice ht h with ⟨h1, _⟩ | ⟨a, len, cap, m, n, D, Pl, rfl, hb, hl, hm, hmm, _, hx⟩
 ·exact ⟨⟨none, 0, []⟩, h1, ⟨RowsAt.nil, by simp, by simp, by simp⟩⟩
 ·rw [hs] at hx
  have hlm : len ≤ m := by rw [hmm]; split <;> omega
  obtain ⟨l, h1, h2⟩ := exists_list (p := fun i (q : α) => G q ∧ w.cells? base (a.add (i * sz)) sz = some (cells q)) len fun i hi => by
   obtain ⟨cs', c1, c2⟩ := hx i (by omega)
   obtain ⟨q, rfl, hq⟩ := he.out _ _ _ c2
   exact ⟨q, hq, c1⟩
  refine ⟨⟨some a, cap, l⟩, by simp [slCells, h1], ⟨fun k hk => ?_, ?_, fun q hq => ?_, by show l.length ≤ cap; omega⟩⟩
  ·have hk : k < l.length := hk
   obtain ⟨b, o, spot⟩ := a
   have hspot : spot = none := by
    obtain ⟨_, hlen, hc⟩ := World.cells?_some (h2 0 (by omega)).2
    have h3 := hc 0 h0
    rw [List.getElem?_eq_getElem (by omega)] at h3
    simpa [Addr.add] using World.cell?_spot h3
   subst hspot
   refine ⟨b, o, rfl, ?_⟩
   obtain ⟨_, hlen, hc⟩ := World.cells?_some (h2 k hk).2
   refine cellsAt_of _ _ fun j hj => ?_
   have hj : j < (cells l[k]).length := hj
   have h3 := hc j (by omega)
   rw [addr_add, addr_add] at h3
   rw [h3]; exact List.getElem?_eq_getElem hj
  ·show l.length ≤ maxLen; omega
  ·obtain ⟨i, hi, rfl⟩ := List.mem_iff_getElem.1 hq
   exact (h2 i hi).1⟩
theorem RowsAt.ones {α : Type} {f : α → Value} {A : Option Addr} {l : List α} (h : RowsAt 1 (fun a => [f a]) w A l) : OnesAt f w A l := fun k hk => by
 obtain ⟨b, o, h1, h2⟩ := h k hk
 exact ⟨b, o, h1, by simpa using h2.1⟩
/-- fields of a struct, from an offset on -/
structure RdF (enc : TypeId × Value → H) (P : Program) (w : World) (base : Nat) (spare : Nat → Bool) (held : Bool) (fs : List Field) (off tot : Nat) {α : Type} (cells : α → List Value) (G : α → Prop) : Prop where
 out : ∀ cs : List Value, cs.length = tot → (∀ (i : Nat) (f : Field), fs[i]? = some f → ∃ n x, DataW.trod enc P w base spare held n f.type ((cs.drop f.offset).take (P.cellsOf f.type)) = some x) → ∃ a, cs.drop off = cells a ∧ G a
theorem RdF.nil {off : Nat} : RdF enc P w base spare held [] off off (fun _ : Unit => []) (fun _ => True) := ⟨fun cs h _ => ⟨(), by rw [List.drop_eq_nil_of_le (by omega)], trivial⟩⟩
theorem RdF.cons {f : Field} {fs : List Field} {off tot sz : Nat} {α β : Type} {cA : α → List Value} {cB : β → List Value} {GA : α → Prop} {GB : β → Prop} {T : TypeId} (hA : Rd enc P w base spare held T cA GA) (hT : f.type = T) (ho : f.offset = off) (hs : P.cellsOf T = sz)
  (hB : RdF enc P w base spare held fs (off + sz) tot cB GB) : RdF enc P w base spare held (f :: fs) off tot (fun p : α × β => cA p.1 ++ cB p.2) (fun p => GA p.1 ∧ GB p.2) := ⟨fun cs hl h => by
 subst hT
 obtain ⟨n, x, hx⟩ := h 0 f rfl
 obtain ⟨a, ha, ga⟩ := hA.out _ _ _ hx
 obtain ⟨b, hb, gb⟩ := hB.out cs hl fun i f' hf => h (i + 1) f' (by simpa using hf)
 refine ⟨(a, b), ?_, ga, gb⟩
 rw [ho, hs] at ha
 simp only
 rw [← ha, ← hb, ← List.drop_drop, List.take_append_drop]⟩
theorem Rd.struct {t : TypeId} {fs : List Field} {tot : Nat} {α : Type} {cells : α → List Value} {G : α → Prop} (ht : P.underlying t = some (.struct fs.toArray)) (hs : P.cellsOf t = tot) (hF : RdF enc P w base spare held fs 0 tot cells G) : Rd enc P w base spare held t cells G := ⟨fun fuel cs x h => by
 obtain ⟨xs, n, _, _, hl, hxl, hx⟩ := DataW.trod_struct ht h
 obtain ⟨a, h1, h2⟩ := hF.out cs (by omega) fun i f hf => by
  have h3 := hx i f (by simpa using hf)
  have hi : i < fs.length := (List.getElem?_eq_some_iff.1 hf).1
  rw [List.getElem?_eq_getElem (by simp at hxl; omega)] at h3
  exact ⟨n, _, h3⟩
 exact ⟨a, by simpa using h1, h2⟩⟩
/-- an array of three elements of one cell -/
theorem Rd.array3 {t e : TypeId} {α : Type} {f : α → Value} {G : α → Prop} (ht : P.underlying t = some (.array 3 e)) (hs : P.cellsOf e = 1) (hc : P.cellsOf t = 3) (he : Rd enc P w base spare held e (fun a => [f a]) G) :
  Rd enc P w base spare held t (fun p : α × α × α => [f p.1, f p.2.1, f p.2.2]) (fun p => G p.1 ∧ G p.2.1 ∧ G p.2.2) := ⟨fun fuel cs x h => by
 obtain ⟨xs, m, _, _, hl, hxl, hx⟩ := DataW.trod_array ht h
 rw [hs] at hx
 have hl3 : cs.length = 3 := by rw [hl, hc]
 match cs, hl3 with
 | [c0, c1, c2], _ =>
  have g : ∀ i (hi : i < 3), ∃ a, (([c0, c1, c2] : List Value).drop (i * 1)).take 1 = [f a] ∧ G a := fun i hi => by
   have h3 := hx i hi
   rw [List.getElem?_eq_getElem (by omega)] at h3
   exact he.out _ _ _ h3
  obtain ⟨a0, h0, g0⟩ := g 0 (by omega)
  obtain ⟨a1, h1, g1⟩ := g 1 (by omega)
  obtain ⟨a2, h2, g2⟩ := g 2 (by omega)
  simp at h0 h1 h2
  subst h0 h1 h2
  exact ⟨(a0, a1, a2), rfl, g0, g1, g2⟩⟩
theorem okWide_array {r : Reach} {t e : TypeId} {n : Nat} {v : Value} (ht : P.underlying t = some (.array n e)) (h : Value.okWide P w r base t v) : ∃ cs, v = .agg cs ∧ cs.size = P.cellsOf t := by
 simp only [Value.okWide, ht] at h
 obtain ⟨cs, h1, h2, _⟩ := h
 exact ⟨cs, h1, h2⟩
theorem Rd.conv {t : TypeId} {α β : Type} {cells : α → List Value} {G : α → Prop} (h : Rd enc P w base spare held t cells G) (f : α → β) {cells' : β → List Value} {G' : β → Prop} (hc : ∀ a, cells a = cells' (f a)) (hG : ∀ a, G a → G' (f a)) : Rd enc P w base spare held t cells' G' :=
 ⟨fun fu cs x hx => by obtain ⟨a, h1, h2⟩ := h.out fu cs x hx; exact ⟨f a, h1.trans (hc a), hG a h2⟩⟩
/-- of an argument -/
theorem Rd.arg1 {t : TypeId} {α : Type} {f : α → Value} {G : α → Prop} {v : Value} {d : DataW H} {p : List MemPlace} (h : Rd enc P w base spare held t (fun a => [f a]) G) (hv : v.cells = #[v]) (ht : DataW.Trod enc P w base spare held t v d p) : ∃ a, v = f a ∧ G a := by
 obtain ⟨fuel, hf⟩ := ht
 obtain ⟨a, h1, h2⟩ := h.out _ _ _ hf
 rw [hv] at h1
 simp at h1
 exact ⟨a, h1, h2⟩
theorem Rd.argN {t : TypeId} {α : Type} {cells : α → List Value} {G : α → Prop} {vs : Array Value} {d : DataW H} {p : List MemPlace} (h : Rd enc P w base spare held t cells G) (ht : DataW.Trod enc P w base spare held t (.agg vs) d p) : ∃ a, vs = (cells a).toArray ∧ G a := by
 obtain ⟨fuel, hf⟩ := ht
 obtain ⟨a, h1, h2⟩ := h.out _ _ _ hf
 refine ⟨a, ?_, h2⟩
 have : vs.toList = cells a := by simpa [Value.cells] using h1
 rw [← this]
end
theorem wf_i64 {n : Int} (h : (Lit.int .i64 n).wf = true) : -9223372036854775808 ≤ n ∧ n ≤ 9223372036854775807 := by
 exact bounds_i64 h
end Go.W

/-
 Lists that are being written, element by element.
-/
set_option linter.all false
namespace Go.W
open Go.RowKit
theorem Ev.neqA {P : Program} {e : Env} {w : World} {ty t : TypeId} {x y : Operand} {t' : TypeId} {vs us : Array Value} {q : Bool} (hg : P.eqGuardType P.depth t = false) (hr : ∀ w, (Op.equal t (.agg vs) (.agg us)).run P w = .ok q w) (hx : ev e x = .agg vs) (hy : ev e y = .agg us) : Ev P e w ty (.binOp .neq t x y t') (.bool (!q)) :=
 ⟨fun w' _ o ho _ => by
  have hp : (program : Sem Program).run P w' = .ok P w' := rfl
  unfold execOp; rw [ho]; simp [hx, hy, eqGuard, binOp, hr, hp, hg]⟩
/-- the first j elements of l, the others of m -/
def mixL {α : Type} (l m : List α) (j : Nat) : List α := l.take j ++ m.drop j
theorem mixL_length {α : Type} {l m : List α} {j : Nat} (h : l.length = m.length) (hj : j ≤ l.length) : (mixL l m j).length = l.length := by simp [mixL]; omega
theorem mixL_zero {α : Type} (l m : List α) : mixL l m 0 = m := by simp [mixL]
theorem mixL_all {α : Type} {l m : List α} (h : l.length = m.length) : mixL l m l.length = l := by
 unfold mixL
 rw [List.take_length, List.drop_eq_nil_of_le (by omega), List.append_nil]
theorem mixL_get {α : Type} {l m : List α} {j : Nat} (h : l.length = m.length) (hj : j < l.length) : (mixL l m j)[j]? = m[j]? := by
 have e1 : (l.take j).length = j := by simp; omega
 unfold mixL
 rw [List.getElem?_append_right (by omega), e1]
 simp
theorem mixL_set {α : Type} {l m : List α} {j : Nat} (h : l.length = m.length) (hj : j < l.length) : (mixL l m j).set j (l[j]) = mixL l m (j + 1) := by
 have e1 : (l.take j).length = j := by simp; omega
 unfold mixL
 rw [List.set_append_right _ _ (by omega), e1, Nat.sub_self, List.drop_eq_getElem_cons (show j < m.length by omega), List.set_cons_zero, ← List.take_append_getElem hj, List.append_assoc]
 rfl
theorem OnesAt.atK {α : Type} {enc : α → Value} {w : World} {b o : Nat} {l : List α} (h : OnesAt enc w (some ⟨b, o, none⟩) l) {k : Nat} (hk : k < l.length) : w.cell? ⟨b, o + k, none⟩ = some (enc (l[k]'hk)) := by
 obtain ⟨b', o', h1, h2⟩ := h k hk
 cases h1; exact h2
theorem OnesAt.cells {α : Type} {enc : α → Value} {w : World} {b : Nat} : ∀ {o : Nat} {l : List α}, OnesAt enc w (some ⟨b, o, none⟩) l → cellsAt w b o (l.map enc)
 | _, [], _ => trivial
 | o, a :: l, h => ⟨h.atK (k := 0) (Nat.zero_lt_succ _), OnesAt.cells fun k hk => ⟨b, o + 1, rfl, by
   have := h.atK (k := k + 1) (by simpa using hk)
   rw [show o + 1 + k = o + (k + 1) by omega]; exact this⟩⟩
theorem Ev.convI {P : Program} {e : Env} {w : World} {ty s d : TypeId} {x : Operand} {k' : IntKind} {a : Int} (hs : ∀ w, (underlying s).run P w = .ok (.int k') w) (hd : ∀ w, (underlying d).run P w = .ok (.int .i64) w) (hx : ev e x = .int k' a) (h : fits a) : Ev P e w ty (.convert s d x) (.int .i64 a) := by
 have := Ev.conv (P := P) (w := w) (ty := ty) hs hd hx
 rwa [wrap_fits h] at this
/-- a store into a list that begins a block -/
theorem putL_pre {α : Type} {enc : α → Value} (l : List α) (post : List Value) (k : Nat) (x : α) (hk : k < l.length) : putL (l.map enc ++ post) k [enc x] = (l.set k x).map enc ++ post := by
 simp only [putL]
 rw [List.set_append_left _ _ (by simpa using hk), List.map_set]
theorem preCell {α : Type} {enc : α → Value} {w0 w : World} {S : List Nat} {L : List Blk} (H : SH w0 S w L) (i : Nat) {g : Nat} {T : TypeId} {l : List α} {post : List Value} (hi : L[i]? = some ⟨g, T, l.map enc ++ post⟩) {k : Nat} (hk : k < l.length) : w.cell? ⟨g, k, none⟩ = some (enc l[k]) :=
 H.ldL i hi k (by
  show (l.map enc ++ post)[k]? = _
  rw [List.getElem?_append_left (by simpa using hk), List.getElem?_map, List.getElem?_eq_getElem hk]; rfl)
end Go.W
