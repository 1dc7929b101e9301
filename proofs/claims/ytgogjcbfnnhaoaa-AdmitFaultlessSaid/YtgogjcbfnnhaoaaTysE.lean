/- The functional reading of the code (printed). -/
import Derived.Test.YtgogjcbfnnhaoaaM3
import Derived.Test.YtgogjcbfnnhaoaaProg
set_option linter.unusedSimpArgs false
set_option linter.unusedVariables false
namespace Go.Proofs.Ytgogjcbfnnhaoaa
open Go
def H0 : Hint := .mk .plain []
abbrev Yt1 : Ty := .pair (.int .i64) (.pair (.slice (.agg (.pair (.int .i64) (.int .i64)))) (.slice (.int .i64)))
abbrev Yd1 := Int × ((List (Int × Int)) × (List Int))
abbrev Yt2 : Ty := .pair (.int .u64) (.pair (.int .u64) (.pair (.int .u64) (.int .u64)))
abbrev Yd2 := Int × (Int × (Int × Int))
abbrev Yt3 : Ty := .pair (.int .i64) (.pair (.int .i64) (.pair (.int .i64) (.int .i64)))
abbrev Yd3 := Int × (Int × (Int × Int))
abbrev Yt4 : Ty := .pair (.int .i64) Yt3
abbrev Yd4 := Int × Yd3
abbrev Yt5 : Ty := .pair .bool (.pair .bool (.pair .bool .bool))
abbrev Yd5 := Bool × (Bool × (Bool × Bool))
abbrev Yt6 : Ty := .pair (.agg Yt5) (.pair (.slice (.slice (.int .u8))) .bool)
abbrev Yd6 := Yd5 × ((List (List Int)) × Bool)
abbrev Yt7 : Ty := .pair (.int .i64) Yt6
abbrev Yd7 := Int × Yd6
abbrev Yt8 : Ty := .pair (.int .i64) Yt7
abbrev Yd8 := Int × Yd7
abbrev Yt9 : Ty := .pair (.agg (.pair (.int .i64) (.int .i64))) Yt8
abbrev Yd9 := (Int × Int) × Yd8
abbrev Yt10 : Ty := .pair (.int .i64) Yt9
abbrev Yd10 := Int × Yd9
abbrev Yt11 : Ty := .pair (.int .i64) (.pair (.int .i64) (.slice (.agg (.pair (.int .i64) (.int .i64)))))
abbrev Yd11 := Int × (Int × (List (Int × Int)))
abbrev Yt12 : Ty := .pair (.slice (.int .i64)) Yt11
abbrev Yd12 := (List Int) × Yd11
abbrev Yt13 : Ty := .pair (.int .i64) Yt12
abbrev Yd13 := Int × Yd12
abbrev Yt14 : Ty := .pair (.slice (.int .i64)) Yt13
abbrev Yd14 := (List Int) × Yd13
abbrev Yt15 : Ty := .pair (.int .i64) Yt14
abbrev Yd15 := Int × Yd14
abbrev Yt16 : Ty := .pair (.int .i64) Yt15
abbrev Yd16 := Int × Yd15
abbrev Yt17 : Ty := .pair (.int .i64) Yt16
abbrev Yd17 := Int × Yd16
abbrev Yt18 : Ty := .pair (.int .i64) Yt17
abbrev Yd18 := Int × Yd17
abbrev Yt19 : Ty := .pair (.int .i64) Yt18
abbrev Yd19 := Int × Yd18
abbrev Yt20 : Ty := .pair (.slice (.int .i64)) Yt19
abbrev Yd20 := (List Int) × Yd19
abbrev Yt21 : Ty := .pair (.slice (.agg Yt10)) Yt20
abbrev Yd21 := (List Yd10) × Yd20
abbrev Yt22 : Ty := .pair (.int .i64) Yt21
abbrev Yd22 := Int × Yd21
abbrev Yt23 : Ty := .pair (.int .i64) Yt22
abbrev Yd23 := Int × Yd22
abbrev Yt24 : Ty := .pair (.slice (.agg Yt1)) Yt23
abbrev Yd24 := (List Yd1) × Yd23
abbrev Yt25 : Ty := .pair (.int .i64) Yt24
abbrev Yd25 := Int × Yd24
abbrev Yt26 : Ty := .pair (.int .i64) Yt25
abbrev Yd26 := Int × Yd25
abbrev Yt27 : Ty := .pair (.int .i64) Yt26
abbrev Yd27 := Int × Yd26
abbrev Yt28 : Ty := .pair (.int .i64) Yt27
abbrev Yd28 := Int × Yd27
abbrev Yt29 : Ty := .pair (.slice (.int .i64)) Yt28
abbrev Yd29 := (List Int) × Yd28
abbrev Yt30 : Ty := .pair (.slice (.agg Yt3)) Yt29
abbrev Yd30 := (List Yd3) × Yd29
abbrev Yt31 : Ty := .pair (.int .i64) Yt30
abbrev Yd31 := Int × Yd30
abbrev Yt32 : Ty := .pair (.slice (.agg Yt4)) Yt31
abbrev Yd32 := (List Yd4) × Yd31
abbrev Yt33 : Ty := .pair (.int .i64) Yt32
abbrev Yd33 := Int × Yd32
abbrev Yt34 : Ty := .pair (.int .i64) Yt33
abbrev Yd34 := Int × Yd33
abbrev Yt35 : Ty := .pair (.int .i64) Yt34
abbrev Yd35 := Int × Yd34
abbrev Yt36 : Ty := .pair (.int .i64) Yt35
abbrev Yd36 := Int × Yd35
abbrev Yt37 : Ty := .pair (.int .i64) Yt36
abbrev Yd37 := Int × Yd36
abbrev Yt38 : Ty := .pair (.int .i64) Yt37
abbrev Yd38 := Int × Yd37
abbrev Yt39 : Ty := .pair (.slice (.int .i64)) (.pair (.int .i64) (.pair (.slice (.int .i64)) (.int .i64)))
abbrev Yd39 := (List Int) × (Int × ((List Int) × Int))
abbrev Yt40 : Ty := .pair (.int .i64) Yt39
abbrev Yd40 := Int × Yd39
abbrev Yt41 : Ty := .pair (.int .i64) Yt40
abbrev Yd41 := Int × Yd40
abbrev Yt42 : Ty := .pair (.int .i64) Yt41
abbrev Yd42 := Int × Yd41
abbrev Yt43 : Ty := .pair (.int .i64) Yt42
abbrev Yd43 := Int × Yd42
abbrev Yt44 : Ty := .pair (.int .i64) Yt43
abbrev Yd44 := Int × Yd43
abbrev Yt45 : Ty := .pair (.slice (.int .i64)) Yt44
abbrev Yd45 := (List Int) × Yd44
abbrev Yt46 : Ty := .pair (.slice (.agg Yt10)) Yt45
abbrev Yd46 := (List Yd10) × Yd45
abbrev Yt47 : Ty := .pair (.int .i64) Yt46
abbrev Yd47 := Int × Yd46
abbrev Yt48 : Ty := .pair (.int .i64) Yt47
abbrev Yd48 := Int × Yd47
abbrev Yt49 : Ty := .pair (.slice (.agg Yt1)) Yt48
abbrev Yd49 := (List Yd1) × Yd48
abbrev Yt50 : Ty := .pair (.int .i64) Yt49
abbrev Yd50 := Int × Yd49
abbrev Yt51 : Ty := .pair (.int .i64) Yt50
abbrev Yd51 := Int × Yd50
abbrev Yt52 : Ty := .pair (.int .i64) Yt51
abbrev Yd52 := Int × Yd51
abbrev Yt53 : Ty := .pair (.int .i64) Yt52
abbrev Yd53 := Int × Yd52
abbrev Yt54 : Ty := .pair (.slice (.int .i64)) Yt53
abbrev Yd54 := (List Int) × Yd53
abbrev Yt55 : Ty := .pair (.slice (.agg Yt3)) Yt54
abbrev Yd55 := (List Yd3) × Yd54
abbrev Yt56 : Ty := .pair (.int .i64) Yt55
abbrev Yd56 := Int × Yd55
abbrev Yt57 : Ty := .pair (.slice (.agg Yt4)) Yt56
abbrev Yd57 := (List Yd4) × Yd56
abbrev Yt58 : Ty := .pair (.int .i64) Yt57
abbrev Yd58 := Int × Yd57
abbrev Yt59 : Ty := .pair (.int .i64) Yt58
abbrev Yd59 := Int × Yd58
abbrev Yt60 : Ty := .pair (.int .i64) Yt59
abbrev Yd60 := Int × Yd59
abbrev Yt61 : Ty := .pair (.int .i64) Yt60
abbrev Yd61 := Int × Yd60
abbrev Yt62 : Ty := .pair (.int .i64) Yt61
abbrev Yd62 := Int × Yd61
abbrev Yt63 : Ty := .pair (.int .i64) Yt62
abbrev Yd63 := Int × Yd62
abbrev Yt64 : Ty := .pair .bool Yt63
abbrev Yd64 := Bool × Yd63
abbrev Yt65 : Ty := .pair (.int .i64) Yt4
abbrev Yd65 := Int × Yd4
abbrev Yt66 : Ty := .pair (.int .i64) Yt65
abbrev Yd66 := Int × Yd65
abbrev Yt67 : Ty := .pair (.int .i64) Yt66
abbrev Yd67 := Int × Yd66
abbrev Yt68 : Ty := .pair (.int .i64) Yt67
abbrev Yd68 := Int × Yd67
abbrev Yt69 : Ty := .pair (.int .i64) Yt68
abbrev Yd69 := Int × Yd68
abbrev Yt70 : Ty := .pair (.int .i64) Yt69
abbrev Yd70 := Int × Yd69
abbrev Yt71 : Ty := .pair (.int .i64) Yt70
abbrev Yd71 := Int × Yd70
abbrev Yt72 : Ty := .pair (.int .i64) Yt71
abbrev Yd72 := Int × Yd71
abbrev Yt73 : Ty := .pair (.int .i64) Yt72
abbrev Yd73 := Int × Yd72
abbrev Yt74 : Ty := .pair .bool Yt73
abbrev Yd74 := Bool × Yd73
abbrev Yt75 : Ty := .pair (.agg (.pair (.int .u64) (.int .u64))) (.agg (.pair (.int .u64) (.int .u64)))
abbrev Yd75 := (Int × Int) × (Int × Int)
abbrev Yt76 : Ty := .pair (.agg (.pair (.int .u64) (.int .u64))) (.pair (.int .u64) (.int .i64))
abbrev Yd76 := (Int × Int) × (Int × Int)
abbrev Yt77 : Ty := .pair (.int .u64) (.pair (.int .u64) (.pair (.int .u64) (.int .i64)))
abbrev Yd77 := Int × (Int × (Int × Int))
abbrev Yt78 : Ty := .pair (.int .u64) Yt77
abbrev Yd78 := Int × Yd77
abbrev Yt79 : Ty := .pair (.int .i64) (.pair (.int .i64) (.pair (.int .i64) .bool))
abbrev Yd79 := Int × (Int × (Int × Bool))
abbrev Yt80 : Ty := .pair (.slice (.agg Yt1)) (.slice (.agg Yt4))
abbrev Yd80 := (List Yd1) × (List Yd4)
abbrev Yt81 : Ty := .pair (.agg Yt80) (.agg Yt1)
abbrev Yd81 := Yd80 × Yd1
abbrev Yt82 : Ty := .pair (.int .i64) (.agg Yt4)
abbrev Yd82 := Int × Yd4
abbrev Yt83 : Ty := .pair (.agg Yt80) Yt82
abbrev Yd83 := Yd80 × Yd82
abbrev Yt84 : Ty := .pair (.agg Yt73) (.agg Yt4)
abbrev Yd84 := Yd73 × Yd4
abbrev Yt85 : Ty := .pair (.agg Yt73) (.agg Yt80)
abbrev Yd85 := Yd73 × Yd80
abbrev Yt86 : Ty := .pair (.agg Yt80) (.pair (.int .i64) (.int .i64))
abbrev Yd86 := Yd80 × (Int × Int)
abbrev Yt87 : Ty := .pair (.slice (.agg Yt3)) (.pair (.slice (.int .i64)) (.pair (.slice (.int .i64)) (.slice (.int .i64))))
abbrev Yd87 := (List Yd3) × ((List Int) × ((List Int) × (List Int)))
abbrev Yt88 : Ty := .pair (.slice (.agg Yt10)) Yt87
abbrev Yd88 := (List Yd10) × Yd87
abbrev Yt89 : Ty := .pair (.int .i64) Yt88
abbrev Yd89 := Int × Yd88
abbrev Yt90 : Ty := .pair (.int .i64) Yt89
abbrev Yd90 := Int × Yd89
abbrev Yt91 : Ty := .pair (.int .i64) Yt90
abbrev Yd91 := Int × Yd90
abbrev Yt92 : Ty := .pair (.int .i64) Yt91
abbrev Yd92 := Int × Yd91
abbrev Yt93 : Ty := .pair (.int .i64) Yt92
abbrev Yd93 := Int × Yd92
abbrev Yt94 : Ty := .pair (.int .i64) Yt93
abbrev Yd94 := Int × Yd93
abbrev Yt95 : Ty := .pair (.slice (.int .i64)) Yt94
abbrev Yd95 := (List Int) × Yd94
abbrev Yt96 : Ty := .pair (.slice (.agg Yt4)) Yt95
abbrev Yd96 := (List Yd4) × Yd95
abbrev Yt97 : Ty := .pair (.slice (.agg Yt1)) Yt96
abbrev Yd97 := (List Yd1) × Yd96
abbrev Yt98 : Ty := .pair (.int .i64) Yt97
abbrev Yd98 := Int × Yd97
abbrev Yt99 : Ty := .pair (.int .i64) Yt98
abbrev Yd99 := Int × Yd98
abbrev Yt100 : Ty := .pair (.int .i64) Yt99
abbrev Yd100 := Int × Yd99
abbrev Yt101 : Ty := .pair (.int .i64) Yt100
abbrev Yd101 := Int × Yd100
abbrev Yt102 : Ty := .pair (.int .i64) Yt101
abbrev Yd102 := Int × Yd101
abbrev Yt103 : Ty := .pair (.int .i64) Yt102
abbrev Yd103 := Int × Yd102
abbrev Yt104 : Ty := .pair (.int .i64) Yt103
abbrev Yd104 := Int × Yd103
abbrev Yt105 : Ty := .pair (.int .i64) Yt104
abbrev Yd105 := Int × Yd104
abbrev Yt106 : Ty := .pair (.int .i64) Yt105
abbrev Yd106 := Int × Yd105
abbrev Yt107 : Ty := .pair (.int .i64) Yt106
abbrev Yd107 := Int × Yd106
abbrev Yt108 : Ty := .pair (.int .i64) Yt107
abbrev Yd108 := Int × Yd107
abbrev Yt109 : Ty := .pair (.int .i64) Yt108
abbrev Yd109 := Int × Yd108
abbrev Yt110 : Ty := .pair (.int .i64) Yt109
abbrev Yd110 := Int × Yd109
abbrev Yt111 : Ty := .pair (.int .i64) Yt110
abbrev Yd111 := Int × Yd110
abbrev Yt112 : Ty := .pair .bool Yt111
abbrev Yd112 := Bool × Yd111
abbrev Yt113 : Ty := .pair (.agg Yt80) (.pair (.slice (.int .i64)) (.int .i64))
abbrev Yd113 := Yd80 × ((List Int) × Int)
abbrev Yt114 : Ty := .pair (.slice (.agg Yt10)) (.slice (.agg Yt3))
abbrev Yd114 := (List Yd10) × (List Yd3)
abbrev Yt115 : Ty := .pair (.agg (.pair (.int .i64) (.int .i64))) Yt114
abbrev Yd115 := (Int × Int) × Yd114
abbrev Yt116 : Ty := .pair (.agg (.pair (.int .i64) (.int .i64))) Yt115
abbrev Yd116 := (Int × Int) × Yd115
abbrev Yt117 : Ty := .pair (.int .i64) Yt116
abbrev Yd117 := Int × Yd116
abbrev Yt118 : Ty := .pair (.int .i64) Yt117
abbrev Yd118 := Int × Yd117
abbrev Yt119 : Ty := .pair (.slice (.int .i64)) Yt118
abbrev Yd119 := (List Int) × Yd118
abbrev Yt120 : Ty := .pair (.agg Yt73) (.int .i64)
abbrev Yd120 := Yd73 × Int
abbrev Yt121 : Ty := .pair (.agg Yt119) Yt120
abbrev Yd121 := Yd119 × Yd120
abbrev Yt122 : Ty := .pair (.int .i64) Yt111
abbrev Yd122 := Int × Yd111
abbrev Yt123 : Ty := .pair (.int .i64) Yt122
abbrev Yd123 := Int × Yd122
abbrev Yt124 : Ty := .pair (.int .i64) (.pair .bool (.pair (.int .i64) .bool))
abbrev Yd124 := Int × (Bool × (Int × Bool))
abbrev Yt125 : Ty := .pair (.agg (.pair (.int .i64) (.int .i64))) (.pair (.int .i64) (.int .i64))
abbrev Yd125 := (Int × Int) × (Int × Int)
abbrev Yt126 : Ty := .pair (.agg (.pair (.int .i64) (.int .i64))) (.agg (.pair (.int .i64) (.int .i64)))
abbrev Yd126 := (Int × Int) × (Int × Int)
abbrev Yt127 : Ty := .pair (.int .i64) (.pair (.agg (.pair (.int .i64) (.int .i64))) (.int .i64))
abbrev Yd127 := Int × ((Int × Int) × Int)
abbrev Yt128 : Ty := .pair (.agg (.pair (.int .i64) (.int .i64))) Yt111
abbrev Yd128 := (Int × Int) × Yd111
abbrev Yt129 : Ty := .pair (.int .i64) (.pair (.slice (.int .i64)) (.pair (.int .i64) (.int .i64)))
abbrev Yd129 := Int × ((List Int) × (Int × Int))
abbrev Yt130 : Ty := .pair (.slice (.int .i64)) Yt129
abbrev Yd130 := (List Int) × Yd129
abbrev Yt131 : Ty := .pair (.int .i64) Yt130
abbrev Yd131 := Int × Yd130
abbrev Yt132 : Ty := .pair (.int .i64) Yt131
abbrev Yd132 := Int × Yd131
abbrev Yt133 : Ty := .pair (.int .i64) Yt132
abbrev Yd133 := Int × Yd132
abbrev Yt134 : Ty := .pair (.int .i64) Yt133
abbrev Yd134 := Int × Yd133
abbrev Yt135 : Ty := .pair (.int .i64) Yt134
abbrev Yd135 := Int × Yd134
abbrev Yt136 : Ty := .pair (.slice (.int .i64)) Yt135
abbrev Yd136 := (List Int) × Yd135
abbrev Yt137 : Ty := .pair (.slice (.agg Yt10)) Yt136
abbrev Yd137 := (List Yd10) × Yd136
abbrev Yt138 : Ty := .pair (.int .i64) Yt137
abbrev Yd138 := Int × Yd137
abbrev Yt139 : Ty := .pair (.int .i64) Yt138
abbrev Yd139 := Int × Yd138
abbrev Yt140 : Ty := .pair (.slice (.agg Yt1)) Yt139
abbrev Yd140 := (List Yd1) × Yd139
abbrev Yt141 : Ty := .pair (.int .i64) Yt140
abbrev Yd141 := Int × Yd140
abbrev Yt142 : Ty := .pair (.int .i64) Yt141
abbrev Yd142 := Int × Yd141
abbrev Yt143 : Ty := .pair (.int .i64) Yt142
abbrev Yd143 := Int × Yd142
abbrev Yt144 : Ty := .pair (.int .i64) Yt143
abbrev Yd144 := Int × Yd143
abbrev Yt145 : Ty := .pair (.slice (.int .i64)) Yt144
abbrev Yd145 := (List Int) × Yd144
abbrev Yt146 : Ty := .pair (.slice (.agg Yt3)) Yt145
abbrev Yd146 := (List Yd3) × Yd145
abbrev Yt147 : Ty := .pair (.int .i64) Yt146
abbrev Yd147 := Int × Yd146
abbrev Yt148 : Ty := .pair (.slice (.agg Yt4)) Yt147
abbrev Yd148 := (List Yd4) × Yd147
abbrev Yt149 : Ty := .pair (.int .i64) Yt148
abbrev Yd149 := Int × Yd148
abbrev Yt150 : Ty := .pair (.int .i64) Yt149
abbrev Yd150 := Int × Yd149
abbrev Yt151 : Ty := .pair (.int .i64) Yt150
abbrev Yd151 := Int × Yd150
abbrev Yt152 : Ty := .pair (.int .i64) Yt151
abbrev Yd152 := Int × Yd151
abbrev Yt153 : Ty := .pair (.int .i64) Yt152
abbrev Yd153 := Int × Yd152
abbrev Yt154 : Ty := .pair (.int .i64) Yt153
abbrev Yd154 := Int × Yd153
abbrev Yt155 : Ty := .pair (.agg Yt4) (.int .i64)
abbrev Yd155 := Yd4 × Int
abbrev Yt156 : Ty := .pair (.slice (.agg Yt4)) (.int .i64)
abbrev Yd156 := (List Yd4) × Int
abbrev Yt157 : Ty := .pair (.agg Yt80) (.int .i64)
abbrev Yd157 := Yd80 × Int
abbrev Yt158 : Ty := .pair (.agg Yt119) (.agg Yt3)
abbrev Yd158 := Yd119 × Yd3
abbrev Yt159 : Ty := .pair (.agg Yt80) Yt158
abbrev Yd159 := Yd80 × Yd158
abbrev Yt160 : Ty := .pair (.agg Yt3) Yt122
abbrev Yd160 := Yd3 × Yd122
abbrev Yt161 : Ty := .pair (.slice (.int .i64)) (.pair (.int .i64) (.pair (.int .i64) (.int .i64)))
abbrev Yd161 := (List Int) × (Int × (Int × Int))
abbrev Yt162 : Ty := .pair (.int .i64) Yt161
abbrev Yd162 := Int × Yd161
abbrev Yt163 : Ty := .pair (.slice (.int .i64)) Yt162
abbrev Yd163 := (List Int) × Yd162
abbrev Yt164 : Ty := .pair (.int .i64) Yt163
abbrev Yd164 := Int × Yd163
abbrev Yt165 : Ty := .pair (.int .i64) Yt164
abbrev Yd165 := Int × Yd164
abbrev Yt166 : Ty := .pair (.int .i64) Yt165
abbrev Yd166 := Int × Yd165
abbrev Yt167 : Ty := .pair (.int .i64) Yt166
abbrev Yd167 := Int × Yd166
abbrev Yt168 : Ty := .pair (.int .i64) Yt167
abbrev Yd168 := Int × Yd167
abbrev Yt169 : Ty := .pair (.slice (.int .i64)) Yt168
abbrev Yd169 := (List Int) × Yd168
abbrev Yt170 : Ty := .pair (.slice (.agg Yt10)) Yt169
abbrev Yd170 := (List Yd10) × Yd169
abbrev Yt171 : Ty := .pair (.int .i64) Yt170
abbrev Yd171 := Int × Yd170
abbrev Yt172 : Ty := .pair (.int .i64) Yt171
abbrev Yd172 := Int × Yd171
abbrev Yt173 : Ty := .pair (.slice (.agg Yt1)) Yt172
abbrev Yd173 := (List Yd1) × Yd172
abbrev Yt174 : Ty := .pair (.int .i64) Yt173
abbrev Yd174 := Int × Yd173
abbrev Yt175 : Ty := .pair (.int .i64) Yt174
abbrev Yd175 := Int × Yd174
abbrev Yt176 : Ty := .pair (.int .i64) Yt175
abbrev Yd176 := Int × Yd175
abbrev Yt177 : Ty := .pair (.int .i64) Yt176
abbrev Yd177 := Int × Yd176
abbrev Yt178 : Ty := .pair (.slice (.int .i64)) Yt177
abbrev Yd178 := (List Int) × Yd177
abbrev Yt179 : Ty := .pair (.slice (.agg Yt3)) Yt178
abbrev Yd179 := (List Yd3) × Yd178
abbrev Yt180 : Ty := .pair (.int .i64) Yt179
abbrev Yd180 := Int × Yd179
abbrev Yt181 : Ty := .pair (.slice (.agg Yt4)) Yt180
abbrev Yd181 := (List Yd4) × Yd180
abbrev Yt182 : Ty := .pair (.int .i64) Yt181
abbrev Yd182 := Int × Yd181
abbrev Yt183 : Ty := .pair (.int .i64) Yt182
abbrev Yd183 := Int × Yd182
abbrev Yt184 : Ty := .pair (.int .i64) Yt183
abbrev Yd184 := Int × Yd183
abbrev Yt185 : Ty := .pair (.int .i64) Yt184
abbrev Yd185 := Int × Yd184
abbrev Yt186 : Ty := .pair (.int .i64) Yt185
abbrev Yd186 := Int × Yd185
abbrev Yt187 : Ty := .pair (.int .i64) Yt186
abbrev Yd187 := Int × Yd186
abbrev Yt188 : Ty := .pair (.agg (.pair (.int .i64) (.pair (.int .i64) (.int .i64)))) (.int .i64)
abbrev Yd188 := (Int × (Int × Int)) × Int
abbrev Yt189 : Ty := .pair (.agg Yt80) (.agg Yt119)
abbrev Yd189 := Yd80 × Yd119
abbrev Yt190 : Ty := .pair (.agg Yt73) Yt189
abbrev Yd190 := Yd73 × Yd189
abbrev Yt191 : Ty := .pair (.slice (.agg Yt3)) (.int .i64)
abbrev Yd191 := (List Yd3) × Int
abbrev Yt192 : Ty := .pair (.agg Yt119) (.int .i64)
abbrev Yd192 := Yd119 × Int
abbrev Yt193 : Ty := .pair (.agg Yt80) Yt192
abbrev Yd193 := Yd80 × Yd192
abbrev Yt194 : Ty := .pair (.agg Yt73) Yt193
abbrev Yd194 := Yd73 × Yd193
abbrev Yt195 : Ty := .pair (.slice (.agg Yt10)) (.int .i64)
abbrev Yd195 := (List Yd10) × Int
abbrev Yt196 : Ty := .pair (.agg Yt119) (.pair (.slice (.int .i64)) (.agg (.pair (.slice (.int .i64)) (.slice (.int .i64)))))
abbrev Yd196 := Yd119 × ((List Int) × ((List Int) × (List Int)))
abbrev Yt197 : Ty := .pair (.agg Yt80) Yt196
abbrev Yd197 := Yd80 × Yd196
abbrev Yt198 : Ty := .pair (.agg Yt73) Yt197
abbrev Yd198 := Yd73 × Yd197
def tys : List (Nat × TD) := [
  (2, ⟨some (.int .i64), [.dat (.int .i64) (0 : Int)], .scalar⟩),
  (3, ⟨some (.int .i64), [.dat (.int .i64) (0 : Int)], .scalar⟩),
  (4, ⟨some .bool, [.dat .bool false], .scalar⟩),
  (5, ⟨some (.int .u8), [.dat (.int .u8) (0 : Int)], .scalar⟩),
  (21, ⟨some (.int .i32), [.dat (.int .i32) (0 : Int)], .scalar⟩),
  (23, ⟨some (.agg Yt73), List.replicate 14 (.dat (.int .i64) (0 : Int)), .struct [(2, 0, 1), (2, 1, 1), (2, 2, 1), (2, 3, 1), (2, 4, 1), (2, 5, 1), (2, 6, 1), (2, 7, 1), (2, 8, 1), (3, 9, 1), (2, 10, 1), (2, 11, 1), (3, 12, 1), (2, 13, 1)]⟩),
  (24, ⟨some (.slice (.agg Yt1)), [.nil], .slice 53 3 56⟩),
  (25, ⟨some (.slice (.agg Yt4)), [.nil], .slice 76 5 40⟩),
  (27, ⟨some (.agg Yt80), [.nil, .nil], .struct [(24, 0, 1), (25, 1, 1)]⟩),
  (28, ⟨some (.int .u64), [.dat (.int .u64) (0 : Int)], .scalar⟩),
  (29, ⟨none, [.undef], .scalar⟩),
  (30, ⟨some (.slice (.int .i64)), [.nil], .slice 3 1 8⟩),
  (31, ⟨some (.agg (.pair (.int .i64) (.int .i64))), [.dat (.int .i64) (0 : Int), .dat (.int .i64) (0 : Int)], .array 2 2 1⟩),
  (32, ⟨some (.slice (.agg Yt10)), [.nil], .slice 41 11 80⟩),
  (33, ⟨some (.slice (.agg Yt3)), [.nil], .slice 43 4 32⟩),
  (35, ⟨some (.agg Yt119), [.nil, .dat (.int .i64) (0 : Int), .dat (.int .i64) (0 : Int), .dat (.int .i64) (0 : Int), .dat (.int .i64) (0 : Int), .dat (.int .i64) (0 : Int), .dat (.int .i64) (0 : Int), .nil, .nil], .struct [(30, 0, 1), (2, 1, 1), (2, 2, 1), (31, 3, 2), (31, 5, 2), (32, 7, 1), (33, 8, 1)]⟩),
  (38, ⟨some (.agg Yt5), [.dat .bool false, .dat .bool false, .dat .bool false, .dat .bool false], .array 4 4 1⟩),
  (39, ⟨some (.slice (.slice (.int .u8))), [.nil], .slice 65 1 24⟩),
  (41, ⟨some (.agg Yt10), [.dat (.int .i64) (0 : Int), .dat (.int .i64) (0 : Int), .dat (.int .i64) (0 : Int), .dat (.int .i64) (0 : Int), .dat (.int .i64) (0 : Int), .dat .bool false, .dat .bool false, .dat .bool false, .dat .bool false, .nil, .dat .bool false], .struct [(2, 0, 1), (31, 1, 2), (2, 3, 1), (2, 4, 1), (38, 5, 4), (39, 9, 1), (4, 10, 1)]⟩),
  (43, ⟨some (.agg Yt3), [.dat (.int .i64) (0 : Int), .dat (.int .i64) (0 : Int), .dat (.int .i64) (0 : Int), .dat (.int .i64) (0 : Int)], .struct [(3, 0, 1), (3, 1, 1), (3, 2, 1), (2, 3, 1)]⟩),
  (50, ⟨some (.agg (.pair (.int .i64) (.int .i64))), [.dat (.int .i64) (0 : Int), .dat (.int .i64) (0 : Int)], .struct [(2, 0, 1), (2, 1, 1)]⟩),
  (51, ⟨some (.slice (.agg (.pair (.int .i64) (.int .i64)))), [.nil], .slice 50 2 16⟩),
  (53, ⟨some (.agg Yt1), [.dat (.int .i64) (0 : Int), .nil, .nil], .struct [(2, 0, 1), (51, 1, 1), (30, 2, 1)]⟩),
  (65, ⟨some (.slice (.int .u8)), [.nil], .slice 5 1 1⟩),
  (67, ⟨some (.slice (.int .i64)), [.nil], .slice 2 1 8⟩),
  (68, ⟨some (.agg (.pair (.slice (.int .i64)) (.slice (.int .i64)))), [.nil, .nil], .array 2 67 1⟩),
  (70, ⟨some (.agg Yt198), [.dat (.int .i64) (0 : Int), .dat (.int .i64) (0 : Int), .dat (.int .i64) (0 : Int), .dat (.int .i64) (0 : Int), .dat (.int .i64) (0 : Int), .dat (.int .i64) (0 : Int), .dat (.int .i64) (0 : Int), .dat (.int .i64) (0 : Int), .dat (.int .i64) (0 : Int), .dat (.int .i64) (0 : Int), .dat (.int .i64) (0 : Int), .dat (.int .i64) (0 : Int), .dat (.int .i64) (0 : Int), .dat (.int .i64) (0 : Int), .nil, .nil, .nil, .dat (.int .i64) (0 : Int), .dat (.int .i64) (0 : Int), .dat (.int .i64) (0 : Int), .dat (.int .i64) (0 : Int), .dat (.int .i64) (0 : Int), .dat (.int .i64) (0 : Int), .nil, .nil, .nil, .nil, .nil], .struct [(23, 0, 14), (27, 14, 2), (35, 16, 9), (67, 25, 1), (68, 26, 2)]⟩),
  (71, ⟨none, [.nil], .slice 29 1 8⟩),
  (76, ⟨some (.agg Yt4), [.dat (.int .i64) (0 : Int), .dat (.int .i64) (0 : Int), .dat (.int .i64) (0 : Int), .dat (.int .i64) (0 : Int), .dat (.int .i64) (0 : Int)], .struct [(3, 0, 1), (3, 1, 1), (2, 2, 1), (2, 3, 1), (2, 4, 1)]⟩),
  (79, ⟨some (.int .u64), [.dat (.int .u64) (0 : Int)], .scalar⟩),
  (87, ⟨some (.agg (.pair (.int .i64) (.int .i64))), [.dat (.int .i64) (0 : Int), .dat (.int .i64) (0 : Int)], .struct [(2, 0, 1), (2, 1, 1)]⟩),
  (94, ⟨some (.agg (.pair (.int .i64) (.pair (.int .i64) (.int .i64)))), [.dat (.int .i64) (0 : Int), .dat (.int .i64) (0 : Int), .dat (.int .i64) (0 : Int)], .struct [(3, 0, 1), (3, 1, 1), (2, 2, 1)]⟩),
  (103, ⟨some (.slice (.agg (.pair (.int .i64) (.int .i64)))), [.nil], .slice 87 2 16⟩),
  (112, ⟨some (.int .u16), [.dat (.int .u16) (0 : Int)], .scalar⟩),
  (114, ⟨some (.int .u32), [.dat (.int .u32) (0 : Int)], .scalar⟩),
  (121, ⟨some (.agg (.pair (.int .u64) (.int .u64))), [.dat (.int .u64) (0 : Int), .dat (.int .u64) (0 : Int)], .struct [(28, 0, 1), (28, 1, 1)]⟩),
  (141, ⟨some (.int .i16), [.dat (.int .i16) (0 : Int)], .scalar⟩)]
theorem tys_ok : tysB Try.prog tys = true := by kernel_rfl
end Go.Proofs.Ytgogjcbfnnhaoaa
