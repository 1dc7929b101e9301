/- The functional reading of the code (printed). -/
import Derived.Test.YthfjpkdadjemcaaGreatM4
import Derived.Test.YthfjpkdadjemcaaGreatProg
set_option linter.unusedSimpArgs false
set_option linter.unusedVariables false
namespace Go.Proofs.YthfjpkdadjemcaaGreat
open Go
def H0:Hint:=.mk .plain []
abbrev Yt1:Ty:=.pair (.int .i64) (.pair (.slice (.agg (.pair (.int .i64) (.int .i64)))) (.slice (.int .i64)))
abbrev Yd1:=Int×((List (Int×Int))×(List Int))
abbrev Yt2:Ty:=.pair (.int .i64) (.pair (.int .i64) (.pair (.int .i64) (.int .i64)))
abbrev Yd2:=Int×(Int×(Int×Int))
abbrev Yt3:Ty:=.pair (.int .i64) Yt2
abbrev Yd3:=Int×Yd2
abbrev Yt4:Ty:=.pair .bool (.pair .bool (.pair .bool .bool))
abbrev Yd4:=Bool×(Bool×(Bool×Bool))
abbrev Yt5:Ty:=.pair .bool Yt4
abbrev Yd5:=Bool×Yd4
abbrev Yt6:Ty:=.pair (.agg Yt5) .bool
abbrev Yd6:=Yd5×Bool
abbrev Yt7:Ty:=.pair (.int .u16) Yt6
abbrev Yd7:=Int×Yd6
abbrev Yt8:Ty:=.pair (.int .i32) Yt7
abbrev Yd8:=Int×Yd7
abbrev Yt9:Ty:=.pair (.int .i32) Yt8
abbrev Yd9:=Int×Yd8
abbrev AJ9:Ty:=.pair (.agg (.pair (.int .u16) (.int .u16))) Yt9
abbrev S1:=(Int×Int)×Yd9
abbrev CX7:=Bool×((List Int)×(List (Int×Int)))
abbrev CX8:=(List Int)×(List Yd1)
abbrev CX9:=Bool×CX8
abbrev CY0:=(List Int)×(List Yd3)
abbrev CY1:=Bool×CY0
abbrev CY2:=Int×(Int×(Int×Int))
abbrev BL6:=Bool×(Int×(Int×Int))
abbrev CY3:=Bool×BL6
abbrev CY4:=Int×CY3
abbrev CY5:=Int×CY4
abbrev CY6:=Int×CY5
abbrev CY7:=Bool×CY6
abbrev CY8:Ty:=.pair .bool (.pair .bool (.pair (.int .i64) (.int .i64)))
abbrev CY9:=Bool×(Bool×(Int×Int))
abbrev CZ0:Ty:=.pair (.int .i64) CY8
abbrev CZ1:=Int×CY9
abbrev CZ2:Ty:=.pair (.int .i64) CZ0
abbrev CZ3:=Int×CZ1
abbrev Bi0:Ty:=.pair (.int .i64) CZ2
abbrev CZ4:=Int×CZ3
abbrev CZ5:=Bool×CY7
abbrev CZ6:=Int×CZ5
abbrev CZ7:=Int×CZ6
abbrev CZ8:=Int×CZ7
abbrev CZ9:=Int×CZ8
abbrev Ca0:=Bool×CZ9
abbrev Ca1:=Bool×Ca0
abbrev Ca2:=(List Yd1)×Bool
abbrev Ca3:=Int×Ca2
abbrev Ca4:=Int×Ca3
abbrev Ca5:=Int×Ca4
abbrev Ca6:=(List Yd3)×Ca5
abbrev Ca7:=Int×Ca6
abbrev Ca8:=Int×(List Yd1)
abbrev Ca9:=Int×Ca8
abbrev Cb0:=(List Yd3)×Ca9
abbrev Cb1:=Bool×Cb0
abbrev Cb2:=Int×Cb1
abbrev Bi1:=Int×Cb2
abbrev Cb3:=Int×(Int×(Bool×Int))
abbrev Cb4:=Int×Cb3
abbrev Bi2:Ty:=.pair (.int .i64) (.pair (.int .i64) (.pair (.int .i64) .bool))
abbrev Bi3:=Int×(Int×(Int×Bool))
abbrev Cb5:Ty:=.pair (.int .i64) Bi2
abbrev Bi4:=Int×Bi3
abbrev Cb6:=Int×Bi4
abbrev Cb7:=Bool×Cb6
abbrev Au1:Ty:=.pair (.int .i64) Yt3
abbrev BL7:=Int×Yd3
abbrev Cb8:Ty:=.pair (.int .i64) Au1
abbrev Cb9:=Int×BL7
abbrev Cc0:Ty:=.pair (.int .i64) Cb8
abbrev Cc1:=Int×Cb9
abbrev Cc2:Ty:=.pair (.int .i64) Cc0
abbrev Cc3:=Int×Cc1
abbrev Bi5:Ty:=.pair (.int .i64) Cc2
abbrev Bi6:=Int×Cc3
abbrev Bi7:Ty:=.pair (.int .i64) Bi5
abbrev Bi8:=Int×Bi6
abbrev BL8:Ty:=.pair (.int .i64) Bi7
abbrev Bi9:=Int×Bi8
abbrev I3:Ty:=.pair (.int .i64) (.agg BL8)
abbrev E2:=Int×Bi9
abbrev Cc4:=Bool×Yd2
abbrev X6:Ty:=.pair (.agg (.pair (.int .i64) (.int .i64))) (.agg (.pair (.int .i64) (.int .i64)))
abbrev Au2:=(Int×Int)×(Int×Int)
abbrev Cc5:Ty:=.pair (.agg X6) Yt2
abbrev Cc6:=Au2×Yd2
abbrev Cc7:Ty:=.pair (.int .i64) Cc5
abbrev Cc8:=Int×Cc6
abbrev Cc9:Ty:=.pair (.agg (.pair (.int .i64) (.int .i64))) Cc7
abbrev Cd0:=(Int×Int)×Cc8
abbrev Cd1:Ty:=.pair .bool Cc9
abbrev Cd2:=Bool×Cd0
abbrev Cd3:Ty:=.pair .bool Cd1
abbrev Cd4:=Bool×Cd2
abbrev Cd5:Ty:=.pair .bool Cd3
abbrev Cd6:=Bool×Cd4
abbrev Cd7:Ty:=.pair .bool Cd5
abbrev Cd8:=Bool×Cd6
abbrev Cd9:Ty:=.pair .bool Cd7
abbrev Ce0:=Bool×Cd8
abbrev Ce1:Ty:=.pair (.agg (.pair (.int .i64) (.int .i64))) Cd9
abbrev Ce2:=(Int×Int)×Ce0
abbrev Ce3:Ty:=.pair .bool Ce1
abbrev Ce4:=Bool×Ce2
abbrev Ce5:Ty:=.pair .bool Ce3
abbrev Ce6:=Bool×Ce4
abbrev Ce7:Ty:=.pair (.int .i64) Ce5
abbrev Ce8:=Int×Ce6
abbrev Ce9:Ty:=.pair (.slice (.slice (.int .i64))) Ce7
abbrev Cf0:=(List (List Int))×Ce8
abbrev Cf1:Ty:=.pair (.int .i64) Ce9
abbrev Cf2:=Int×Cf0
abbrev Cf3:Ty:=.pair (.int .i64) Cf1
abbrev Cf4:=Int×Cf2
abbrev Cf5:Ty:=.pair (.agg (.pair (.int .i64) (.int .i64))) Cf3
abbrev Cf6:=(Int×Int)×Cf4
abbrev Cf7:Ty:=.pair (.int .i64) Cf5
abbrev Cf8:=Int×Cf6
abbrev Cf9:Ty:=.pair (.agg (.pair (.int .i64) (.int .i64))) Cf7
abbrev Cg0:=(Int×Int)×Cf8
abbrev Cg1:Ty:=.pair (.int .i64) Cf9
abbrev Cg2:=Int×Cg0
abbrev Cg3:Ty:=.pair (.int .i64) Cg1
abbrev Cg4:=Int×Cg2
abbrev S2:Ty:=.pair (.int .i64) Cg3
abbrev M4:=Int×Cg4
abbrev V6:Ty:=.pair (.int .i64) (.slice (.agg I3))
abbrev X7:=Int×(List E2)
abbrev E1:Ty:=.pair (.slice (.agg Yt1)) (.slice (.agg Yt3))
abbrev E6:=(List Yd1)×(List Yd3)
abbrev Cg5:Ty:=.pair (.agg E1) (.agg I3)
abbrev Cg6:Ty:=.pair (.agg V6) Cg5
abbrev Bj0:Ty:=.pair (.agg E1) (.slice (.agg (.pair (.slice (.slice (.int .u8))) .bool)))
abbrev Cg7:Ty:=.pair (.int .i64) BL8
abbrev Cg8:=Int×Bi9
abbrev C7:Ty:=.pair (.int .i64) Cg7
abbrev C8:=Int×Cg8
abbrev Cg9:Ty:=.pair (.agg Yt1) (.int .i64)
abbrev Bj1:Ty:=.pair (.agg C7) (.agg E1)
abbrev Ch0:Ty:=.pair (.int .i64) (.pair (.int .i64) (.pair (.slice (.int .u8)) .bool))
abbrev Ch1:Ty:=.pair (.agg (.pair (.int .i64) (.int .i64))) (.pair (.slice (.int .u8)) .bool)
abbrev Ch2:=(Int×Int)×((List Int)×Bool)
abbrev Ch3:Ty:=.pair (.slice (.agg (.pair (.int .i64) (.int .i64)))) (.pair (.slice (.int .u8)) .bool)
abbrev Ch4:=(List (Int×Int))×((List Int)×Bool)
abbrev Ch5:=Bool×((List (Int×Int))×(List Int))
abbrev Ch6:=Int×Ch5
abbrev Ch7:=Int×(Bool×((List Int)×(List Int)))
abbrev Ch8:Ty:=.pair (.agg Yt1) (.pair (.slice (.int .u8)) .bool)
abbrev Ch9:=Yd1×((List Int)×Bool)
abbrev Ci0:Ty:=.pair (.slice (.agg Yt1)) (.pair (.slice (.int .u8)) .bool)
abbrev Ci1:=(List Yd1)×((List Int)×Bool)
abbrev Ci2:=(List Yd1)×(List Int)
abbrev Ci3:=Bool×Ci2
abbrev Ci4:=Int×Ci3
abbrev Ci5:Ty:=.pair (.agg Yt3) (.pair (.slice (.int .u8)) .bool)
abbrev Ci6:=Yd3×((List Int)×Bool)
abbrev Ci7:Ty:=.pair (.slice (.agg Yt3)) (.pair (.slice (.int .u8)) .bool)
abbrev Ci8:=(List Yd3)×((List Int)×Bool)
abbrev Ci9:=(List Yd3)×(List Int)
abbrev Cj0:=Bool×Ci9
abbrev Cj1:=Int×Cj0
abbrev Cj2:Ty:=.pair (.agg E1) (.agg Yt1)
abbrev Cj3:Ty:=.pair (.int .i64) (.agg Yt3)
abbrev Cj4:Ty:=.pair (.agg E1) Cj3
abbrev Bj2:Ty:=.pair (.agg E1) (.int .i64)
abbrev Cj5:=E6×Int
abbrev Z7:Ty:=.pair .bool C7
abbrev Z8:=Bool×C8
abbrev BL9:Ty:=.pair (.agg (.pair (.int .u64) (.int .u64))) (.agg (.pair (.int .u64) (.int .u64)))
abbrev Cj6:Ty:=.pair (.agg (.pair (.int .u64) (.int .u64))) (.pair (.int .u64) (.int .i64))
abbrev Cj7:=(Int×Int)×(Int×Int)
abbrev Cj8:=Int×(Int×(Int×Int))
abbrev Cj9:=Int×Cj8
abbrev Bj3:Ty:=.pair (.agg C7) (.agg Yt3)
abbrev Ck0:Ty:=.pair (.slice (.agg (.pair (.int .i64) (.int .i64)))) (.agg (.pair (.int .i64) (.int .i64)))
abbrev Ck1:Ty:=.pair .bool Cb5
abbrev Ck2:=Bool×Bi4
abbrev Ck3:Ty:=.pair .bool Ck1
abbrev Ck4:=Bool×Ck2
abbrev Ck5:Ty:=.pair .bool Ck3
abbrev Ck6:=Bool×Ck4
abbrev Ck7:Ty:=.pair (.int .i64) Ck5
abbrev Ck8:=Int×Ck6
abbrev Ck9:Ty:=.pair (.int .i64) Ck7
abbrev Cl0:=Int×Ck8
abbrev Cl1:Ty:=.pair (.int .i64) Ck9
abbrev Cl2:=Int×Cl0
abbrev Cl3:Ty:=.pair (.int .i64) Cl1
abbrev Cl4:=Int×Cl2
abbrev Cl5:Ty:=.pair (.int .i64) Cl3
abbrev Cl6:=Int×Cl4
abbrev Cl7:Ty:=.pair .bool Cl5
abbrev Cl8:=Bool×Cl6
abbrev Cl9:Ty:=.pair (.slice (.agg I3)) Cl7
abbrev Cm0:=(List E2)×Cl8
abbrev Cm1:Ty:=.pair (.int .i64) Cl9
abbrev Cm2:=Int×Cm0
abbrev Cm3:Ty:=.pair (.int .i64) Cm1
abbrev Cm4:=Int×Cm2
abbrev Cm5:Ty:=.pair (.int .i64) Cm3
abbrev Cm6:=Int×Cm4
abbrev Cm7:Ty:=.pair (.int .i64) Cm5
abbrev Cm8:=Int×Cm6
abbrev Cm9:Ty:=.pair (.int .i64) Cm7
abbrev Cn0:=Int×Cm8
abbrev Cn1:Ty:=.pair .bool Cm9
abbrev Cn2:=Bool×Cn0
abbrev Cn3:Ty:=.pair (.int .i64) Cn1
abbrev Cn4:=Int×Cn2
abbrev Cn5:Ty:=.pair (.int .i64) Cn3
abbrev Cn6:=Int×Cn4
abbrev Cn7:Ty:=.pair (.int .i64) Cn5
abbrev Cn8:=Int×Cn6
abbrev Cn9:Ty:=.pair (.int .i64) Cn7
abbrev Co0:=Int×Cn8
abbrev Co1:Ty:=.pair (.int .i64) Cn9
abbrev Co2:=Int×Co0
abbrev Co3:Ty:=.pair (.int .i64) Co1
abbrev Co4:=Int×Co2
abbrev Co5:Ty:=.pair (.int .i64) Co3
abbrev Co6:=Int×Co4
abbrev Co7:Ty:=.pair (.int .i64) Co5
abbrev Co8:=Int×Co6
abbrev Co9:Ty:=.pair (.int .u16) Co7
abbrev Cp0:=Int×Co8
abbrev Cp1:Ty:=.pair .bool Co9
abbrev Cp2:=Bool×Cp0
abbrev Cp3:Ty:=.pair (.int .i64) Cp1
abbrev Cp4:=Int×Cp2
abbrev Cp5:Ty:=.pair (.int .u16) Cp3
abbrev Cp6:=Int×Cp4
abbrev Cp7:Ty:=.pair .bool Cp5
abbrev Cp8:=Bool×Cp6
abbrev Cp9:Ty:=.pair (.slice (.int .i64)) Cp7
abbrev Cq0:=(List Int)×Cp8
abbrev Cq1:Ty:=.pair (.int .i64) Cp9
abbrev Cq2:=Int×Cq0
abbrev Cq3:Ty:=.pair (.int .i64) Cq1
abbrev Cq4:=Int×Cq2
abbrev Cq5:Ty:=.pair (.int .i64) Cq3
abbrev Cq6:=Int×Cq4
abbrev Cq7:Ty:=.pair .bool Cq5
abbrev Cq8:=Bool×Cq6
abbrev Cq9:Ty:=.pair (.slice (.agg Yt3)) Cq7
abbrev Cr0:=(List Yd3)×Cq8
abbrev Cr1:Ty:=.pair (.slice (.agg Yt1)) Cq9
abbrev Cr2:=(List Yd1)×Cr0
abbrev Cr3:Ty:=.pair (.int .i64) Cr1
abbrev Cr4:=Int×Cr2
abbrev Cr5:Ty:=.pair (.int .i64) Cr3
abbrev Cr6:=Int×Cr4
abbrev Cr7:Ty:=.pair (.int .i64) Cr5
abbrev Cr8:=Int×Cr6
abbrev Cr9:Ty:=.pair (.int .i64) Cr7
abbrev Cs0:=Int×Cr8
abbrev Cs1:Ty:=.pair (.int .i64) Cr9
abbrev Cs2:=Int×Cs0
abbrev Cs3:Ty:=.pair (.int .i64) Cs1
abbrev Cs4:=Int×Cs2
abbrev Cs5:Ty:=.pair (.int .i64) Cs3
abbrev Cs6:=Int×Cs4
abbrev Cs7:Ty:=.pair (.int .i64) Cs5
abbrev Cs8:=Int×Cs6
abbrev Cs9:Ty:=.pair (.int .i64) Cs7
abbrev Ct0:=Int×Cs8
abbrev Ct1:Ty:=.pair (.int .i64) Cs9
abbrev Ct2:=Int×Ct0
abbrev Ct3:Ty:=.pair (.int .i64) Ct1
abbrev Ct4:=Int×Ct2
abbrev Ct5:Ty:=.pair (.int .i64) Ct3
abbrev Ct6:=Int×Ct4
abbrev Ct7:Ty:=.pair (.int .i64) Ct5
abbrev Ct8:=Int×Ct6
abbrev X8:Ty:=.pair (.int .i64) Ct7
abbrev AF6:=Int×Ct8
abbrev Ct9:Ty:=.pair (.agg C7) (.slice (.int .u8))
abbrev Cu0:Ty:=.pair (.agg (.pair (.int .i64) (.pair (.int .i64) (.int .i64)))) (.int .i64)
abbrev Cu1:=(Int×(Int×Int))×Int
abbrev Cu2:Ty:=.pair .bool Bi5
abbrev Cu3:=Bool×Bi6
abbrev Cu4:Ty:=.pair .bool Cu2
abbrev Cu5:=Bool×Cu3
abbrev Cu6:Ty:=.pair .bool Cu4
abbrev Cu7:=Bool×Cu5
abbrev Cu8:Ty:=.pair .bool Cu6
abbrev Cu9:=Bool×Cu7
abbrev Cv0:Ty:=.pair .bool Cu8
abbrev Cv1:=Bool×Cu9
abbrev Bj4:Ty:=.pair .bool Cv0
abbrev Cv2:=Bool×Cv1
abbrev Cv3:Ty:=.pair (.slice (.int .u8)) Bj4
abbrev Cv4:Ty:=.pair (.int .i64) Cv3
abbrev Bj5:Ty:=.pair .bool Yt5
abbrev Cv5:=Bool×Yd5
abbrev Cv6:Ty:=.pair (.agg Au1) Yt2
abbrev Cv7:=BL7×Yd2
abbrev X9:Ty:=.pair (.agg Bj5) Cv6
abbrev V7:=Cv5×Cv7
abbrev Cv8:=Bool×Cc4
abbrev Cv9:=Int×Cv8
abbrev Cw0:=Int×Cv9
abbrev Cw1:=Int×Cw0
abbrev Cw2:=Bool×Cw1
abbrev Cw3:=Bool×Cw2
abbrev Cw4:=Int×Cw3
abbrev Cw5:=Int×Cw4
abbrev Cw6:=Int×Cw5
abbrev Cw7:=Int×Cw6
abbrev Cw8:=Bool×Cw7
abbrev Cw9:=Bool×Cw8
abbrev Cx0:Ty:=.pair (.agg X9) (.int .i64)
abbrev Bj6:Ty:=.pair (.agg (.pair .bool (.pair (.int .u16) (.int .i64)))) (.pair (.int .i64) .bool)
abbrev Cx1:=(Bool×(Int×Int))×(Int×Bool)
abbrev BM0:Ty:=.pair (.agg (.pair (.int .i64) (.int .i64))) (.pair (.int .i64) (.int .i64))
abbrev Cx2:Ty:=.pair (.int .i64) (.pair (.agg (.pair (.int .i64) (.int .i64))) (.int .i64))
abbrev Cx3:Ty:=.pair (.agg (.pair .bool (.agg (.pair (.int .i64) (.int .i64))))) X8
abbrev Cx4:=(Bool×(Int×Int))×AF6
abbrev Bj7:Ty:=.pair (.agg X9) X8
abbrev Cx5:Ty:=.pair (.int .i64) Bj7
abbrev BM1:Ty:=.pair (.agg C7) (.int .i64)
abbrev Cx6:Ty:=.pair (.int .i64) (.pair .bool (.pair (.int .i64) .bool))
abbrev Cx7:Ty:=.pair .bool (.agg X9)
abbrev Cx8:Ty:=.pair (.int .i64) Cx7
abbrev Cx9:Ty:=.pair (.int .i64) Cx8
abbrev Cy0:Ty:=.pair (.int .i64) Cx9
abbrev Cy1:Ty:=.pair (.int .i64) Cy0
abbrev Cy2:Ty:=.pair .bool Cy1
abbrev Cy3:Ty:=.pair .bool Cy2
abbrev Cy4:Ty:=.pair .bool Cy3
abbrev Cy5:Ty:=.pair (.int .i64) Cy4
abbrev Cy6:Ty:=.pair (.int .i64) Cy5
abbrev Cy7:Ty:=.pair (.int .i64) Cy6
abbrev Cy8:Ty:=.pair (.int .i64) Cy7
abbrev Cy9:Ty:=.pair (.int .i64) Cy8
abbrev Cz0:Ty:=.pair .bool Cy9
abbrev Cz1:Ty:=.pair (.slice (.agg I3)) Cz0
abbrev Cz2:Ty:=.pair (.int .i64) Cz1
abbrev Cz3:Ty:=.pair (.int .i64) Cz2
abbrev Cz4:Ty:=.pair (.int .i64) Cz3
abbrev Cz5:Ty:=.pair (.int .i64) Cz4
abbrev Cz6:Ty:=.pair (.int .i64) Cz5
abbrev Cz7:Ty:=.pair .bool Cz6
abbrev Cz8:Ty:=.pair (.int .i64) Cz7
abbrev Cz9:Ty:=.pair (.int .i64) Cz8
abbrev DA0:Ty:=.pair (.int .i64) Cz9
abbrev DA1:Ty:=.pair (.int .i64) DA0
abbrev DA2:Ty:=.pair (.int .i64) DA1
abbrev DA3:Ty:=.pair (.int .i64) DA2
abbrev DA4:Ty:=.pair (.int .i64) DA3
abbrev DA5:Ty:=.pair (.int .i64) DA4
abbrev DA6:Ty:=.pair (.int .u16) DA5
abbrev DA7:Ty:=.pair .bool DA6
abbrev DA8:Ty:=.pair (.int .i64) DA7
abbrev DA9:Ty:=.pair (.int .u16) DA8
abbrev DB0:Ty:=.pair .bool DA9
abbrev DB1:Ty:=.pair (.slice (.int .i64)) DB0
abbrev DB2:Ty:=.pair (.int .i64) DB1
abbrev DB3:Ty:=.pair (.int .i64) DB2
abbrev DB4:Ty:=.pair (.int .i64) DB3
abbrev DB5:Ty:=.pair .bool DB4
abbrev DB6:Ty:=.pair (.slice (.agg Yt3)) DB5
abbrev DB7:Ty:=.pair (.slice (.agg Yt1)) DB6
abbrev DB8:Ty:=.pair (.int .i64) DB7
abbrev DB9:Ty:=.pair (.int .i64) DB8
abbrev DC0:Ty:=.pair (.int .i64) DB9
abbrev DC1:Ty:=.pair (.int .i64) DC0
abbrev DC2:Ty:=.pair (.int .i64) DC1
abbrev DC3:Ty:=.pair (.int .i64) DC2
abbrev DC4:Ty:=.pair (.int .i64) DC3
abbrev DC5:Ty:=.pair (.int .i64) DC4
abbrev DC6:Ty:=.pair (.int .i64) DC5
abbrev DC7:Ty:=.pair (.int .i64) DC6
abbrev DC8:Ty:=.pair (.int .i64) DC7
abbrev DC9:Ty:=.pair (.int .i64) DC8
abbrev DD0:Ty:=.pair (.int .i64) DC9
abbrev Bj8:Ty:=.pair (.int .i64) DD0
abbrev Bj9:Ty:=.pair (.agg C7) (.agg (.pair (.int .i64) (.int .i64)))
abbrev DD1:Ty:=.pair (.slice (.agg Yt3)) (.pair .bool (.pair (.int .i64) (.int .i64)))
abbrev DD2:=(List Yd3)×(Bool×(Int×Int))
abbrev DD3:Ty:=.pair (.slice (.agg Yt1)) DD1
abbrev DD4:=(List Yd1)×DD2
abbrev DD5:Ty:=.pair (.int .i64) DD3
abbrev DD6:=Int×DD4
abbrev Au3:Ty:=.pair (.int .i64) DD5
abbrev Bk0:=Int×DD6
abbrev DD7:Ty:=.pair (.int .i64) Au3
abbrev DD8:Ty:=.pair (.int .i64) DD7
abbrev DD9:=Int×Bi1
abbrev DE0:=(List Yd1)×(Bool×Int)
abbrev DE1:=Int×DE0
abbrev DE2:=Int×DE1
abbrev DE3:=Int×DE2
abbrev DE4:=Int×DE3
abbrev DE5:=(List Yd3)×DE4
abbrev DE6:=Int×DE5
abbrev DE7:Ty:=.pair (.agg E1) Au3
abbrev DE8:Ty:=.pair (.agg V6) DE7
abbrev Bk1:Ty:=.pair (.agg E1) (.agg (.pair (.int .i64) (.int .i64)))
abbrev DE9:Ty:=.pair (.agg V6) Bk1
abbrev DF0:Ty:=.pair (.agg C7) (.pair (.int .i64) (.agg (.pair (.int .i64) (.int .i64))))
abbrev DF1:Ty:=.pair (.agg (.pair .bool (.agg (.pair (.int .i64) (.int .i64))))) (.agg (.pair .bool (.agg (.pair (.int .i64) (.int .i64)))))
abbrev DF2:=(Bool×(Int×Int))×(Bool×(Int×Int))
abbrev Ai5:Ty:=.pair (.agg (.pair .bool (.agg (.pair (.int .i64) (.int .i64))))) DF1
abbrev Au4:=(Bool×(Int×Int))×DF2
abbrev DF3:Ty:=.pair (.agg (.pair (.int .i64) (.int .i64))) (.pair .bool .bool)
abbrev DF4:=(Int×Int)×(Bool×Bool)
abbrev DF5:Ty:=.pair (.agg (.pair (.int .i64) (.int .i64))) Bi0
abbrev DF6:Ty:=.pair (.agg (.pair (.int .i64) (.int .i64))) (.slice (.agg (.pair (.int .i64) (.int .i64))))
abbrev AK0:Ty:=.pair .bool (.pair .bool (.agg (.pair (.int .i64) (.int .i64))))
abbrev AK1:=Bool×(Bool×(Int×Int))
abbrev DF7:Ty:=.pair (.int .i64) AK0
abbrev DF8:=Int×AK1
abbrev AQ1:Ty:=.pair (.agg (.pair (.int .i64) (.int .i64))) DF7
abbrev Aa6:=(Int×Int)×DF8
abbrev DF9:=Int×Cb4
abbrev DG0:=Int×DF9
abbrev DG1:=Bool×DG0
abbrev DG2:Ty:=.pair (.agg Ai5) (.agg (.pair .bool (.agg (.pair (.int .i64) (.int .i64)))))
abbrev DG3:Ty:=.pair (.agg (.pair (.int .i64) (.int .i64))) DG2
abbrev DG4:Ty:=.pair (.agg AQ1) X8
abbrev DG5:=Aa6×AF6
abbrev DG6:Ty:=.pair (.int .i64) (.agg V6)
abbrev DG7:=Int×X7
abbrev DG8:Ty:=.pair (.agg (.pair (.int .i64) (.int .i64))) DG6
abbrev DG9:=(Int×Int)×DG7
abbrev DH0:Ty:=.pair (.int .i64) DG8
abbrev DH1:=Int×DG9
abbrev Z9:Ty:=.pair .bool DH0
abbrev l6:=Bool×DH1
abbrev DH2:Ty:=.pair (.agg Z9) (.int .i64)
abbrev DH3:=l6×Int
abbrev DH4:Ty:=.pair (.agg Z9) Bk1
abbrev Bk2:Ty:=.pair .bool X8
abbrev DH5:=Bool×AF6
abbrev BM2:Ty:=.pair (.agg (.pair (.int .i64) (.int .i64))) X8
abbrev DH6:Ty:=.pair (.agg Yt3) (.int .i64)
abbrev DH7:Ty:=.pair (.slice (.agg Yt3)) (.int .i64)
abbrev DH8:Ty:=.pair (.agg V6) (.pair (.agg (.pair (.int .i64) (.int .i64))) (.int .i64))
abbrev DH9:Ty:=.pair (.agg E1) DH8
abbrev DI0:Ty:=.pair (.agg C7) DH9
abbrev DI1:Ty:=.pair (.slice (.int .i64)) X8
abbrev DI2:=(List Int)×AF6
abbrev Bk3:Ty:=.pair (.int .i64) X8
abbrev DI3:Ty:=.pair (.agg (.pair (.int .i64) (.int .i64))) Bk3
abbrev DI4:Ty:=.pair (.agg Z9) DI3
abbrev Ai6:Ty:=.pair (.int .i64) (.pair (.slice (.int .i64)) (.pair .bool .bool))
abbrev Au5:=Int×((List Int)×(Bool×Bool))
abbrev DI5:Ty:=.pair (.agg Ai6) X8
abbrev DI6:=Au5×AF6
abbrev DI7:Ty:=.pair (.agg Z9) BM2
abbrev DI8:Ty:=.pair (.agg X9) DI7
abbrev DI9:Ty:=.pair (.agg E1) (.pair (.int .i64) (.agg (.pair (.int .i64) (.int .i64))))
abbrev DJ0:Ty:=.pair (.agg C7) DI9
abbrev DJ1:Ty:=.pair (.agg (.pair (.int .i64) (.int .i64))) BM0
abbrev Bk4:Ty:=.pair (.agg (.pair .bool (.pair (.int .u16) (.int .i64)))) (.agg (.pair .bool (.pair (.int .u16) (.int .i64))))
abbrev DJ2:=(Bool×(Int×Int))×(Bool×(Int×Int))
abbrev DJ3:Ty:=.pair (.agg Ai6) BM2
abbrev DJ4:Ty:=.pair (.int .i64) (.pair .bool (.pair .bool .bool))
abbrev DJ5:Ty:=.pair (.agg C7) DJ4
abbrev DJ6:Ty:=.pair (.agg (.pair (.int .i64) (.pair (.int .i64) .bool))) DJ5
abbrev DJ7:Ty:=.pair (.agg C7) (.pair (.agg (.pair (.int .i64) (.int .i64))) (.int .i64))
abbrev DJ8:Ty:=.pair (.agg (.pair (.int .i64) .bool)) DJ7
abbrev DJ9:Ty:=.pair (.agg C7) AK0
abbrev DK0:Ty:=.pair (.agg AK0) DJ9
abbrev DK1:Ty:=.pair (.agg (.pair (.int .i64) (.pair (.int .i64) .bool))) (.pair .bool (.pair (.int .i64) .bool))
abbrev DK2:Ty:=.pair (.agg V6) (.int .i64)
abbrev DK3:Ty:=.pair (.slice (.int .i64)) DK2
abbrev DK4:Ty:=.pair (.agg E1) DK3
abbrev DK5:Ty:=.pair .bool Bi7
abbrev DK6:=Bool×Bi8
abbrev DK7:Ty:=.pair .bool DK5
abbrev DK8:=Bool×DK6
abbrev DK9:Ty:=.pair .bool DK7
abbrev DL0:=Bool×DK8
abbrev DL1:Ty:=.pair .bool DK9
abbrev DL2:=Bool×DL0
abbrev DL3:Ty:=.pair .bool DL1
abbrev DL4:=Bool×DL2
abbrev DL5:Ty:=.pair (.int .i64) DL3
abbrev DL6:=Int×DL4
abbrev DL7:Ty:=.pair (.int .i64) DL5
abbrev DL8:=Int×DL6
abbrev DL9:Ty:=.pair .bool DL7
abbrev DM0:=Bool×DL8
abbrev DM1:Ty:=.pair .bool DL9
abbrev DM2:=Bool×DM0
abbrev DM3:Ty:=.pair (.int .i64) DM1
abbrev DM4:=Int×DM2
abbrev DM5:Ty:=.pair (.slice (.slice (.int .i64))) DM3
abbrev DM6:=(List (List Int))×DM4
abbrev DM7:Ty:=.pair (.int .i64) DM5
abbrev DM8:=Int×DM6
abbrev DM9:Ty:=.pair (.int .i64) DM7
abbrev DN0:=Int×DM8
abbrev DN1:Ty:=.pair (.int .i64) DM9
abbrev DN2:=Int×DN0
abbrev DN3:Ty:=.pair (.int .i64) DN1
abbrev DN4:=Int×DN2
abbrev DN5:Ty:=.pair (.int .i64) DN3
abbrev DN6:=Int×DN4
abbrev DN7:Ty:=.pair (.int .i64) DN5
abbrev DN8:=Int×DN6
abbrev DN9:Ty:=.pair (.int .i64) DN7
abbrev DO0:=Int×DN8
abbrev DO1:Ty:=.pair (.int .i64) DN9
abbrev DO2:=Int×DO0
abbrev DO3:Ty:=.pair (.int .i64) DO1
abbrev DO4:=Int×DO2
abbrev DO5:Ty:=.pair (.int .i64) DO3
abbrev DO6:=Int×DO4
abbrev DO7:Ty:=.pair .bool DO5
abbrev DO8:=Bool×DO6
abbrev DO9:Ty:=.pair (.int .i64) DO7
abbrev DP0:=Int×DO8
abbrev DP1:Ty:=.pair (.int .i64) DO9
abbrev DP2:=Int×DP0
abbrev DP3:Ty:=.pair (.int .i64) DP1
abbrev DP4:=Int×DP2
abbrev DP5:Ty:=.pair (.int .i64) DP3
abbrev DP6:=Int×DP4
abbrev DP7:Ty:=.pair .bool DP5
abbrev DP8:=Bool×DP6
abbrev DP9:Ty:=.pair .bool DP7
abbrev DQ0:=Bool×DP8
abbrev DQ1:Ty:=.pair .bool DP9
abbrev DQ2:=Bool×DQ0
abbrev DQ3:Ty:=.pair (.int .i64) DQ1
abbrev DQ4:=Int×DQ2
abbrev DQ5:Ty:=.pair (.int .i64) DQ3
abbrev DQ6:=Int×DQ4
abbrev DQ7:Ty:=.pair (.int .i64) DQ5
abbrev DQ8:=Int×DQ6
abbrev DQ9:Ty:=.pair (.int .i64) DQ7
abbrev DR0:=Int×DQ8
abbrev DR1:Ty:=.pair (.int .i64) DQ9
abbrev DR2:=Int×DR0
abbrev DR3:Ty:=.pair .bool DR1
abbrev DR4:=Bool×DR2
abbrev DR5:Ty:=.pair (.slice (.agg I3)) DR3
abbrev DR6:=(List E2)×DR4
abbrev DR7:Ty:=.pair (.int .i64) DR5
abbrev DR8:=Int×DR6
abbrev DR9:Ty:=.pair (.int .i64) DR7
abbrev DS0:=Int×DR8
abbrev DS1:Ty:=.pair (.int .i64) DR9
abbrev DS2:=Int×DS0
abbrev DS3:Ty:=.pair (.int .i64) DS1
abbrev DS4:=Int×DS2
abbrev DS5:Ty:=.pair (.int .i64) DS3
abbrev DS6:=Int×DS4
abbrev DS7:Ty:=.pair .bool DS5
abbrev DS8:=Bool×DS6
abbrev DS9:Ty:=.pair (.int .i64) DS7
abbrev DT0:=Int×DS8
abbrev DT1:Ty:=.pair (.int .i64) DS9
abbrev DT2:=Int×DT0
abbrev DT3:Ty:=.pair (.int .i64) DT1
abbrev DT4:=Int×DT2
abbrev DT5:Ty:=.pair (.int .i64) DT3
abbrev DT6:=Int×DT4
abbrev DT7:Ty:=.pair (.int .i64) DT5
abbrev DT8:=Int×DT6
abbrev DT9:Ty:=.pair (.int .i64) DT7
abbrev DU0:=Int×DT8
abbrev DU1:Ty:=.pair (.int .i64) DT9
abbrev DU2:=Int×DU0
abbrev DU3:Ty:=.pair (.int .i64) DU1
abbrev DU4:=Int×DU2
abbrev DU5:Ty:=.pair (.int .u16) DU3
abbrev DU6:=Int×DU4
abbrev DU7:Ty:=.pair .bool DU5
abbrev DU8:=Bool×DU6
abbrev DU9:Ty:=.pair (.int .i64) DU7
abbrev DV0:=Int×DU8
abbrev DV1:Ty:=.pair (.int .u16) DU9
abbrev DV2:=Int×DV0
abbrev DV3:Ty:=.pair .bool DV1
abbrev DV4:=Bool×DV2
abbrev DV5:Ty:=.pair (.slice (.int .i64)) DV3
abbrev DV6:=(List Int)×DV4
abbrev DV7:Ty:=.pair (.int .i64) DV5
abbrev DV8:=Int×DV6
abbrev DV9:Ty:=.pair (.int .i64) DV7
abbrev DW0:=Int×DV8
abbrev DW1:Ty:=.pair (.int .i64) DV9
abbrev DW2:=Int×DW0
abbrev DW3:Ty:=.pair .bool DW1
abbrev DW4:=Bool×DW2
abbrev DW5:Ty:=.pair (.slice (.agg Yt3)) DW3
abbrev DW6:=(List Yd3)×DW4
abbrev DW7:Ty:=.pair (.slice (.agg Yt1)) DW5
abbrev DW8:=(List Yd1)×DW6
abbrev DW9:Ty:=.pair (.int .i64) DW7
abbrev DX0:=Int×DW8
abbrev DX1:Ty:=.pair (.int .i64) DW9
abbrev DX2:=Int×DX0
abbrev DX3:Ty:=.pair (.int .i64) DX1
abbrev DX4:=Int×DX2
abbrev DX5:Ty:=.pair (.int .i64) DX3
abbrev DX6:=Int×DX4
abbrev DX7:Ty:=.pair (.int .i64) DX5
abbrev DX8:=Int×DX6
abbrev DX9:Ty:=.pair (.int .i64) DX7
abbrev DY0:=Int×DX8
abbrev DY1:Ty:=.pair (.int .i64) DX9
abbrev DY2:=Int×DY0
abbrev DY3:Ty:=.pair (.int .i64) DY1
abbrev DY4:=Int×DY2
abbrev DY5:Ty:=.pair (.int .i64) DY3
abbrev DY6:=Int×DY4
abbrev DY7:Ty:=.pair (.int .i64) DY5
abbrev DY8:=Int×DY6
abbrev DY9:Ty:=.pair (.int .i64) DY7
abbrev DZ0:=Int×DY8
abbrev DZ1:Ty:=.pair (.int .i64) DY9
abbrev DZ2:=Int×DZ0
abbrev DZ3:Ty:=.pair (.int .i64) DZ1
abbrev DZ4:=Int×DZ2
abbrev Bk5:Ty:=.pair (.int .i64) DZ3
abbrev DZ5:=Int×DZ4
abbrev DZ6:Ty:=.pair (.agg AQ1) Bk5
abbrev DZ7:Ty:=.pair (.agg S2) X8
abbrev DZ8:=M4×AF6
abbrev DZ9:Ty:=.pair (.slice (.slice (.int .u8))) Bk2
abbrev Da0:=(List Int)×(Int×(Int×Bool))
abbrev Da1:=Int×Da0
abbrev Da2:=(List Yd1)×Da1
abbrev Da3:=Int×Da2
abbrev Da4:=Int×Da3
abbrev Da5:=Bool×Da4
abbrev Da6:=Int×Da5
abbrev Da7:=Int×Da6
abbrev Da8:=Int×Da7
abbrev Da9:=(List M4)×Da8
abbrev Db0:=Int×Da9
abbrev Db1:=Int×Db0
abbrev Db2:=Bool×Db1
abbrev Db3:=Int×Db2
abbrev Db4:=Int×Db3
abbrev Db5:=Int×Db4
abbrev Db6:=Int×Db5
abbrev Db7:=Bool×Db6
abbrev Db8:=Int×Db7
abbrev Db9:=Int×Db8
abbrev Dc0:=Int×Db9
abbrev Dc1:=Int×Dc0
abbrev Dc2:=Int×Dc1
abbrev Dc3:=Int×Dc2
abbrev Dc4:=Int×Dc3
abbrev Dc5:=Bool×Dc4
abbrev Dc6:=Int×Dc5
abbrev Dc7:=Int×Dc6
abbrev Dc8:=Int×Dc7
abbrev Dc9:=Int×Dc8
abbrev Dd0:=Int×Dc9
abbrev Dd1:=Int×Dd0
abbrev Dd2:=Int×Dd1
abbrev Dd3:=Int×Dd2
abbrev Dd4:=Bool×Dd3
abbrev Dd5:=Int×Dd4
abbrev Dd6:=Int×Dd5
abbrev Dd7:=Int×Dd6
abbrev Dd8:=Bool×Dd7
abbrev Dd9:=(List Yd3)×Dd8
abbrev De0:=Int×Dd9
abbrev De1:=Int×De0
abbrev De2:=Int×De1
abbrev De3:=Int×De2
abbrev De4:=Int×De3
abbrev De5:=Bool×De4
abbrev De6:=(List E2)×De5
abbrev De7:=Int×De6
abbrev De8:=Int×De7
abbrev De9:=Int×De8
abbrev Df0:=Int×De9
abbrev Df1:=Bool×Df0
abbrev Df2:=Int×Df1
abbrev Df3:=Int×Df2
abbrev Bk6:Ty:=.pair (.agg C7) Bj0
abbrev Df4:Ty:=.pair (.agg S2) (.agg S2)
abbrev Df5:Ty:=.pair (.slice (.agg S2)) (.slice (.agg S2))
abbrev Df6:=Int×(List S1)
abbrev Df7:Ty:=.pair (.slice (.agg AJ9)) (.agg (.pair (.int .u16) (.int .u16)))
abbrev Df8:Ty:=.pair (.agg E1) Df7
abbrev Df9:Ty:=.pair (.agg C7) Df8
abbrev Dg0:Ty:=.pair (.slice (.agg (.pair (.slice (.slice (.int .u8))) .bool))) (.pair (.int .i64) (.pair (.int .i64) (.int .i64)))
abbrev Dg1:Ty:=.pair (.agg E1) Dg0
abbrev Dg2:Ty:=.pair (.agg C7) Dg1
abbrev Bk7:Ty:=.pair .bool X6
abbrev Dg3:Ty:=.pair (.agg AK0) (.agg (.pair (.int .i64) (.pair (.int .i64) .bool)))
abbrev Dg4:Ty:=.pair (.agg (.pair (.int .i64) .bool)) Dg3
abbrev Dg5:Ty:=.pair (.agg Bk7) Dg4
abbrev Dg6:Ty:=.pair (.agg Z9) Dg5
abbrev Dg7:Ty:=.pair (.int .i64) Dg6
abbrev Dg8:Ty:=.pair (.agg (.pair (.int .i64) (.int .i64))) Dg7
abbrev Dg9:Ty:=.pair (.agg X6) Dg8
abbrev Dh0:Ty:=.pair (.agg Bk4) Dg9
abbrev Dh1:Ty:=.pair (.slice (.int .i64)) Dh0
abbrev Dh2:Ty:=.pair (.agg (.pair (.int .i64) (.int .i64))) Dh1
abbrev Dh3:Ty:=.pair (.int .i64) Dh2
abbrev Dh4:Ty:=.pair .bool Dh3
abbrev Dh5:Ty:=.pair (.agg E1) Dh4
abbrev Dh6:Ty:=.pair (.agg C7) Dh5
def tys:List (Nat×TD):=[
 (2,⟨some (.int .i64),[.dat (.int .i64) (0:Int)],.scalar⟩),
 (3,⟨some (.int .i64),[.dat (.int .i64) (0:Int)],.scalar⟩),
 (4,⟨some .bool,[.dat .bool false],.scalar⟩),
 (5,⟨some (.int .u8),[.dat (.int .u8) (0:Int)],.scalar⟩),
 (9,⟨some .str,[.dat .str ByteArray.empty],.scalar⟩),
 (21,⟨some (.int .i32),[.dat (.int .i32) (0:Int)],.scalar⟩),
 (23,⟨some (.agg C7),List.replicate 14 (.dat (.int .i64) (0:Int)),.struct [(2,0,1),(2,1,1),(2,2,1),(2,3,1),(2,4,1),(2,5,1),(2,6,1),(2,7,1),(2,8,1),(3,9,1),(2,10,1),(2,11,1),(3,12,1),(2,13,1)]⟩),
 (24,⟨some (.slice (.agg Yt1)),[.nil],.slice 67 3 56⟩),
 (25,⟨some (.slice (.agg Yt3)),[.nil],.slice 71 5 40⟩),
 (27,⟨some (.agg E1),[.nil,.nil],.struct [(24,0,1),(25,1,1)]⟩),
 (28,⟨some (.slice (.agg (.pair (.slice (.slice (.int .u8))) .bool))),[.nil],.slice 33 2 32⟩),
 (30,⟨none,[.undef],.scalar⟩),
 (31,⟨some (.slice (.slice (.int .u8))),[.nil],.slice 34 1 24⟩),
 (33,⟨some (.agg (.pair (.slice (.slice (.int .u8))) .bool)),[.nil,.dat .bool false],.struct [(31,0,1),(4,1,1)]⟩),
 (34,⟨some (.slice (.int .u8)),[.nil],.slice 5 1 1⟩),
 (38,⟨some (.agg (.pair (.int .i64) (.pair (.int .i64) (.int .i64)))),[.dat (.int .i64) (0:Int),.dat (.int .i64) (0:Int),.dat (.int .i64) (0:Int)],.struct [(3,0,1),(3,1,1),(2,2,1)]⟩),
 (40,⟨some (.slice (.agg S2)),[.nil],.slice 49 32 232⟩),
 (44,⟨some (.agg (.pair (.int .i64) (.int .i64))),[.dat (.int .i64) (0:Int),.dat (.int .i64) (0:Int)],.struct [(2,0,1),(2,1,1)]⟩),
 (45,⟨some (.slice (.slice (.int .i64))),[.nil],.slice 65 1 24⟩),
 (46,⟨some (.agg (.pair (.int .i64) (.int .i64))),[.dat (.int .i64) (0:Int),.dat (.int .i64) (0:Int)],.array 2 3 1⟩),
 (47,⟨some (.agg X6),[.dat (.int .i64) (0:Int),.dat (.int .i64) (0:Int),.dat (.int .i64) (0:Int),.dat (.int .i64) (0:Int)],.array 2 44 2⟩),
 (49,⟨some (.agg S2),[.dat (.int .i64) (0:Int),.dat (.int .i64) (0:Int),.dat (.int .i64) (0:Int),.dat (.int .i64) (0:Int),.dat (.int .i64) (0:Int),.dat (.int .i64) (0:Int),.dat (.int .i64) (0:Int),.dat (.int .i64) (0:Int),.dat (.int .i64) (0:Int),.dat (.int .i64) (0:Int),.nil,.dat (.int .i64) (0:Int),.dat .bool false,.dat .bool false,.dat (.int .i64) (0:Int),.dat (.int .i64) (0:Int),.dat .bool false,.dat .bool false,.dat .bool false,.dat .bool false,.dat .bool false,.dat (.int .i64) (0:Int),.dat (.int .i64) (0:Int),.dat (.int .i64) (0:Int),.dat (.int .i64) (0:Int),.dat (.int .i64) (0:Int),.dat (.int .i64) (0:Int),.dat (.int .i64) (0:Int),.dat (.int .i64) (0:Int),.dat (.int .i64) (0:Int),.dat (.int .i64) (0:Int),.dat (.int .i64) (0:Int)],.struct [(3,0,1),(3,1,1),(3,2,1),(44,3,2),(2,5,1),(44,6,2),(2,8,1),(2,9,1),(45,10,1),(3,11,1),(4,12,1),(4,13,1),(46,14,2),(4,16,1),(4,17,1),(4,18,1),(4,19,1),(4,20,1),(44,21,2),(2,23,1),(47,24,4),(3,28,1),(3,29,1),(3,30,1),(3,31,1)]⟩),
 (51,⟨some (.slice (.agg AJ9)),[.nil],.slice 56 11 20⟩),
 (52,⟨some (.int .u16),[.dat (.int .u16) (0:Int)],.scalar⟩),
 (53,⟨some (.agg (.pair (.int .u16) (.int .u16))),[.dat (.int .u16) (0:Int),.dat (.int .u16) (0:Int)],.array 2 52 1⟩),
 (54,⟨some (.agg Yt5),[.dat .bool false,.dat .bool false,.dat .bool false,.dat .bool false,.dat .bool false],.array 5 4 1⟩),
 (56,⟨some (.agg AJ9),[.dat (.int .u16) (0:Int),.dat (.int .u16) (0:Int),.dat (.int .i32) (0:Int),.dat (.int .i32) (0:Int),.dat (.int .u16) (0:Int),.dat .bool false,.dat .bool false,.dat .bool false,.dat .bool false,.dat .bool false,.dat .bool false],.struct [(53,0,2),(21,2,1),(21,3,1),(52,4,1),(54,5,5),(4,10,1)]⟩),
 (63,⟨some (.agg (.pair (.int .i64) (.int .i64))),[.dat (.int .i64) (0:Int),.dat (.int .i64) (0:Int)],.array 2 2 1⟩),
 (64,⟨some (.slice (.agg (.pair (.int .i64) (.int .i64)))),[.nil],.slice 69 2 16⟩),
 (65,⟨some (.slice (.int .i64)),[.nil],.slice 3 1 8⟩),
 (67,⟨some (.agg Yt1),[.dat (.int .i64) (0:Int),.nil,.nil],.struct [(2,0,1),(64,1,1),(65,2,1)]⟩),
 (69,⟨some (.agg (.pair (.int .i64) (.int .i64))),[.dat (.int .i64) (0:Int),.dat (.int .i64) (0:Int)],.struct [(2,0,1),(2,1,1)]⟩),
 (71,⟨some (.agg Yt3),[.dat (.int .i64) (0:Int),.dat (.int .i64) (0:Int),.dat (.int .i64) (0:Int),.dat (.int .i64) (0:Int),.dat (.int .i64) (0:Int)],.struct [(3,0,1),(3,1,1),(2,2,1),(2,3,1),(2,4,1)]⟩),
 (73,⟨some (.int .u64),[.dat (.int .u64) (0:Int)],.scalar⟩),
 (80,⟨some (.agg C7),List.replicate 14 (.dat (.int .i64) (0:Int)),.struct [(2,0,1),(2,1,1),(2,2,1),(2,3,1),(2,4,1),(2,5,1),(2,6,1),(2,7,1),(2,8,1),(3,9,1),(2,10,1),(2,11,1),(3,12,1),(2,13,1)]⟩),
 (85,⟨some (.agg Yt3),[.dat (.int .i64) (0:Int),.dat (.int .i64) (0:Int),.dat (.int .i64) (0:Int),.dat (.int .i64) (0:Int),.dat (.int .i64) (0:Int)],.array 5 2 1⟩),
 (90,⟨some (.slice (.int .i64)),[.nil],.slice 2 1 8⟩),
 (92,⟨some (.agg Au1),[.dat (.int .i64) (0:Int),.dat (.int .i64) (0:Int),.dat (.int .i64) (0:Int),.dat (.int .i64) (0:Int),.dat (.int .i64) (0:Int),.dat (.int .i64) (0:Int)],.array 6 3 1⟩),
 (93,⟨some (.int .u64),[.dat (.int .u64) (0:Int)],.scalar⟩),
 (97,⟨some (.slice (.agg Yt1)),[.nil],.slice 157 3 56⟩),
 (98,⟨some (.slice (.agg Yt3)),[.nil],.slice 160 5 40⟩),
 (100,⟨some (.agg E1),[.nil,.nil],.struct [(97,0,1),(98,1,1)]⟩),
 (107,⟨some (.agg (.pair .bool (.pair (.int .u16) (.int .i64)))),[.dat .bool false,.dat (.int .u16) (0:Int),.dat (.int .i64) (0:Int)],.struct [(4,0,1),(52,1,1),(2,2,1)]⟩),
 (108,⟨some (.agg Bk4),[.dat .bool false,.dat (.int .u16) (0:Int),.dat (.int .i64) (0:Int),.dat .bool false,.dat (.int .u16) (0:Int),.dat (.int .i64) (0:Int)],.array 2 107 3⟩),
 (109,⟨some (.slice (.agg I3)),[.nil],.slice 195 13 104⟩),
 (111,⟨some (.agg V6),[.dat (.int .i64) (0:Int),.nil],.struct [(2,0,1),(109,1,1)]⟩),
 (113,⟨some (.agg Z9),[.dat .bool false,.dat (.int .i64) (0:Int),.dat (.int .i64) (0:Int),.dat (.int .i64) (0:Int),.dat (.int .i64) (0:Int),.dat (.int .i64) (0:Int),.nil],.struct [(4,0,1),(3,1,1),(44,2,2),(2,4,1),(111,5,2)]⟩),
 (115,⟨some (.agg Bk7),[.dat .bool false,.dat (.int .i64) (0:Int),.dat (.int .i64) (0:Int),.dat (.int .i64) (0:Int),.dat (.int .i64) (0:Int)],.struct [(4,0,1),(44,1,2),(63,3,2)]⟩),
 (117,⟨some (.agg (.pair (.int .i64) .bool)),[.dat (.int .i64) (0:Int),.dat .bool false],.struct [(3,0,1),(4,1,1)]⟩),
 (119,⟨some (.agg AK0),[.dat .bool false,.dat .bool false,.dat (.int .i64) (0:Int),.dat (.int .i64) (0:Int)],.struct [(4,0,1),(4,1,1),(44,2,2)]⟩),
 (121,⟨some (.agg (.pair (.int .i64) (.pair (.int .i64) .bool))),[.dat (.int .i64) (0:Int),.dat (.int .i64) (0:Int),.dat .bool false],.struct [(3,0,1),(3,1,1),(4,2,1)]⟩),
 (123,⟨some (.agg Dh6),[.dat (.int .i64) (0:Int),.dat (.int .i64) (0:Int),.dat (.int .i64) (0:Int),.dat (.int .i64) (0:Int),.dat (.int .i64) (0:Int),.dat (.int .i64) (0:Int),.dat (.int .i64) (0:Int),.dat (.int .i64) (0:Int),.dat (.int .i64) (0:Int),.dat (.int .i64) (0:Int),.dat (.int .i64) (0:Int),.dat (.int .i64) (0:Int),.dat (.int .i64) (0:Int),.dat (.int .i64) (0:Int),.nil,.nil,.dat .bool false,.dat (.int .i64) (0:Int),.dat (.int .i64) (0:Int),.dat (.int .i64) (0:Int),.nil,.dat .bool false,.dat (.int .u16) (0:Int),.dat (.int .i64) (0:Int),.dat .bool false,.dat (.int .u16) (0:Int),.dat (.int .i64) (0:Int),.dat (.int .i64) (0:Int),.dat (.int .i64) (0:Int),.dat (.int .i64) (0:Int),.dat (.int .i64) (0:Int),.dat (.int .i64) (0:Int),.dat (.int .i64) (0:Int),.dat (.int .i64) (0:Int),.dat .bool false,.dat (.int .i64) (0:Int),.dat (.int .i64) (0:Int),.dat (.int .i64) (0:Int),.dat (.int .i64) (0:Int),.dat (.int .i64) (0:Int),.nil,.dat .bool false,.dat (.int .i64) (0:Int),.dat (.int .i64) (0:Int),.dat (.int .i64) (0:Int),.dat (.int .i64) (0:Int),.dat (.int .i64) (0:Int),.dat .bool false,.dat .bool false,.dat .bool false,.dat (.int .i64) (0:Int),.dat (.int .i64) (0:Int),.dat (.int .i64) (0:Int),.dat (.int .i64) (0:Int),.dat .bool false],.struct [(23,0,14),(100,14,2),(4,16,1),(3,17,1),(44,18,2),(90,20,1),(108,21,6),(47,27,4),(44,31,2),(2,33,1),(113,34,7),(115,41,5),(117,46,2),(119,48,4),(121,52,3)]⟩),
 (127,⟨some (.agg Bj5),[.dat .bool false,.dat .bool false,.dat .bool false,.dat .bool false,.dat .bool false,.dat .bool false],.array 6 4 1⟩),
 (128,⟨some (.agg Au1),[.dat (.int .i64) (0:Int),.dat (.int .i64) (0:Int),.dat (.int .i64) (0:Int),.dat (.int .i64) (0:Int),.dat (.int .i64) (0:Int),.dat (.int .i64) (0:Int)],.array 6 2 1⟩),
 (130,⟨some (.agg X9),[.dat .bool false,.dat .bool false,.dat .bool false,.dat .bool false,.dat .bool false,.dat .bool false,.dat (.int .i64) (0:Int),.dat (.int .i64) (0:Int),.dat (.int .i64) (0:Int),.dat (.int .i64) (0:Int),.dat (.int .i64) (0:Int),.dat (.int .i64) (0:Int),.dat (.int .i64) (0:Int),.dat (.int .i64) (0:Int),.dat (.int .i64) (0:Int),.dat (.int .i64) (0:Int)],.struct [(127,0,6),(128,6,6),(3,12,1),(3,13,1),(3,14,1),(3,15,1)]⟩),
 (133,⟨some (.agg AQ1),[.dat (.int .i64) (0:Int),.dat (.int .i64) (0:Int),.dat (.int .i64) (0:Int),.dat .bool false,.dat .bool false,.dat (.int .i64) (0:Int),.dat (.int .i64) (0:Int)],.struct [(44,0,2),(3,2,1),(4,3,1),(4,4,1),(46,5,2)]⟩),
 (137,⟨some (.agg Ai6),[.dat (.int .i64) (0:Int),.nil,.dat .bool false,.dat .bool false],.struct [(3,0,1),(90,1,1),(4,2,1),(4,3,1)]⟩),
 (153,⟨some (.agg (.pair (.slice (.int .u8)) .bool)),[.nil,.dat .bool false],.struct [(34,0,1),(4,1,1)]⟩),
 (155,⟨some (.slice (.agg (.pair (.int .i64) (.int .i64)))),[.nil],.slice 165 2 16⟩),
 (157,⟨some (.agg Yt1),[.dat (.int .i64) (0:Int),.nil,.nil],.struct [(2,0,1),(155,1,1),(65,2,1)]⟩),
 (160,⟨some (.agg Yt3),[.dat (.int .i64) (0:Int),.dat (.int .i64) (0:Int),.dat (.int .i64) (0:Int),.dat (.int .i64) (0:Int),.dat (.int .i64) (0:Int)],.struct [(3,0,1),(3,1,1),(2,2,1),(2,3,1),(2,4,1)]⟩),
 (165,⟨some (.agg (.pair (.int .i64) (.int .i64))),[.dat (.int .i64) (0:Int),.dat (.int .i64) (0:Int)],.struct [(2,0,1),(2,1,1)]⟩),
 (171,⟨some (.agg (.pair .bool (.agg (.pair (.int .i64) (.int .i64))))),[.dat .bool false,.dat (.int .i64) (0:Int),.dat (.int .i64) (0:Int)],.struct [(4,0,1),(44,1,2)]⟩),
 (174,⟨some (.agg Ai5),[.dat .bool false,.dat (.int .i64) (0:Int),.dat (.int .i64) (0:Int),.dat .bool false,.dat (.int .i64) (0:Int),.dat (.int .i64) (0:Int),.dat .bool false,.dat (.int .i64) (0:Int),.dat (.int .i64) (0:Int)],.array 3 171 3⟩),
 (193,⟨some (.agg BL8),List.replicate 12 (.dat (.int .i64) (0:Int)),.array 12 3 1⟩),
 (195,⟨some (.agg I3),List.replicate 13 (.dat (.int .i64) (0:Int)),.struct [(3,0,1),(193,1,12)]⟩),
 (209,⟨none,[.nil],.slice 30 1 8⟩),
 (212,⟨some (.agg (.pair (.int .i64) (.pair (.int .i64) (.int .i64)))),[.dat (.int .i64) (0:Int),.dat (.int .i64) (0:Int),.dat (.int .i64) (0:Int)],.struct [(3,0,1),(3,1,1),(2,2,1)]⟩),
 (220,⟨some (.slice (.agg (.pair (.int .i64) (.int .i64)))),[.nil],.slice 44 2 16⟩),
 (247,⟨some (.int .u32),[.dat (.int .u32) (0:Int)],.scalar⟩),
 (268,⟨some (.agg (.pair (.int .u64) (.int .u64))),[.dat (.int .u64) (0:Int),.dat (.int .u64) (0:Int)],.struct [(73,0,1),(73,1,1)]⟩),
 (271,⟨some (.int .i16),[.dat (.int .i16) (0:Int)],.scalar⟩)]
theorem Aa7:Au0 Tryz.prog tys=true:=by kernel_rfl
end Go.Proofs.YthfjpkdadjemcaaGreat
