/- The functional reading of the code (printed). -/
import Derived.Test.YthfjpkdadjemcaaGreatM4
import Derived.Test.YthfjpkdadjemcaaGreatProg
set_option linter.unusedSimpArgs false
set_option linter.unusedVariables false
namespace Go.Proofs.YthfjpkdadjemcaaGreat
open Go
open _root_.List renaming replicate → FD7
abbrev tI:Ty:=.int .i64
def H0:Hint:=.mk .plain []
abbrev Yt1:Ty:=.pair tI (.pair (.slice (.agg (.pair tI tI))) (.slice tI))
abbrev Yd1:=Int×((List (Int×Int))×(List Int))
abbrev Yt2:Ty:=.pair tI (.pair tI (.pair tI tI))
abbrev Yd2:=Int×(Int×(Int×Int))
abbrev Yt3:Ty:=.pair tI Yt2
abbrev Yd3:=Int×Yd2
abbrev Yt4:Ty:=.pair .bool (.pair .bool (.pair .bool .bool))
abbrev Yd4:=Bool×(Bool×(Bool×Bool))
abbrev Yt5:Ty:=.pair .bool Yt4
abbrev Yd5:=Bool×Yd4
abbrev Yt6:Ty:=.pair (.agg Yt5) .bool
abbrev Yd6:=Yd5×Bool
abbrev Yt7:Ty:=.pair (.int .u16) Yt6
abbrev Yd7:=Int×Yd6
abbrev Yt8:Ty:=.pair (.int .i32) Yt7
abbrev Yd8:=Int×Yd7
abbrev Yt9:Ty:=.pair (.int .i32) Yt8
abbrev Yd9:=Int×Yd8
abbrev AK9:Ty:=.pair (.agg (.pair (.int .u16) (.int .u16))) Yt9
abbrev T6:=(Int×Int)×Yd9
abbrev Ca7:=Bool×((List Int)×(List (Int×Int)))
abbrev Ca8:=(List Int)×(List Yd1)
abbrev Ca9:=Bool×Ca8
abbrev Cb0:=(List Int)×(List Yd3)
abbrev Cb1:=Bool×Cb0
abbrev Cb2:=Int×(Int×(Int×Int))
abbrev BK9:=Bool×(Int×(Int×Int))
abbrev Cb3:=Bool×BK9
abbrev Cb4:=Int×Cb3
abbrev Cb5:=Int×Cb4
abbrev Cb6:=Int×Cb5
abbrev Cb7:=Bool×Cb6
abbrev Cb8:Ty:=.pair .bool (.pair .bool (.pair tI tI))
abbrev Cb9:=Bool×(Bool×(Int×Int))
abbrev Cc0:Ty:=.pair tI Cb8
abbrev Cc1:=Int×Cb9
abbrev Cc2:Ty:=.pair tI Cc0
abbrev Cc3:=Int×Cc1
abbrev Bh2:Ty:=.pair tI Cc2
abbrev Cc4:=Int×Cc3
abbrev Cc5:=Bool×Cb7
abbrev Cc6:=Int×Cc5
abbrev Cc7:=Int×Cc6
abbrev Cc8:=Int×Cc7
abbrev Cc9:=Int×Cc8
abbrev Cd0:=Bool×Cc9
abbrev Cd1:=Bool×Cd0
abbrev Cd2:=(List Yd1)×Bool
abbrev Cd3:=Int×Cd2
abbrev Cd4:=Int×Cd3
abbrev Cd5:=Int×Cd4
abbrev Cd6:=(List Yd3)×Cd5
abbrev Cd7:=Int×Cd6
abbrev Cd8:=Int×(List Yd1)
abbrev Cd9:=Int×Cd8
abbrev Ce0:=(List Yd3)×Cd9
abbrev Ce1:=Bool×Ce0
abbrev Ce2:=Int×Ce1
abbrev Bh3:=Int×Ce2
abbrev Ce3:=Int×(Int×(Bool×Int))
abbrev Ce4:=Int×Ce3
abbrev Bh4:Ty:=.pair tI (.pair tI (.pair tI .bool))
abbrev Bh5:=Int×(Int×(Int×Bool))
abbrev Ce5:Ty:=.pair tI Bh4
abbrev Bh6:=Int×Bh5
abbrev Ce6:=Int×Bh6
abbrev Ce7:=Bool×Ce6
abbrev Aw2:Ty:=.pair tI Yt3
abbrev BL0:=Int×Yd3
abbrev Ce8:Ty:=.pair tI Aw2
abbrev Ce9:=Int×BL0
abbrev Cf0:Ty:=.pair tI Ce8
abbrev Cf1:=Int×Ce9
abbrev Cf2:Ty:=.pair tI Cf0
abbrev Cf3:=Int×Cf1
abbrev Bh7:Ty:=.pair tI Cf2
abbrev Bh8:=Int×Cf3
abbrev Bh9:Ty:=.pair tI Bh7
abbrev Bi0:=Int×Bh8
abbrev BL1:Ty:=.pair tI Bh9
abbrev Bi1:=Int×Bi0
abbrev H8:Ty:=.pair tI (.agg BL1)
abbrev G9:=Int×Bi1
abbrev Cf4:=Bool×Yd2
abbrev X4:Ty:=.pair (.agg (.pair tI tI)) (.agg (.pair tI tI))
abbrev Aw3:=(Int×Int)×(Int×Int)
abbrev Cf5:Ty:=.pair (.agg X4) Yt2
abbrev Cf6:=Aw3×Yd2
abbrev Cf7:Ty:=.pair tI Cf5
abbrev Cf8:=Int×Cf6
abbrev Cf9:Ty:=.pair (.agg (.pair tI tI)) Cf7
abbrev Cg0:=(Int×Int)×Cf8
abbrev Cg1:Ty:=.pair .bool Cf9
abbrev Cg2:=Bool×Cg0
abbrev Cg3:Ty:=.pair .bool Cg1
abbrev Cg4:=Bool×Cg2
abbrev Cg5:Ty:=.pair .bool Cg3
abbrev Cg6:=Bool×Cg4
abbrev Cg7:Ty:=.pair .bool Cg5
abbrev Cg8:=Bool×Cg6
abbrev Cg9:Ty:=.pair .bool Cg7
abbrev Ch0:=Bool×Cg8
abbrev Ch1:Ty:=.pair (.agg (.pair tI tI)) Cg9
abbrev Ch2:=(Int×Int)×Ch0
abbrev Ch3:Ty:=.pair .bool Ch1
abbrev Ch4:=Bool×Ch2
abbrev Ch5:Ty:=.pair .bool Ch3
abbrev Ch6:=Bool×Ch4
abbrev Ch7:Ty:=.pair tI Ch5
abbrev Ch8:=Int×Ch6
abbrev Ch9:Ty:=.pair (.slice (.slice tI)) Ch7
abbrev Ci0:=(List (List Int))×Ch8
abbrev Ci1:Ty:=.pair tI Ch9
abbrev Ci2:=Int×Ci0
abbrev Ci3:Ty:=.pair tI Ci1
abbrev Ci4:=Int×Ci2
abbrev Ci5:Ty:=.pair (.agg (.pair tI tI)) Ci3
abbrev Ci6:=(Int×Int)×Ci4
abbrev Ci7:Ty:=.pair tI Ci5
abbrev Ci8:=Int×Ci6
abbrev Ci9:Ty:=.pair (.agg (.pair tI tI)) Ci7
abbrev Cj0:=(Int×Int)×Ci8
abbrev Cj1:Ty:=.pair tI Ci9
abbrev Cj2:=Int×Cj0
abbrev Cj3:Ty:=.pair tI Cj1
abbrev Cj4:=Int×Cj2
abbrev M5:Ty:=.pair tI Cj3
abbrev D7:=Int×Cj4
abbrev V5:Ty:=.pair tI (.slice (.agg H8))
abbrev AL0:=Int×(List G9)
abbrev E1:Ty:=.pair (.slice (.agg Yt1)) (.slice (.agg Yt3))
abbrev K7:=(List Yd1)×(List Yd3)
abbrev Cj5:Ty:=.pair (.agg E1) (.agg H8)
abbrev Cj6:Ty:=.pair (.agg V5) Cj5
abbrev Bi2:Ty:=.pair (.agg E1) (.slice (.agg (.pair (.slice (.slice (.int .u8))) .bool)))
abbrev Cj7:Ty:=.pair tI BL1
abbrev Cj8:=Int×Bi1
abbrev C4:Ty:=.pair tI Cj7
abbrev F2:=Int×Cj8
abbrev Cj9:Ty:=.pair (.agg Yt1) tI
abbrev Bi3:Ty:=.pair (.agg C4) (.agg E1)
abbrev Ck0:Ty:=.pair tI (.pair tI (.pair (.slice (.int .u8)) .bool))
abbrev Ck1:Ty:=.pair (.agg (.pair tI tI)) (.pair (.slice (.int .u8)) .bool)
abbrev Ck2:=(Int×Int)×((List Int)×Bool)
abbrev Ck3:Ty:=.pair (.slice (.agg (.pair tI tI))) (.pair (.slice (.int .u8)) .bool)
abbrev Ck4:=(List (Int×Int))×((List Int)×Bool)
abbrev Ck5:=Bool×((List (Int×Int))×(List Int))
abbrev Ck6:=Int×Ck5
abbrev Ck7:=Int×(Bool×((List Int)×(List Int)))
abbrev Ck8:Ty:=.pair (.agg Yt1) (.pair (.slice (.int .u8)) .bool)
abbrev Ck9:=Yd1×((List Int)×Bool)
abbrev Cl0:Ty:=.pair (.slice (.agg Yt1)) (.pair (.slice (.int .u8)) .bool)
abbrev Cl1:=(List Yd1)×((List Int)×Bool)
abbrev Cl2:=(List Yd1)×(List Int)
abbrev Cl3:=Bool×Cl2
abbrev Cl4:=Int×Cl3
abbrev Cl5:Ty:=.pair (.agg Yt3) (.pair (.slice (.int .u8)) .bool)
abbrev Cl6:=Yd3×((List Int)×Bool)
abbrev Cl7:Ty:=.pair (.slice (.agg Yt3)) (.pair (.slice (.int .u8)) .bool)
abbrev Cl8:=(List Yd3)×((List Int)×Bool)
abbrev Cl9:=(List Yd3)×(List Int)
abbrev Cm0:=Bool×Cl9
abbrev Cm1:=Int×Cm0
abbrev Cm2:Ty:=.pair (.agg E1) (.agg Yt1)
abbrev Cm3:Ty:=.pair tI (.agg Yt3)
abbrev Cm4:Ty:=.pair (.agg E1) Cm3
abbrev Bi4:Ty:=.pair (.agg E1) tI
abbrev Cm5:=K7×Int
abbrev Z4:Ty:=.pair .bool C4
abbrev Z5:=Bool×F2
abbrev BL2:Ty:=.pair (.agg (.pair (.int .u64) (.int .u64))) (.agg (.pair (.int .u64) (.int .u64)))
abbrev Cm6:Ty:=.pair (.agg (.pair (.int .u64) (.int .u64))) (.pair (.int .u64) tI)
abbrev Cm7:=(Int×Int)×(Int×Int)
abbrev Cm8:=Int×(Int×(Int×Int))
abbrev Cm9:=Int×Cm8
abbrev Bi5:Ty:=.pair (.agg C4) (.agg Yt3)
abbrev Cn0:Ty:=.pair (.slice (.agg (.pair tI tI))) (.agg (.pair tI tI))
abbrev Cn1:Ty:=.pair .bool Ce5
abbrev Cn2:=Bool×Bh6
abbrev Cn3:Ty:=.pair .bool Cn1
abbrev Cn4:=Bool×Cn2
abbrev Cn5:Ty:=.pair .bool Cn3
abbrev Cn6:=Bool×Cn4
abbrev Cn7:Ty:=.pair tI Cn5
abbrev Cn8:=Int×Cn6
abbrev Cn9:Ty:=.pair tI Cn7
abbrev Co0:=Int×Cn8
abbrev Co1:Ty:=.pair tI Cn9
abbrev Co2:=Int×Co0
abbrev Co3:Ty:=.pair tI Co1
abbrev Co4:=Int×Co2
abbrev Co5:Ty:=.pair tI Co3
abbrev Co6:=Int×Co4
abbrev Co7:Ty:=.pair .bool Co5
abbrev Co8:=Bool×Co6
abbrev Co9:Ty:=.pair (.slice (.agg H8)) Co7
abbrev Cp0:=(List G9)×Co8
abbrev Cp1:Ty:=.pair tI Co9
abbrev Cp2:=Int×Cp0
abbrev Cp3:Ty:=.pair tI Cp1
abbrev Cp4:=Int×Cp2
abbrev Cp5:Ty:=.pair tI Cp3
abbrev Cp6:=Int×Cp4
abbrev Cp7:Ty:=.pair tI Cp5
abbrev Cp8:=Int×Cp6
abbrev Cp9:Ty:=.pair tI Cp7
abbrev Cq0:=Int×Cp8
abbrev Cq1:Ty:=.pair .bool Cp9
abbrev Cq2:=Bool×Cq0
abbrev Cq3:Ty:=.pair tI Cq1
abbrev Cq4:=Int×Cq2
abbrev Cq5:Ty:=.pair tI Cq3
abbrev Cq6:=Int×Cq4
abbrev Cq7:Ty:=.pair tI Cq5
abbrev Cq8:=Int×Cq6
abbrev Cq9:Ty:=.pair tI Cq7
abbrev Cr0:=Int×Cq8
abbrev Cr1:Ty:=.pair tI Cq9
abbrev Cr2:=Int×Cr0
abbrev Cr3:Ty:=.pair tI Cr1
abbrev Cr4:=Int×Cr2
abbrev Cr5:Ty:=.pair tI Cr3
abbrev Cr6:=Int×Cr4
abbrev Cr7:Ty:=.pair tI Cr5
abbrev Cr8:=Int×Cr6
abbrev Cr9:Ty:=.pair (.int .u16) Cr7
abbrev Cs0:=Int×Cr8
abbrev Cs1:Ty:=.pair .bool Cr9
abbrev Cs2:=Bool×Cs0
abbrev Cs3:Ty:=.pair tI Cs1
abbrev Cs4:=Int×Cs2
abbrev Cs5:Ty:=.pair (.int .u16) Cs3
abbrev Cs6:=Int×Cs4
abbrev Cs7:Ty:=.pair .bool Cs5
abbrev Cs8:=Bool×Cs6
abbrev Cs9:Ty:=.pair (.slice tI) Cs7
abbrev Ct0:=(List Int)×Cs8
abbrev Ct1:Ty:=.pair tI Cs9
abbrev Ct2:=Int×Ct0
abbrev Ct3:Ty:=.pair tI Ct1
abbrev Ct4:=Int×Ct2
abbrev Ct5:Ty:=.pair tI Ct3
abbrev Ct6:=Int×Ct4
abbrev Ct7:Ty:=.pair .bool Ct5
abbrev Ct8:=Bool×Ct6
abbrev Ct9:Ty:=.pair (.slice (.agg Yt3)) Ct7
abbrev Cu0:=(List Yd3)×Ct8
abbrev Cu1:Ty:=.pair (.slice (.agg Yt1)) Ct9
abbrev Cu2:=(List Yd1)×Cu0
abbrev Cu3:Ty:=.pair tI Cu1
abbrev Cu4:=Int×Cu2
abbrev Cu5:Ty:=.pair tI Cu3
abbrev Cu6:=Int×Cu4
abbrev Cu7:Ty:=.pair tI Cu5
abbrev Cu8:=Int×Cu6
abbrev Cu9:Ty:=.pair tI Cu7
abbrev Cv0:=Int×Cu8
abbrev Cv1:Ty:=.pair tI Cu9
abbrev Cv2:=Int×Cv0
abbrev Cv3:Ty:=.pair tI Cv1
abbrev Cv4:=Int×Cv2
abbrev Cv5:Ty:=.pair tI Cv3
abbrev Cv6:=Int×Cv4
abbrev Cv7:Ty:=.pair tI Cv5
abbrev Cv8:=Int×Cv6
abbrev Cv9:Ty:=.pair tI Cv7
abbrev Cw0:=Int×Cv8
abbrev Cw1:Ty:=.pair tI Cv9
abbrev Cw2:=Int×Cw0
abbrev Cw3:Ty:=.pair tI Cw1
abbrev Cw4:=Int×Cw2
abbrev Cw5:Ty:=.pair tI Cw3
abbrev Cw6:=Int×Cw4
abbrev Cw7:Ty:=.pair tI Cw5
abbrev Cw8:=Int×Cw6
abbrev X5:Ty:=.pair tI Cw7
abbrev AF5:=Int×Cw8
abbrev Cw9:Ty:=.pair (.agg C4) (.slice (.int .u8))
abbrev Cx0:Ty:=.pair (.agg (.pair tI (.pair tI tI))) tI
abbrev Cx1:=(Int×(Int×Int))×Int
abbrev Cx2:Ty:=.pair .bool Bh7
abbrev Cx3:=Bool×Bh8
abbrev Cx4:Ty:=.pair .bool Cx2
abbrev Cx5:=Bool×Cx3
abbrev Cx6:Ty:=.pair .bool Cx4
abbrev Cx7:=Bool×Cx5
abbrev Cx8:Ty:=.pair .bool Cx6
abbrev Cx9:=Bool×Cx7
abbrev Cy0:Ty:=.pair .bool Cx8
abbrev Cy1:=Bool×Cx9
abbrev Bi6:Ty:=.pair .bool Cy0
abbrev Cy2:=Bool×Cy1
abbrev Cy3:Ty:=.pair (.slice (.int .u8)) Bi6
abbrev Cy4:Ty:=.pair tI Cy3
abbrev Bi7:Ty:=.pair .bool Yt5
abbrev Cy5:=Bool×Yd5
abbrev Cy6:Ty:=.pair (.agg Aw2) Yt2
abbrev Cy7:=BL0×Yd2
abbrev X6:Ty:=.pair (.agg Bi7) Cy6
abbrev AF6:=Cy5×Cy7
abbrev Cy8:=Bool×Cf4
abbrev Cy9:=Int×Cy8
abbrev Cz0:=Int×Cy9
abbrev Cz1:=Int×Cz0
abbrev Cz2:=Bool×Cz1
abbrev Cz3:=Bool×Cz2
abbrev Cz4:=Int×Cz3
abbrev Cz5:=Int×Cz4
abbrev Cz6:=Int×Cz5
abbrev Cz7:=Int×Cz6
abbrev Cz8:=Bool×Cz7
abbrev Cz9:=Bool×Cz8
abbrev DA0:Ty:=.pair (.agg X6) tI
abbrev Bi8:Ty:=.pair (.agg (.pair .bool (.pair (.int .u16) tI))) (.pair tI .bool)
abbrev DA1:=(Bool×(Int×Int))×(Int×Bool)
abbrev BL3:Ty:=.pair (.agg (.pair tI tI)) (.pair tI tI)
abbrev DA2:Ty:=.pair tI (.pair (.agg (.pair tI tI)) tI)
abbrev DA3:Ty:=.pair (.agg (.pair .bool (.agg (.pair tI tI)))) X5
abbrev DA4:=(Bool×(Int×Int))×AF5
abbrev Bi9:Ty:=.pair (.agg X6) X5
abbrev DA5:Ty:=.pair tI Bi9
abbrev BL4:Ty:=.pair (.agg C4) tI
abbrev DA6:Ty:=.pair tI (.pair .bool (.pair tI .bool))
abbrev DA7:Ty:=.pair .bool (.agg X6)
abbrev DA8:Ty:=.pair tI DA7
abbrev DA9:Ty:=.pair tI DA8
abbrev DB0:Ty:=.pair tI DA9
abbrev DB1:Ty:=.pair tI DB0
abbrev DB2:Ty:=.pair .bool DB1
abbrev DB3:Ty:=.pair .bool DB2
abbrev DB4:Ty:=.pair .bool DB3
abbrev DB5:Ty:=.pair tI DB4
abbrev DB6:Ty:=.pair tI DB5
abbrev DB7:Ty:=.pair tI DB6
abbrev DB8:Ty:=.pair tI DB7
abbrev DB9:Ty:=.pair tI DB8
abbrev DC0:Ty:=.pair .bool DB9
abbrev DC1:Ty:=.pair (.slice (.agg H8)) DC0
abbrev DC2:Ty:=.pair tI DC1
abbrev DC3:Ty:=.pair tI DC2
abbrev DC4:Ty:=.pair tI DC3
abbrev DC5:Ty:=.pair tI DC4
abbrev DC6:Ty:=.pair tI DC5
abbrev DC7:Ty:=.pair .bool DC6
abbrev DC8:Ty:=.pair tI DC7
abbrev DC9:Ty:=.pair tI DC8
abbrev DD0:Ty:=.pair tI DC9
abbrev DD1:Ty:=.pair tI DD0
abbrev DD2:Ty:=.pair tI DD1
abbrev DD3:Ty:=.pair tI DD2
abbrev DD4:Ty:=.pair tI DD3
abbrev DD5:Ty:=.pair tI DD4
abbrev DD6:Ty:=.pair (.int .u16) DD5
abbrev DD7:Ty:=.pair .bool DD6
abbrev DD8:Ty:=.pair tI DD7
abbrev DD9:Ty:=.pair (.int .u16) DD8
abbrev DE0:Ty:=.pair .bool DD9
abbrev DE1:Ty:=.pair (.slice tI) DE0
abbrev DE2:Ty:=.pair tI DE1
abbrev DE3:Ty:=.pair tI DE2
abbrev DE4:Ty:=.pair tI DE3
abbrev DE5:Ty:=.pair .bool DE4
abbrev DE6:Ty:=.pair (.slice (.agg Yt3)) DE5
abbrev DE7:Ty:=.pair (.slice (.agg Yt1)) DE6
abbrev DE8:Ty:=.pair tI DE7
abbrev DE9:Ty:=.pair tI DE8
abbrev DF0:Ty:=.pair tI DE9
abbrev DF1:Ty:=.pair tI DF0
abbrev DF2:Ty:=.pair tI DF1
abbrev DF3:Ty:=.pair tI DF2
abbrev DF4:Ty:=.pair tI DF3
abbrev DF5:Ty:=.pair tI DF4
abbrev DF6:Ty:=.pair tI DF5
abbrev DF7:Ty:=.pair tI DF6
abbrev DF8:Ty:=.pair tI DF7
abbrev DF9:Ty:=.pair tI DF8
abbrev DG0:Ty:=.pair tI DF9
abbrev Bj0:Ty:=.pair tI DG0
abbrev Bj1:Ty:=.pair (.agg C4) (.agg (.pair tI tI))
abbrev DG1:Ty:=.pair (.slice (.agg Yt3)) (.pair .bool (.pair tI tI))
abbrev DG2:=(List Yd3)×(Bool×(Int×Int))
abbrev DG3:Ty:=.pair (.slice (.agg Yt1)) DG1
abbrev DG4:=(List Yd1)×DG2
abbrev DG5:Ty:=.pair tI DG3
abbrev DG6:=Int×DG4
abbrev Aw4:Ty:=.pair tI DG5
abbrev Bj2:=Int×DG6
abbrev DG7:Ty:=.pair tI Aw4
abbrev DG8:Ty:=.pair tI DG7
abbrev DG9:=Int×Bh3
abbrev DH0:=(List Yd1)×(Bool×Int)
abbrev DH1:=Int×DH0
abbrev DH2:=Int×DH1
abbrev DH3:=Int×DH2
abbrev DH4:=Int×DH3
abbrev DH5:=(List Yd3)×DH4
abbrev DH6:=Int×DH5
abbrev DH7:Ty:=.pair (.agg E1) Aw4
abbrev DH8:Ty:=.pair (.agg V5) DH7
abbrev Bj3:Ty:=.pair (.agg E1) (.agg (.pair tI tI))
abbrev DH9:Ty:=.pair (.agg V5) Bj3
abbrev DI0:Ty:=.pair (.agg C4) (.pair tI (.agg (.pair tI tI)))
abbrev DI1:Ty:=.pair (.agg (.pair .bool (.agg (.pair tI tI)))) (.agg (.pair .bool (.agg (.pair tI tI))))
abbrev DI2:=(Bool×(Int×Int))×(Bool×(Int×Int))
abbrev Aj0:Ty:=.pair (.agg (.pair .bool (.agg (.pair tI tI)))) DI1
abbrev BL5:=(Bool×(Int×Int))×DI2
abbrev DI3:Ty:=.pair (.agg (.pair tI tI)) (.pair .bool .bool)
abbrev DI4:=(Int×Int)×(Bool×Bool)
abbrev DI5:Ty:=.pair (.agg (.pair tI tI)) Bh2
abbrev DI6:Ty:=.pair (.agg (.pair tI tI)) (.slice (.agg (.pair tI tI)))
abbrev AL1:Ty:=.pair .bool (.pair .bool (.agg (.pair tI tI)))
abbrev AR4:=Bool×(Bool×(Int×Int))
abbrev DI7:Ty:=.pair tI AL1
abbrev DI8:=Int×AR4
abbrev AR5:Ty:=.pair (.agg (.pair tI tI)) DI7
abbrev Aj1:=(Int×Int)×DI8
abbrev DI9:=Int×Ce4
abbrev DJ0:=Int×DI9
abbrev DJ1:=Bool×DJ0
abbrev DJ2:Ty:=.pair (.agg Aj0) (.agg (.pair .bool (.agg (.pair tI tI))))
abbrev DJ3:Ty:=.pair (.agg (.pair tI tI)) DJ2
abbrev DJ4:Ty:=.pair (.agg AR5) X5
abbrev DJ5:=Aj1×AF5
abbrev DJ6:Ty:=.pair tI (.agg V5)
abbrev DJ7:=Int×AL0
abbrev DJ8:Ty:=.pair (.agg (.pair tI tI)) DJ6
abbrev DJ9:=(Int×Int)×DJ7
abbrev DK0:Ty:=.pair tI DJ8
abbrev DK1:=Int×DJ9
abbrev Z6:Ty:=.pair .bool DK0
abbrev AF7:=Bool×DK1
abbrev DK2:Ty:=.pair (.agg Z6) tI
abbrev DK3:=AF7×Int
abbrev DK4:Ty:=.pair (.agg Z6) Bj3
abbrev Bj4:Ty:=.pair .bool X5
abbrev DK5:=Bool×AF5
abbrev BL6:Ty:=.pair (.agg (.pair tI tI)) X5
abbrev DK6:Ty:=.pair (.agg Yt3) tI
abbrev DK7:Ty:=.pair (.slice (.agg Yt3)) tI
abbrev DK8:Ty:=.pair (.agg V5) (.pair (.agg (.pair tI tI)) tI)
abbrev DK9:Ty:=.pair (.agg E1) DK8
abbrev DL0:Ty:=.pair (.agg C4) DK9
abbrev DL1:Ty:=.pair (.slice tI) X5
abbrev DL2:=(List Int)×AF5
abbrev Bj5:Ty:=.pair tI X5
abbrev DL3:Ty:=.pair (.agg (.pair tI tI)) Bj5
abbrev DL4:Ty:=.pair (.agg Z6) DL3
abbrev Aj2:Ty:=.pair tI (.pair (.slice tI) (.pair .bool .bool))
abbrev BL7:=Int×((List Int)×(Bool×Bool))
abbrev DL5:Ty:=.pair (.agg Aj2) X5
abbrev DL6:=BL7×AF5
abbrev DL7:Ty:=.pair (.agg Z6) BL6
abbrev DL8:Ty:=.pair (.agg X6) DL7
abbrev DL9:Ty:=.pair (.agg E1) (.pair tI (.agg (.pair tI tI)))
abbrev DM0:Ty:=.pair (.agg C4) DL9
abbrev DM1:Ty:=.pair (.agg (.pair tI tI)) BL3
abbrev Bj6:Ty:=.pair (.agg (.pair .bool (.pair (.int .u16) tI))) (.agg (.pair .bool (.pair (.int .u16) tI)))
abbrev DM2:=(Bool×(Int×Int))×(Bool×(Int×Int))
abbrev DM3:Ty:=.pair (.agg Aj2) BL6
abbrev DM4:Ty:=.pair tI (.pair .bool (.pair .bool .bool))
abbrev DM5:Ty:=.pair (.agg C4) DM4
abbrev DM6:Ty:=.pair (.agg (.pair tI (.pair tI .bool))) DM5
abbrev DM7:Ty:=.pair (.agg C4) (.pair (.agg (.pair tI tI)) tI)
abbrev DM8:Ty:=.pair (.agg (.pair tI .bool)) DM7
abbrev DM9:Ty:=.pair (.agg C4) AL1
abbrev DN0:Ty:=.pair (.agg AL1) DM9
abbrev DN1:Ty:=.pair (.agg (.pair tI (.pair tI .bool))) (.pair .bool (.pair tI .bool))
abbrev DN2:Ty:=.pair (.agg V5) tI
abbrev DN3:Ty:=.pair (.slice tI) DN2
abbrev DN4:Ty:=.pair (.agg E1) DN3
abbrev DN5:Ty:=.pair .bool Bh9
abbrev DN6:=Bool×Bi0
abbrev DN7:Ty:=.pair .bool DN5
abbrev DN8:=Bool×DN6
abbrev DN9:Ty:=.pair .bool DN7
abbrev DO0:=Bool×DN8
abbrev DO1:Ty:=.pair .bool DN9
abbrev DO2:=Bool×DO0
abbrev DO3:Ty:=.pair .bool DO1
abbrev DO4:=Bool×DO2
abbrev DO5:Ty:=.pair tI DO3
abbrev DO6:=Int×DO4
abbrev DO7:Ty:=.pair tI DO5
abbrev DO8:=Int×DO6
abbrev DO9:Ty:=.pair .bool DO7
abbrev DP0:=Bool×DO8
abbrev DP1:Ty:=.pair .bool DO9
abbrev DP2:=Bool×DP0
abbrev DP3:Ty:=.pair tI DP1
abbrev DP4:=Int×DP2
abbrev DP5:Ty:=.pair (.slice (.slice tI)) DP3
abbrev DP6:=(List (List Int))×DP4
abbrev DP7:Ty:=.pair tI DP5
abbrev DP8:=Int×DP6
abbrev DP9:Ty:=.pair tI DP7
abbrev DQ0:=Int×DP8
abbrev DQ1:Ty:=.pair tI DP9
abbrev DQ2:=Int×DQ0
abbrev DQ3:Ty:=.pair tI DQ1
abbrev DQ4:=Int×DQ2
abbrev DQ5:Ty:=.pair tI DQ3
abbrev DQ6:=Int×DQ4
abbrev DQ7:Ty:=.pair tI DQ5
abbrev DQ8:=Int×DQ6
abbrev DQ9:Ty:=.pair tI DQ7
abbrev DR0:=Int×DQ8
abbrev DR1:Ty:=.pair tI DQ9
abbrev DR2:=Int×DR0
abbrev DR3:Ty:=.pair tI DR1
abbrev DR4:=Int×DR2
abbrev DR5:Ty:=.pair tI DR3
abbrev DR6:=Int×DR4
abbrev DR7:Ty:=.pair .bool DR5
abbrev DR8:=Bool×DR6
abbrev DR9:Ty:=.pair tI DR7
abbrev DS0:=Int×DR8
abbrev DS1:Ty:=.pair tI DR9
abbrev DS2:=Int×DS0
abbrev DS3:Ty:=.pair tI DS1
abbrev DS4:=Int×DS2
abbrev DS5:Ty:=.pair tI DS3
abbrev DS6:=Int×DS4
abbrev DS7:Ty:=.pair .bool DS5
abbrev DS8:=Bool×DS6
abbrev DS9:Ty:=.pair .bool DS7
abbrev DT0:=Bool×DS8
abbrev DT1:Ty:=.pair .bool DS9
abbrev DT2:=Bool×DT0
abbrev DT3:Ty:=.pair tI DT1
abbrev DT4:=Int×DT2
abbrev DT5:Ty:=.pair tI DT3
abbrev DT6:=Int×DT4
abbrev DT7:Ty:=.pair tI DT5
abbrev DT8:=Int×DT6
abbrev DT9:Ty:=.pair tI DT7
abbrev DU0:=Int×DT8
abbrev DU1:Ty:=.pair tI DT9
abbrev DU2:=Int×DU0
abbrev DU3:Ty:=.pair .bool DU1
abbrev DU4:=Bool×DU2
abbrev DU5:Ty:=.pair (.slice (.agg H8)) DU3
abbrev DU6:=(List G9)×DU4
abbrev DU7:Ty:=.pair tI DU5
abbrev DU8:=Int×DU6
abbrev DU9:Ty:=.pair tI DU7
abbrev DV0:=Int×DU8
abbrev DV1:Ty:=.pair tI DU9
abbrev DV2:=Int×DV0
abbrev DV3:Ty:=.pair tI DV1
abbrev DV4:=Int×DV2
abbrev DV5:Ty:=.pair tI DV3
abbrev DV6:=Int×DV4
abbrev DV7:Ty:=.pair .bool DV5
abbrev DV8:=Bool×DV6
abbrev DV9:Ty:=.pair tI DV7
abbrev DW0:=Int×DV8
abbrev DW1:Ty:=.pair tI DV9
abbrev DW2:=Int×DW0
abbrev DW3:Ty:=.pair tI DW1
abbrev DW4:=Int×DW2
abbrev DW5:Ty:=.pair tI DW3
abbrev DW6:=Int×DW4
abbrev DW7:Ty:=.pair tI DW5
abbrev DW8:=Int×DW6
abbrev DW9:Ty:=.pair tI DW7
abbrev DX0:=Int×DW8
abbrev DX1:Ty:=.pair tI DW9
abbrev DX2:=Int×DX0
abbrev DX3:Ty:=.pair tI DX1
abbrev DX4:=Int×DX2
abbrev DX5:Ty:=.pair (.int .u16) DX3
abbrev DX6:=Int×DX4
abbrev DX7:Ty:=.pair .bool DX5
abbrev DX8:=Bool×DX6
abbrev DX9:Ty:=.pair tI DX7
abbrev DY0:=Int×DX8
abbrev DY1:Ty:=.pair (.int .u16) DX9
abbrev DY2:=Int×DY0
abbrev DY3:Ty:=.pair .bool DY1
abbrev DY4:=Bool×DY2
abbrev DY5:Ty:=.pair (.slice tI) DY3
abbrev DY6:=(List Int)×DY4
abbrev DY7:Ty:=.pair tI DY5
abbrev DY8:=Int×DY6
abbrev DY9:Ty:=.pair tI DY7
abbrev DZ0:=Int×DY8
abbrev DZ1:Ty:=.pair tI DY9
abbrev DZ2:=Int×DZ0
abbrev DZ3:Ty:=.pair .bool DZ1
abbrev DZ4:=Bool×DZ2
abbrev DZ5:Ty:=.pair (.slice (.agg Yt3)) DZ3
abbrev DZ6:=(List Yd3)×DZ4
abbrev DZ7:Ty:=.pair (.slice (.agg Yt1)) DZ5
abbrev DZ8:=(List Yd1)×DZ6
abbrev DZ9:Ty:=.pair tI DZ7
abbrev Da0:=Int×DZ8
abbrev Da1:Ty:=.pair tI DZ9
abbrev Da2:=Int×Da0
abbrev Da3:Ty:=.pair tI Da1
abbrev Da4:=Int×Da2
abbrev Da5:Ty:=.pair tI Da3
abbrev Da6:=Int×Da4
abbrev Da7:Ty:=.pair tI Da5
abbrev Da8:=Int×Da6
abbrev Da9:Ty:=.pair tI Da7
abbrev Db0:=Int×Da8
abbrev Db1:Ty:=.pair tI Da9
abbrev Db2:=Int×Db0
abbrev Db3:Ty:=.pair tI Db1
abbrev Db4:=Int×Db2
abbrev Db5:Ty:=.pair tI Db3
abbrev Db6:=Int×Db4
abbrev Db7:Ty:=.pair tI Db5
abbrev Db8:=Int×Db6
abbrev Db9:Ty:=.pair tI Db7
abbrev Dc0:=Int×Db8
abbrev Dc1:Ty:=.pair tI Db9
abbrev Dc2:=Int×Dc0
abbrev Dc3:Ty:=.pair tI Dc1
abbrev Dc4:=Int×Dc2
abbrev Bj7:Ty:=.pair tI Dc3
abbrev Dc5:=Int×Dc4
abbrev Dc6:Ty:=.pair (.agg AR5) Bj7
abbrev Dc7:Ty:=.pair (.agg M5) X5
abbrev Dc8:=D7×AF5
abbrev Dc9:Ty:=.pair (.slice (.slice (.int .u8))) Bj4
abbrev Dd0:=(List Int)×(Int×(Int×Bool))
abbrev Dd1:=Int×Dd0
abbrev Dd2:=(List Yd1)×Dd1
abbrev Dd3:=Int×Dd2
abbrev Dd4:=Int×Dd3
abbrev Dd5:=Bool×Dd4
abbrev Dd6:=Int×Dd5
abbrev Dd7:=Int×Dd6
abbrev Dd8:=Int×Dd7
abbrev Dd9:=(List D7)×Dd8
abbrev De0:=Int×Dd9
abbrev De1:=Int×De0
abbrev De2:=Bool×De1
abbrev De3:=Int×De2
abbrev De4:=Int×De3
abbrev De5:=Int×De4
abbrev De6:=Int×De5
abbrev De7:=Bool×De6
abbrev De8:=Int×De7
abbrev De9:=Int×De8
abbrev Df0:=Int×De9
abbrev Df1:=Int×Df0
abbrev Df2:=Int×Df1
abbrev Df3:=Int×Df2
abbrev Df4:=Int×Df3
abbrev Df5:=Bool×Df4
abbrev Df6:=Int×Df5
abbrev Df7:=Int×Df6
abbrev Df8:=Int×Df7
abbrev Df9:=Int×Df8
abbrev Dg0:=Int×Df9
abbrev Dg1:=Int×Dg0
abbrev Dg2:=Int×Dg1
abbrev Dg3:=Int×Dg2
abbrev Dg4:=Bool×Dg3
abbrev Dg5:=Int×Dg4
abbrev Dg6:=Int×Dg5
abbrev Dg7:=Int×Dg6
abbrev Dg8:=Bool×Dg7
abbrev Dg9:=(List Yd3)×Dg8
abbrev Dh0:=Int×Dg9
abbrev Dh1:=Int×Dh0
abbrev Dh2:=Int×Dh1
abbrev Dh3:=Int×Dh2
abbrev Dh4:=Int×Dh3
abbrev Dh5:=Bool×Dh4
abbrev Dh6:=(List G9)×Dh5
abbrev Dh7:=Int×Dh6
abbrev Dh8:=Int×Dh7
abbrev Dh9:=Int×Dh8
abbrev Di0:=Int×Dh9
abbrev Di1:=Bool×Di0
abbrev Di2:=Int×Di1
abbrev Bj8:=Int×Di2
abbrev Bj9:Ty:=.pair (.agg C4) Bi2
abbrev Di3:Ty:=.pair (.agg M5) (.agg M5)
abbrev Di4:Ty:=.pair (.slice (.agg M5)) (.slice (.agg M5))
abbrev Di5:Ty:=.pair (.agg E1) (.slice (.agg AK9))
abbrev Di6:Ty:=.pair (.agg C4) Di5
abbrev Di7:=(List T6)×Int
abbrev Di8:=(List D7)×Int
abbrev Bk0:Ty:=.pair .bool X4
abbrev Di9:Ty:=.pair (.agg AL1) (.agg (.pair tI (.pair tI .bool)))
abbrev Dj0:Ty:=.pair (.agg (.pair tI .bool)) Di9
abbrev Dj1:Ty:=.pair (.agg Bk0) Dj0
abbrev Dj2:Ty:=.pair (.agg Z6) Dj1
abbrev Dj3:Ty:=.pair tI Dj2
abbrev Dj4:Ty:=.pair (.agg (.pair tI tI)) Dj3
abbrev Dj5:Ty:=.pair (.agg X4) Dj4
abbrev Dj6:Ty:=.pair (.agg Bj6) Dj5
abbrev Dj7:Ty:=.pair (.slice tI) Dj6
abbrev Dj8:Ty:=.pair (.agg (.pair tI tI)) Dj7
abbrev Dj9:Ty:=.pair tI Dj8
abbrev Dk0:Ty:=.pair .bool Dj9
abbrev Dk1:Ty:=.pair (.agg E1) Dk0
abbrev Dk2:Ty:=.pair (.agg C4) Dk1
def tys:List (Nat×TD):=[
 (2,⟨some tI,[.dat tI (0:Int)],.scalar⟩),
 (3,⟨some tI,[.dat tI (0:Int)],.scalar⟩),
 (4,⟨some .bool,[.dat .bool false],.scalar⟩),
 (5,⟨some (.int .u8),[.dat (.int .u8) (0:Int)],.scalar⟩),
 (9,⟨some .str,[.dat .str ByteArray.empty],.scalar⟩),
 (21,⟨some (.int .i32),[.dat (.int .i32) (0:Int)],.scalar⟩),
 (23,⟨some (.agg C4),FD7 14 (.dat tI (0:Int)),.struct [(2,0,1),(2,1,1),(2,2,1),(2,3,1),(2,4,1),(2,5,1),(2,6,1),(2,7,1),(2,8,1),(3,9,1),(2,10,1),(2,11,1),(3,12,1),(2,13,1)]⟩),
 (24,⟨some (.slice (.agg Yt1)),[.nil],.slice 67 3 56⟩),
 (25,⟨some (.slice (.agg Yt3)),[.nil],.slice 71 5 40⟩),
 (27,⟨some (.agg E1),[.nil,.nil],.struct [(24,0,1),(25,1,1)]⟩),
 (28,⟨some (.slice (.agg (.pair (.slice (.slice (.int .u8))) .bool))),[.nil],.slice 33 2 32⟩),
 (30,⟨none,[.undef],.scalar⟩),
 (31,⟨some (.slice (.slice (.int .u8))),[.nil],.slice 34 1 24⟩),
 (33,⟨some (.agg (.pair (.slice (.slice (.int .u8))) .bool)),[.nil,.dat .bool false],.struct [(31,0,1),(4,1,1)]⟩),
 (34,⟨some (.slice (.int .u8)),[.nil],.slice 5 1 1⟩),
 (38,⟨some (.agg (.pair tI (.pair tI tI))),[.dat tI (0:Int),.dat tI (0:Int),.dat tI (0:Int)],.struct [(3,0,1),(3,1,1),(2,2,1)]⟩),
 (40,⟨some (.slice (.agg M5)),[.nil],.slice 49 32 232⟩),
 (44,⟨some (.agg (.pair tI tI)),[.dat tI (0:Int),.dat tI (0:Int)],.struct [(2,0,1),(2,1,1)]⟩),
 (45,⟨some (.slice (.slice tI)),[.nil],.slice 65 1 24⟩),
 (46,⟨some (.agg (.pair tI tI)),[.dat tI (0:Int),.dat tI (0:Int)],.array 2 3 1⟩),
 (47,⟨some (.agg X4),[.dat tI (0:Int),.dat tI (0:Int),.dat tI (0:Int),.dat tI (0:Int)],.array 2 44 2⟩),
 (49,⟨some (.agg M5),[.dat tI (0:Int),.dat tI (0:Int),.dat tI (0:Int),.dat tI (0:Int),.dat tI (0:Int),.dat tI (0:Int),.dat tI (0:Int),.dat tI (0:Int),.dat tI (0:Int),.dat tI (0:Int),.nil,.dat tI (0:Int),.dat .bool false,.dat .bool false,.dat tI (0:Int),.dat tI (0:Int),.dat .bool false,.dat .bool false,.dat .bool false,.dat .bool false,.dat .bool false,.dat tI (0:Int),.dat tI (0:Int),.dat tI (0:Int),.dat tI (0:Int),.dat tI (0:Int),.dat tI (0:Int),.dat tI (0:Int),.dat tI (0:Int),.dat tI (0:Int),.dat tI (0:Int),.dat tI (0:Int)],.struct [(3,0,1),(3,1,1),(3,2,1),(44,3,2),(2,5,1),(44,6,2),(2,8,1),(2,9,1),(45,10,1),(3,11,1),(4,12,1),(4,13,1),(46,14,2),(4,16,1),(4,17,1),(4,18,1),(4,19,1),(4,20,1),(44,21,2),(2,23,1),(47,24,4),(3,28,1),(3,29,1),(3,30,1),(3,31,1)]⟩),
 (51,⟨some (.slice (.agg AK9)),[.nil],.slice 56 11 20⟩),
 (52,⟨some (.int .u16),[.dat (.int .u16) (0:Int)],.scalar⟩),
 (53,⟨some (.agg (.pair (.int .u16) (.int .u16))),[.dat (.int .u16) (0:Int),.dat (.int .u16) (0:Int)],.array 2 52 1⟩),
 (54,⟨some (.agg Yt5),[.dat .bool false,.dat .bool false,.dat .bool false,.dat .bool false,.dat .bool false],.array 5 4 1⟩),
 (56,⟨some (.agg AK9),[.dat (.int .u16) (0:Int),.dat (.int .u16) (0:Int),.dat (.int .i32) (0:Int),.dat (.int .i32) (0:Int),.dat (.int .u16) (0:Int),.dat .bool false,.dat .bool false,.dat .bool false,.dat .bool false,.dat .bool false,.dat .bool false],.struct [(53,0,2),(21,2,1),(21,3,1),(52,4,1),(54,5,5),(4,10,1)]⟩),
 (63,⟨some (.agg (.pair tI tI)),[.dat tI (0:Int),.dat tI (0:Int)],.array 2 2 1⟩),
 (64,⟨some (.slice (.agg (.pair tI tI))),[.nil],.slice 69 2 16⟩),
 (65,⟨some (.slice tI),[.nil],.slice 3 1 8⟩),
 (67,⟨some (.agg Yt1),[.dat tI (0:Int),.nil,.nil],.struct [(2,0,1),(64,1,1),(65,2,1)]⟩),
 (69,⟨some (.agg (.pair tI tI)),[.dat tI (0:Int),.dat tI (0:Int)],.struct [(2,0,1),(2,1,1)]⟩),
 (71,⟨some (.agg Yt3),[.dat tI (0:Int),.dat tI (0:Int),.dat tI (0:Int),.dat tI (0:Int),.dat tI (0:Int)],.struct [(3,0,1),(3,1,1),(2,2,1),(2,3,1),(2,4,1)]⟩),
 (73,⟨some (.int .u64),[.dat (.int .u64) (0:Int)],.scalar⟩),
 (80,⟨some (.agg C4),FD7 14 (.dat tI (0:Int)),.struct [(2,0,1),(2,1,1),(2,2,1),(2,3,1),(2,4,1),(2,5,1),(2,6,1),(2,7,1),(2,8,1),(3,9,1),(2,10,1),(2,11,1),(3,12,1),(2,13,1)]⟩),
 (85,⟨some (.agg Yt3),[.dat tI (0:Int),.dat tI (0:Int),.dat tI (0:Int),.dat tI (0:Int),.dat tI (0:Int)],.array 5 2 1⟩),
 (87,⟨some (.agg (.pair tI (.slice (.slice tI)))),[.dat tI (0:Int),.nil],.struct [(2,0,1),(45,1,1)]⟩),
 (90,⟨some (.slice tI),[.nil],.slice 2 1 8⟩),
 (92,⟨some (.agg Aw2),[.dat tI (0:Int),.dat tI (0:Int),.dat tI (0:Int),.dat tI (0:Int),.dat tI (0:Int),.dat tI (0:Int)],.array 6 3 1⟩),
 (93,⟨some (.int .u64),[.dat (.int .u64) (0:Int)],.scalar⟩),
 (97,⟨some (.slice (.agg Yt1)),[.nil],.slice 157 3 56⟩),
 (98,⟨some (.slice (.agg Yt3)),[.nil],.slice 160 5 40⟩),
 (100,⟨some (.agg E1),[.nil,.nil],.struct [(97,0,1),(98,1,1)]⟩),
 (107,⟨some (.agg (.pair .bool (.pair (.int .u16) tI))),[.dat .bool false,.dat (.int .u16) (0:Int),.dat tI (0:Int)],.struct [(4,0,1),(52,1,1),(2,2,1)]⟩),
 (108,⟨some (.agg Bj6),[.dat .bool false,.dat (.int .u16) (0:Int),.dat tI (0:Int),.dat .bool false,.dat (.int .u16) (0:Int),.dat tI (0:Int)],.array 2 107 3⟩),
 (109,⟨some (.slice (.agg H8)),[.nil],.slice 195 13 104⟩),
 (111,⟨some (.agg V5),[.dat tI (0:Int),.nil],.struct [(2,0,1),(109,1,1)]⟩),
 (113,⟨some (.agg Z6),[.dat .bool false,.dat tI (0:Int),.dat tI (0:Int),.dat tI (0:Int),.dat tI (0:Int),.dat tI (0:Int),.nil],.struct [(4,0,1),(3,1,1),(44,2,2),(2,4,1),(111,5,2)]⟩),
 (115,⟨some (.agg Bk0),[.dat .bool false,.dat tI (0:Int),.dat tI (0:Int),.dat tI (0:Int),.dat tI (0:Int)],.struct [(4,0,1),(44,1,2),(63,3,2)]⟩),
 (117,⟨some (.agg (.pair tI .bool)),[.dat tI (0:Int),.dat .bool false],.struct [(3,0,1),(4,1,1)]⟩),
 (119,⟨some (.agg AL1),[.dat .bool false,.dat .bool false,.dat tI (0:Int),.dat tI (0:Int)],.struct [(4,0,1),(4,1,1),(44,2,2)]⟩),
 (121,⟨some (.agg (.pair tI (.pair tI .bool))),[.dat tI (0:Int),.dat tI (0:Int),.dat .bool false],.struct [(3,0,1),(3,1,1),(4,2,1)]⟩),
 (123,⟨some (.agg Dk2),[.dat tI (0:Int),.dat tI (0:Int),.dat tI (0:Int),.dat tI (0:Int),.dat tI (0:Int),.dat tI (0:Int),.dat tI (0:Int),.dat tI (0:Int),.dat tI (0:Int),.dat tI (0:Int),.dat tI (0:Int),.dat tI (0:Int),.dat tI (0:Int),.dat tI (0:Int),.nil,.nil,.dat .bool false,.dat tI (0:Int),.dat tI (0:Int),.dat tI (0:Int),.nil,.dat .bool false,.dat (.int .u16) (0:Int),.dat tI (0:Int),.dat .bool false,.dat (.int .u16) (0:Int),.dat tI (0:Int),.dat tI (0:Int),.dat tI (0:Int),.dat tI (0:Int),.dat tI (0:Int),.dat tI (0:Int),.dat tI (0:Int),.dat tI (0:Int),.dat .bool false,.dat tI (0:Int),.dat tI (0:Int),.dat tI (0:Int),.dat tI (0:Int),.dat tI (0:Int),.nil,.dat .bool false,.dat tI (0:Int),.dat tI (0:Int),.dat tI (0:Int),.dat tI (0:Int),.dat tI (0:Int),.dat .bool false,.dat .bool false,.dat .bool false,.dat tI (0:Int),.dat tI (0:Int),.dat tI (0:Int),.dat tI (0:Int),.dat .bool false],.struct [(23,0,14),(100,14,2),(4,16,1),(3,17,1),(44,18,2),(90,20,1),(108,21,6),(47,27,4),(44,31,2),(2,33,1),(113,34,7),(115,41,5),(117,46,2),(119,48,4),(121,52,3)]⟩),
 (127,⟨some (.agg Bi7),[.dat .bool false,.dat .bool false,.dat .bool false,.dat .bool false,.dat .bool false,.dat .bool false],.array 6 4 1⟩),
 (128,⟨some (.agg Aw2),[.dat tI (0:Int),.dat tI (0:Int),.dat tI (0:Int),.dat tI (0:Int),.dat tI (0:Int),.dat tI (0:Int)],.array 6 2 1⟩),
 (130,⟨some (.agg X6),[.dat .bool false,.dat .bool false,.dat .bool false,.dat .bool false,.dat .bool false,.dat .bool false,.dat tI (0:Int),.dat tI (0:Int),.dat tI (0:Int),.dat tI (0:Int),.dat tI (0:Int),.dat tI (0:Int),.dat tI (0:Int),.dat tI (0:Int),.dat tI (0:Int),.dat tI (0:Int)],.struct [(127,0,6),(128,6,6),(3,12,1),(3,13,1),(3,14,1),(3,15,1)]⟩),
 (133,⟨some (.agg AR5),[.dat tI (0:Int),.dat tI (0:Int),.dat tI (0:Int),.dat .bool false,.dat .bool false,.dat tI (0:Int),.dat tI (0:Int)],.struct [(44,0,2),(3,2,1),(4,3,1),(4,4,1),(46,5,2)]⟩),
 (137,⟨some (.agg Aj2),[.dat tI (0:Int),.nil,.dat .bool false,.dat .bool false],.struct [(3,0,1),(90,1,1),(4,2,1),(4,3,1)]⟩),
 (153,⟨some (.agg (.pair (.slice (.int .u8)) .bool)),[.nil,.dat .bool false],.struct [(34,0,1),(4,1,1)]⟩),
 (155,⟨some (.slice (.agg (.pair tI tI))),[.nil],.slice 165 2 16⟩),
 (157,⟨some (.agg Yt1),[.dat tI (0:Int),.nil,.nil],.struct [(2,0,1),(155,1,1),(65,2,1)]⟩),
 (160,⟨some (.agg Yt3),[.dat tI (0:Int),.dat tI (0:Int),.dat tI (0:Int),.dat tI (0:Int),.dat tI (0:Int)],.struct [(3,0,1),(3,1,1),(2,2,1),(2,3,1),(2,4,1)]⟩),
 (165,⟨some (.agg (.pair tI tI)),[.dat tI (0:Int),.dat tI (0:Int)],.struct [(2,0,1),(2,1,1)]⟩),
 (171,⟨some (.agg (.pair .bool (.agg (.pair tI tI)))),[.dat .bool false,.dat tI (0:Int),.dat tI (0:Int)],.struct [(4,0,1),(44,1,2)]⟩),
 (174,⟨some (.agg Aj0),[.dat .bool false,.dat tI (0:Int),.dat tI (0:Int),.dat .bool false,.dat tI (0:Int),.dat tI (0:Int),.dat .bool false,.dat tI (0:Int),.dat tI (0:Int)],.array 3 171 3⟩),
 (193,⟨some (.agg BL1),FD7 12 (.dat tI (0:Int)),.array 12 3 1⟩),
 (195,⟨some (.agg H8),FD7 13 (.dat tI (0:Int)),.struct [(3,0,1),(193,1,12)]⟩),
 (209,⟨none,[.nil],.slice 30 1 8⟩),
 (212,⟨some (.agg (.pair tI (.pair tI tI))),[.dat tI (0:Int),.dat tI (0:Int),.dat tI (0:Int)],.struct [(3,0,1),(3,1,1),(2,2,1)]⟩),
 (220,⟨some (.slice (.agg (.pair tI tI))),[.nil],.slice 44 2 16⟩),
 (247,⟨some (.int .u32),[.dat (.int .u32) (0:Int)],.scalar⟩),
 (268,⟨some (.agg (.pair (.int .u64) (.int .u64))),[.dat (.int .u64) (0:Int),.dat (.int .u64) (0:Int)],.struct [(73,0,1),(73,1,1)]⟩),
 (271,⟨some (.int .i16),[.dat (.int .i16) (0:Int)],.scalar⟩)]
theorem AL2:Aw1 Tryz.prog tys=true:=by kernel_rfl
end Go.Proofs.YthfjpkdadjemcaaGreat
