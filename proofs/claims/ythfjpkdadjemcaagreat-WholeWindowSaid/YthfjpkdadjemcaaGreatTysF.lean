/- The functional reading of the code (printed). -/
import Derived.Test.YthfjpkdadjemcaaGreatM4
import Derived.Test.YthfjpkdadjemcaaGreatProg
set_option linter.unusedSimpArgs false
set_option linter.unusedVariables false
namespace Go.Proofs.YthfjpkdadjemcaaGreat
open Go
open _root_.List renaming replicate → FK5
abbrev tI:Ty:=.int .i64
def H0:Hint:=.mk .plain []
abbrev Yt1:Ty:=.pair tI (.pair (.slice (.agg (.pair tI tI))) (.slice tI))
abbrev Yd1:=Int×((List (Int×Int))×(List Int))
abbrev Yt2:Ty:=.pair tI (.pair tI (.pair tI tI))
abbrev Yd2:=Int×(Int×(Int×Int))
abbrev Yt3:Ty:=.pair tI Yt2
abbrev Yd3:=Int×Yd2
abbrev Yt4:Ty:=.pair .bool (.pair .bool (.pair .bool .bool))
abbrev Yd4:=Bool×(Bool×(Bool×Bool))
abbrev Yt5:Ty:=.pair .bool Yt4
abbrev Yd5:=Bool×Yd4
abbrev Yt6:Ty:=.pair (.agg Yt5) .bool
abbrev Yd6:=Yd5×Bool
abbrev Yt7:Ty:=.pair (.int .u16) Yt6
abbrev Yd7:=Int×Yd6
abbrev Yt8:Ty:=.pair (.int .i32) Yt7
abbrev Yd8:=Int×Yd7
abbrev Yt9:Ty:=.pair (.int .i32) Yt8
abbrev Yd9:=Int×Yd8
abbrev Ac1:Ty:=.pair (.agg (.pair (.int .u16) (.int .u16))) Yt9
abbrev AH1:=(Int×Int)×Yd9
abbrev Cd4:=Bool×((List Int)×(List (Int×Int)))
abbrev Cd5:=(List Int)×(List Yd1)
abbrev Cd6:=Bool×Cd5
abbrev Cd7:=(List Int)×(List Yd3)
abbrev Cd8:=Bool×Cd7
abbrev Cd9:=Int×(Int×(Int×Int))
abbrev BJ6:=Bool×(Int×(Int×Int))
abbrev Ce0:=Bool×BJ6
abbrev Ce1:=Int×Ce0
abbrev Ce2:=Int×Ce1
abbrev Ce3:=Int×Ce2
abbrev Ce4:=Bool×Ce3
abbrev Ce5:Ty:=.pair .bool (.pair .bool (.pair tI tI))
abbrev Ce6:=Bool×(Bool×(Int×Int))
abbrev Ce7:Ty:=.pair tI Ce5
abbrev Ce8:=Int×Ce6
abbrev Ce9:Ty:=.pair tI Ce7
abbrev Cf0:=Int×Ce8
abbrev Bh2:Ty:=.pair tI Ce9
abbrev Cf1:=Int×Cf0
abbrev Cf2:=Bool×Ce4
abbrev Cf3:=Int×Cf2
abbrev Cf4:=Int×Cf3
abbrev Cf5:=Int×Cf4
abbrev Cf6:=Int×Cf5
abbrev Cf7:=Bool×Cf6
abbrev Cf8:=Bool×Cf7
abbrev Cf9:=(List Yd1)×Bool
abbrev Cg0:=Int×Cf9
abbrev Cg1:=Int×Cg0
abbrev Cg2:=Int×Cg1
abbrev Cg3:=(List Yd3)×Cg2
abbrev Cg4:=Int×Cg3
abbrev Cg5:=Int×(List Yd1)
abbrev Cg6:=Int×Cg5
abbrev Cg7:=(List Yd3)×Cg6
abbrev Cg8:=Bool×Cg7
abbrev Cg9:=Int×Cg8
abbrev Bh3:=Int×Cg9
abbrev Ch0:=Int×(Int×(Bool×Int))
abbrev Ch1:=Int×Ch0
abbrev Bh4:Ty:=.pair tI (.pair tI (.pair tI .bool))
abbrev Bh5:=Int×(Int×(Int×Bool))
abbrev Ch2:Ty:=.pair tI Bh4
abbrev Bh6:=Int×Bh5
abbrev Ch3:=Int×Bh6
abbrev Ch4:=Bool×Ch3
abbrev Av6:Ty:=.pair tI Yt3
abbrev BJ7:=Int×Yd3
abbrev Ch5:Ty:=.pair tI Av6
abbrev Ch6:=Int×BJ7
abbrev Ch7:Ty:=.pair tI Ch5
abbrev Ch8:=Int×Ch6
abbrev Ch9:Ty:=.pair tI Ch7
abbrev Ci0:=Int×Ch8
abbrev Bh7:Ty:=.pair tI Ch9
abbrev Bh8:=Int×Ci0
abbrev Bh9:Ty:=.pair tI Bh7
abbrev Bi0:=Int×Bh8
abbrev BJ8:Ty:=.pair tI Bh9
abbrev Bi1:=Int×Bi0
abbrev I1:Ty:=.pair tI (.agg BJ8)
abbrev H2:=Int×Bi1
abbrev Ci1:=Bool×Yd2
abbrev Y8:Ty:=.pair (.agg (.pair tI tI)) (.agg (.pair tI tI))
abbrev Bi2:=(Int×Int)×(Int×Int)
abbrev Ci2:Ty:=.pair (.agg Y8) Yt2
abbrev Ci3:=Bi2×Yd2
abbrev Ci4:Ty:=.pair tI Ci2
abbrev Ci5:=Int×Ci3
abbrev Ci6:Ty:=.pair (.agg (.pair tI tI)) Ci4
abbrev Ci7:=(Int×Int)×Ci5
abbrev Ci8:Ty:=.pair .bool Ci6
abbrev Ci9:=Bool×Ci7
abbrev Cj0:Ty:=.pair .bool Ci8
abbrev Cj1:=Bool×Ci9
abbrev Cj2:Ty:=.pair .bool Cj0
abbrev Cj3:=Bool×Cj1
abbrev Cj4:Ty:=.pair .bool Cj2
abbrev Cj5:=Bool×Cj3
abbrev Cj6:Ty:=.pair .bool Cj4
abbrev Cj7:=Bool×Cj5
abbrev Cj8:Ty:=.pair (.agg (.pair tI tI)) Cj6
abbrev Cj9:=(Int×Int)×Cj7
abbrev Ck0:Ty:=.pair .bool Cj8
abbrev Ck1:=Bool×Cj9
abbrev Ck2:Ty:=.pair .bool Ck0
abbrev Ck3:=Bool×Ck1
abbrev Ck4:Ty:=.pair tI Ck2
abbrev Ck5:=Int×Ck3
abbrev Ck6:Ty:=.pair (.slice (.slice tI)) Ck4
abbrev Ck7:=(List (List Int))×Ck5
abbrev Ck8:Ty:=.pair tI Ck6
abbrev Ck9:=Int×Ck7
abbrev Cl0:Ty:=.pair tI Ck8
abbrev Cl1:=Int×Ck9
abbrev Cl2:Ty:=.pair (.agg (.pair tI tI)) Cl0
abbrev Cl3:=(Int×Int)×Cl1
abbrev Cl4:Ty:=.pair tI Cl2
abbrev Cl5:=Int×Cl3
abbrev Cl6:Ty:=.pair (.agg (.pair tI tI)) Cl4
abbrev Cl7:=(Int×Int)×Cl5
abbrev Cl8:Ty:=.pair tI Cl6
abbrev Cl9:=Int×Cl7
abbrev Cm0:Ty:=.pair tI Cl8
abbrev Cm1:=Int×Cl9
abbrev AD5:Ty:=.pair tI Cm0
abbrev O2:=Int×Cm1
abbrev Cm2:=(List (List Int))×(Int×((List (List Int))×(List (List Int))))
abbrev Bi3:=Int×((List (List Int))×((List (List Int))×(List (List Int))))
abbrev V1:Ty:=.pair tI (.slice (.agg I1))
abbrev AK9:=Int×(List H2)
abbrev D3:Ty:=.pair (.slice (.agg Yt1)) (.slice (.agg Yt3))
abbrev I2:=(List Yd1)×(List Yd3)
abbrev Cm3:Ty:=.pair (.agg D3) (.agg I1)
abbrev Cm4:Ty:=.pair (.agg V1) Cm3
abbrev Bi4:Ty:=.pair (.agg D3) (.slice (.agg (.pair (.slice (.slice (.int .u8))) .bool)))
abbrev Cm5:Ty:=.pair tI BJ8
abbrev Cm6:=Int×Bi1
abbrev C2:Ty:=.pair tI Cm5
abbrev F0:=Int×Cm6
abbrev Cm7:Ty:=.pair (.agg Yt1) tI
abbrev Bi5:Ty:=.pair (.agg C2) (.agg D3)
abbrev Cm8:Ty:=.pair tI (.pair tI (.pair (.slice (.int .u8)) .bool))
abbrev Cm9:Ty:=.pair (.agg (.pair tI tI)) (.pair (.slice (.int .u8)) .bool)
abbrev Cn0:=(Int×Int)×((List Int)×Bool)
abbrev Cn1:Ty:=.pair (.slice (.agg (.pair tI tI))) (.pair (.slice (.int .u8)) .bool)
abbrev Cn2:=(List (Int×Int))×((List Int)×Bool)
abbrev Cn3:=Bool×((List (Int×Int))×(List Int))
abbrev Cn4:=Int×Cn3
abbrev Cn5:=Int×(Bool×((List Int)×(List Int)))
abbrev Cn6:Ty:=.pair (.agg Yt1) (.pair (.slice (.int .u8)) .bool)
abbrev Cn7:=Yd1×((List Int)×Bool)
abbrev Cn8:Ty:=.pair (.slice (.agg Yt1)) (.pair (.slice (.int .u8)) .bool)
abbrev Cn9:=(List Yd1)×((List Int)×Bool)
abbrev Co0:=(List Yd1)×(List Int)
abbrev Co1:=Bool×Co0
abbrev Co2:=Int×Co1
abbrev Co3:Ty:=.pair (.agg Yt3) (.pair (.slice (.int .u8)) .bool)
abbrev Co4:=Yd3×((List Int)×Bool)
abbrev Co5:Ty:=.pair (.slice (.agg Yt3)) (.pair (.slice (.int .u8)) .bool)
abbrev Co6:=(List Yd3)×((List Int)×Bool)
abbrev Co7:=(List Yd3)×(List Int)
abbrev Co8:=Bool×Co7
abbrev Co9:=Int×Co8
abbrev Cp0:Ty:=.pair (.agg D3) (.agg Yt1)
abbrev Cp1:Ty:=.pair tI (.agg Yt3)
abbrev Cp2:Ty:=.pair (.agg D3) Cp1
abbrev BJ9:Ty:=.pair (.agg D3) tI
abbrev Cp3:=I2×Int
abbrev Y9:Ty:=.pair .bool C2
abbrev Z0:=Bool×F0
abbrev BK0:Ty:=.pair (.agg (.pair (.int .u64) (.int .u64))) (.agg (.pair (.int .u64) (.int .u64)))
abbrev Cp4:Ty:=.pair (.agg (.pair (.int .u64) (.int .u64))) (.pair (.int .u64) tI)
abbrev Cp5:=(Int×Int)×(Int×Int)
abbrev Cp6:=Int×(Int×(Int×Int))
abbrev Cp7:=Int×Cp6
abbrev Bi6:Ty:=.pair (.agg C2) (.agg Yt3)
abbrev Cp8:Ty:=.pair (.slice (.agg (.pair tI tI))) (.agg (.pair tI tI))
abbrev Cp9:Ty:=.pair .bool Ch2
abbrev Cq0:=Bool×Bh6
abbrev Cq1:Ty:=.pair .bool Cp9
abbrev Cq2:=Bool×Cq0
abbrev Cq3:Ty:=.pair .bool Cq1
abbrev Cq4:=Bool×Cq2
abbrev Cq5:Ty:=.pair tI Cq3
abbrev Cq6:=Int×Cq4
abbrev Cq7:Ty:=.pair tI Cq5
abbrev Cq8:=Int×Cq6
abbrev Cq9:Ty:=.pair tI Cq7
abbrev Cr0:=Int×Cq8
abbrev Cr1:Ty:=.pair tI Cq9
abbrev Cr2:=Int×Cr0
abbrev Cr3:Ty:=.pair tI Cr1
abbrev Cr4:=Int×Cr2
abbrev Cr5:Ty:=.pair .bool Cr3
abbrev Cr6:=Bool×Cr4
abbrev Cr7:Ty:=.pair (.slice (.agg I1)) Cr5
abbrev Cr8:=(List H2)×Cr6
abbrev Cr9:Ty:=.pair tI Cr7
abbrev Cs0:=Int×Cr8
abbrev Cs1:Ty:=.pair tI Cr9
abbrev Cs2:=Int×Cs0
abbrev Cs3:Ty:=.pair tI Cs1
abbrev Cs4:=Int×Cs2
abbrev Cs5:Ty:=.pair tI Cs3
abbrev Cs6:=Int×Cs4
abbrev Cs7:Ty:=.pair tI Cs5
abbrev Cs8:=Int×Cs6
abbrev Cs9:Ty:=.pair .bool Cs7
abbrev Ct0:=Bool×Cs8
abbrev Ct1:Ty:=.pair tI Cs9
abbrev Ct2:=Int×Ct0
abbrev Ct3:Ty:=.pair tI Ct1
abbrev Ct4:=Int×Ct2
abbrev Ct5:Ty:=.pair tI Ct3
abbrev Ct6:=Int×Ct4
abbrev Ct7:Ty:=.pair tI Ct5
abbrev Ct8:=Int×Ct6
abbrev Ct9:Ty:=.pair tI Ct7
abbrev Cu0:=Int×Ct8
abbrev Cu1:Ty:=.pair tI Ct9
abbrev Cu2:=Int×Cu0
abbrev Cu3:Ty:=.pair tI Cu1
abbrev Cu4:=Int×Cu2
abbrev Cu5:Ty:=.pair tI Cu3
abbrev Cu6:=Int×Cu4
abbrev Cu7:Ty:=.pair (.int .u16) Cu5
abbrev Cu8:=Int×Cu6
abbrev Cu9:Ty:=.pair .bool Cu7
abbrev Cv0:=Bool×Cu8
abbrev Cv1:Ty:=.pair tI Cu9
abbrev Cv2:=Int×Cv0
abbrev Cv3:Ty:=.pair (.int .u16) Cv1
abbrev Cv4:=Int×Cv2
abbrev Cv5:Ty:=.pair .bool Cv3
abbrev Cv6:=Bool×Cv4
abbrev Cv7:Ty:=.pair (.slice tI) Cv5
abbrev Cv8:=(List Int)×Cv6
abbrev Cv9:Ty:=.pair tI Cv7
abbrev Cw0:=Int×Cv8
abbrev Cw1:Ty:=.pair tI Cv9
abbrev Cw2:=Int×Cw0
abbrev Cw3:Ty:=.pair tI Cw1
abbrev Cw4:=Int×Cw2
abbrev Cw5:Ty:=.pair .bool Cw3
abbrev Cw6:=Bool×Cw4
abbrev Cw7:Ty:=.pair (.slice (.agg Yt3)) Cw5
abbrev Cw8:=(List Yd3)×Cw6
abbrev Cw9:Ty:=.pair (.slice (.agg Yt1)) Cw7
abbrev Cx0:=(List Yd1)×Cw8
abbrev Cx1:Ty:=.pair tI Cw9
abbrev Cx2:=Int×Cx0
abbrev Cx3:Ty:=.pair tI Cx1
abbrev Cx4:=Int×Cx2
abbrev Cx5:Ty:=.pair tI Cx3
abbrev Cx6:=Int×Cx4
abbrev Cx7:Ty:=.pair tI Cx5
abbrev Cx8:=Int×Cx6
abbrev Cx9:Ty:=.pair tI Cx7
abbrev Cy0:=Int×Cx8
abbrev Cy1:Ty:=.pair tI Cx9
abbrev Cy2:=Int×Cy0
abbrev Cy3:Ty:=.pair tI Cy1
abbrev Cy4:=Int×Cy2
abbrev Cy5:Ty:=.pair tI Cy3
abbrev Cy6:=Int×Cy4
abbrev Cy7:Ty:=.pair tI Cy5
abbrev Cy8:=Int×Cy6
abbrev Cy9:Ty:=.pair tI Cy7
abbrev Cz0:=Int×Cy8
abbrev Cz1:Ty:=.pair tI Cy9
abbrev Cz2:=Int×Cz0
abbrev Cz3:Ty:=.pair tI Cz1
abbrev Cz4:=Int×Cz2
abbrev Cz5:Ty:=.pair tI Cz3
abbrev Cz6:=Int×Cz4
abbrev X2:Ty:=.pair tI Cz5
abbrev AH2:=Int×Cz6
abbrev Cz7:Ty:=.pair (.agg C2) (.slice (.int .u8))
abbrev Cz8:Ty:=.pair (.agg (.pair tI (.pair tI tI))) tI
abbrev Cz9:=(Int×(Int×Int))×Int
abbrev DA0:Ty:=.pair .bool Bh7
abbrev DA1:=Bool×Bh8
abbrev DA2:Ty:=.pair .bool DA0
abbrev DA3:=Bool×DA1
abbrev DA4:Ty:=.pair .bool DA2
abbrev DA5:=Bool×DA3
abbrev DA6:Ty:=.pair .bool DA4
abbrev DA7:=Bool×DA5
abbrev DA8:Ty:=.pair .bool DA6
abbrev DA9:=Bool×DA7
abbrev Bi7:Ty:=.pair .bool DA8
abbrev DB0:=Bool×DA9
abbrev DB1:Ty:=.pair (.slice (.int .u8)) Bi7
abbrev DB2:Ty:=.pair tI DB1
abbrev Bi8:Ty:=.pair .bool Yt5
abbrev DB3:=Bool×Yd5
abbrev DB4:Ty:=.pair (.agg Av6) Yt2
abbrev DB5:=BJ7×Yd2
abbrev X3:Ty:=.pair (.agg Bi8) DB4
abbrev AH3:=DB3×DB5
abbrev DB6:=Bool×Ci1
abbrev DB7:=Int×DB6
abbrev DB8:=Int×DB7
abbrev DB9:=Int×DB8
abbrev DC0:=Bool×DB9
abbrev DC1:=Bool×DC0
abbrev DC2:=Int×DC1
abbrev DC3:=Int×DC2
abbrev DC4:=Int×DC3
abbrev DC5:=Int×DC4
abbrev DC6:=Bool×DC5
abbrev DC7:=Bool×DC6
abbrev DC8:Ty:=.pair (.agg X3) tI
abbrev Bi9:Ty:=.pair (.agg (.pair .bool (.pair (.int .u16) tI))) (.pair tI .bool)
abbrev DC9:=(Bool×(Int×Int))×(Int×Bool)
abbrev BK1:Ty:=.pair (.agg (.pair tI tI)) (.pair tI tI)
abbrev DD0:Ty:=.pair tI (.pair (.agg (.pair tI tI)) tI)
abbrev DD1:Ty:=.pair (.agg (.pair .bool (.agg (.pair tI tI)))) X2
abbrev DD2:=(Bool×(Int×Int))×AH2
abbrev Bj0:Ty:=.pair (.agg X3) X2
abbrev DD3:Ty:=.pair tI Bj0
abbrev BK2:Ty:=.pair (.agg C2) tI
abbrev DD4:Ty:=.pair tI (.pair .bool (.pair tI .bool))
abbrev DD5:Ty:=.pair .bool (.agg X3)
abbrev DD6:Ty:=.pair tI DD5
abbrev DD7:Ty:=.pair tI DD6
abbrev DD8:Ty:=.pair tI DD7
abbrev DD9:Ty:=.pair tI DD8
abbrev DE0:Ty:=.pair .bool DD9
abbrev DE1:Ty:=.pair .bool DE0
abbrev DE2:Ty:=.pair .bool DE1
abbrev DE3:Ty:=.pair tI DE2
abbrev DE4:Ty:=.pair tI DE3
abbrev DE5:Ty:=.pair tI DE4
abbrev DE6:Ty:=.pair tI DE5
abbrev DE7:Ty:=.pair tI DE6
abbrev DE8:Ty:=.pair .bool DE7
abbrev DE9:Ty:=.pair (.slice (.agg I1)) DE8
abbrev DF0:Ty:=.pair tI DE9
abbrev DF1:Ty:=.pair tI DF0
abbrev DF2:Ty:=.pair tI DF1
abbrev DF3:Ty:=.pair tI DF2
abbrev DF4:Ty:=.pair tI DF3
abbrev DF5:Ty:=.pair .bool DF4
abbrev DF6:Ty:=.pair tI DF5
abbrev DF7:Ty:=.pair tI DF6
abbrev DF8:Ty:=.pair tI DF7
abbrev DF9:Ty:=.pair tI DF8
abbrev DG0:Ty:=.pair tI DF9
abbrev DG1:Ty:=.pair tI DG0
abbrev DG2:Ty:=.pair tI DG1
abbrev DG3:Ty:=.pair tI DG2
abbrev DG4:Ty:=.pair (.int .u16) DG3
abbrev DG5:Ty:=.pair .bool DG4
abbrev DG6:Ty:=.pair tI DG5
abbrev DG7:Ty:=.pair (.int .u16) DG6
abbrev DG8:Ty:=.pair .bool DG7
abbrev DG9:Ty:=.pair (.slice tI) DG8
abbrev DH0:Ty:=.pair tI DG9
abbrev DH1:Ty:=.pair tI DH0
abbrev DH2:Ty:=.pair tI DH1
abbrev DH3:Ty:=.pair .bool DH2
abbrev DH4:Ty:=.pair (.slice (.agg Yt3)) DH3
abbrev DH5:Ty:=.pair (.slice (.agg Yt1)) DH4
abbrev DH6:Ty:=.pair tI DH5
abbrev DH7:Ty:=.pair tI DH6
abbrev DH8:Ty:=.pair tI DH7
abbrev DH9:Ty:=.pair tI DH8
abbrev DI0:Ty:=.pair tI DH9
abbrev DI1:Ty:=.pair tI DI0
abbrev DI2:Ty:=.pair tI DI1
abbrev DI3:Ty:=.pair tI DI2
abbrev DI4:Ty:=.pair tI DI3
abbrev DI5:Ty:=.pair tI DI4
abbrev DI6:Ty:=.pair tI DI5
abbrev DI7:Ty:=.pair tI DI6
abbrev DI8:Ty:=.pair tI DI7
abbrev Bj1:Ty:=.pair tI DI8
abbrev Bj2:Ty:=.pair (.agg C2) (.agg (.pair tI tI))
abbrev DI9:Ty:=.pair (.slice (.agg Yt3)) (.pair .bool (.pair tI tI))
abbrev DJ0:=(List Yd3)×(Bool×(Int×Int))
abbrev DJ1:Ty:=.pair (.slice (.agg Yt1)) DI9
abbrev DJ2:=(List Yd1)×DJ0
abbrev DJ3:Ty:=.pair tI DJ1
abbrev DJ4:=Int×DJ2
abbrev Av7:Ty:=.pair tI DJ3
abbrev Bj3:=Int×DJ4
abbrev DJ5:Ty:=.pair tI Av7
abbrev DJ6:Ty:=.pair tI DJ5
abbrev DJ7:=Int×Bh3
abbrev DJ8:=(List Yd1)×(Bool×Int)
abbrev DJ9:=Int×DJ8
abbrev DK0:=Int×DJ9
abbrev DK1:=Int×DK0
abbrev DK2:=Int×DK1
abbrev DK3:=(List Yd3)×DK2
abbrev DK4:=Int×DK3
abbrev DK5:Ty:=.pair (.agg D3) Av7
abbrev DK6:Ty:=.pair (.agg V1) DK5
abbrev Bj4:Ty:=.pair (.agg D3) (.agg (.pair tI tI))
abbrev DK7:Ty:=.pair (.agg V1) Bj4
abbrev DK8:Ty:=.pair (.agg C2) (.pair tI (.agg (.pair tI tI)))
abbrev DK9:Ty:=.pair (.agg (.pair .bool (.agg (.pair tI tI)))) (.agg (.pair .bool (.agg (.pair tI tI))))
abbrev DL0:=(Bool×(Int×Int))×(Bool×(Int×Int))
abbrev Ak0:Ty:=.pair (.agg (.pair .bool (.agg (.pair tI tI)))) DK9
abbrev BK3:=(Bool×(Int×Int))×DL0
abbrev DL1:Ty:=.pair (.agg (.pair tI tI)) (.pair .bool .bool)
abbrev DL2:=(Int×Int)×(Bool×Bool)
abbrev DL3:Ty:=.pair (.agg (.pair tI tI)) Bh2
abbrev DL4:Ty:=.pair (.agg (.pair tI tI)) (.slice (.agg (.pair tI tI)))
abbrev AL0:Ty:=.pair .bool (.pair .bool (.agg (.pair tI tI)))
abbrev AR6:=Bool×(Bool×(Int×Int))
abbrev DL5:Ty:=.pair tI AL0
abbrev DL6:=Int×AR6
abbrev AR7:Ty:=.pair (.agg (.pair tI tI)) DL5
abbrev Ak1:=(Int×Int)×DL6
abbrev DL7:=Int×Ch1
abbrev DL8:=Int×DL7
abbrev DL9:=Bool×DL8
abbrev DM0:Ty:=.pair (.agg Ak0) (.agg (.pair .bool (.agg (.pair tI tI))))
abbrev DM1:Ty:=.pair (.agg (.pair tI tI)) DM0
abbrev DM2:Ty:=.pair (.agg AR7) X2
abbrev DM3:=Ak1×AH2
abbrev DM4:Ty:=.pair tI (.agg V1)
abbrev DM5:=Int×AK9
abbrev DM6:Ty:=.pair (.agg (.pair tI tI)) DM4
abbrev DM7:=(Int×Int)×DM5
abbrev DM8:Ty:=.pair tI DM6
abbrev DM9:=Int×DM7
abbrev Z1:Ty:=.pair .bool DM8
abbrev AH4:=Bool×DM9
abbrev DN0:Ty:=.pair (.agg Z1) tI
abbrev DN1:=AH4×Int
abbrev DN2:Ty:=.pair (.agg Z1) Bj4
abbrev Bj5:Ty:=.pair .bool X2
abbrev DN3:=Bool×AH2
abbrev BK4:Ty:=.pair (.agg (.pair tI tI)) X2
abbrev DN4:Ty:=.pair (.agg Yt3) tI
abbrev DN5:Ty:=.pair (.slice (.agg Yt3)) tI
abbrev DN6:Ty:=.pair (.agg V1) (.pair (.agg (.pair tI tI)) tI)
abbrev DN7:Ty:=.pair (.agg D3) DN6
abbrev DN8:Ty:=.pair (.agg C2) DN7
abbrev DN9:Ty:=.pair (.slice tI) X2
abbrev DO0:=(List Int)×AH2
abbrev Bj6:Ty:=.pair tI X2
abbrev DO1:Ty:=.pair (.agg (.pair tI tI)) Bj6
abbrev DO2:Ty:=.pair (.agg Z1) DO1
abbrev Ak2:Ty:=.pair tI (.pair (.slice tI) (.pair .bool .bool))
abbrev BK5:=Int×((List Int)×(Bool×Bool))
abbrev DO3:Ty:=.pair (.agg Ak2) X2
abbrev DO4:=BK5×AH2
abbrev DO5:Ty:=.pair (.agg Z1) BK4
abbrev DO6:Ty:=.pair (.agg X3) DO5
abbrev DO7:Ty:=.pair (.agg D3) (.pair tI (.agg (.pair tI tI)))
abbrev DO8:Ty:=.pair (.agg C2) DO7
abbrev DO9:Ty:=.pair (.agg (.pair tI tI)) BK1
abbrev Bj7:Ty:=.pair (.agg (.pair .bool (.pair (.int .u16) tI))) (.agg (.pair .bool (.pair (.int .u16) tI)))
abbrev DP0:=(Bool×(Int×Int))×(Bool×(Int×Int))
abbrev DP1:Ty:=.pair (.agg Ak2) BK4
abbrev DP2:Ty:=.pair tI (.pair .bool (.pair .bool .bool))
abbrev DP3:Ty:=.pair (.agg C2) DP2
abbrev DP4:Ty:=.pair (.agg (.pair tI (.pair tI .bool))) DP3
abbrev DP5:Ty:=.pair (.agg C2) (.pair (.agg (.pair tI tI)) tI)
abbrev DP6:Ty:=.pair (.agg (.pair tI .bool)) DP5
abbrev DP7:Ty:=.pair (.agg C2) AL0
abbrev DP8:Ty:=.pair (.agg AL0) DP7
abbrev DP9:Ty:=.pair (.agg (.pair tI (.pair tI .bool))) (.pair .bool (.pair tI .bool))
abbrev DQ0:Ty:=.pair (.agg V1) tI
abbrev DQ1:Ty:=.pair (.slice tI) DQ0
abbrev DQ2:Ty:=.pair (.agg D3) DQ1
abbrev DQ3:Ty:=.pair .bool Bh9
abbrev DQ4:=Bool×Bi0
abbrev DQ5:Ty:=.pair .bool DQ3
abbrev DQ6:=Bool×DQ4
abbrev DQ7:Ty:=.pair .bool DQ5
abbrev DQ8:=Bool×DQ6
abbrev DQ9:Ty:=.pair .bool DQ7
abbrev DR0:=Bool×DQ8
abbrev DR1:Ty:=.pair .bool DQ9
abbrev DR2:=Bool×DR0
abbrev DR3:Ty:=.pair tI DR1
abbrev DR4:=Int×DR2
abbrev DR5:Ty:=.pair tI DR3
abbrev DR6:=Int×DR4
abbrev DR7:Ty:=.pair .bool DR5
abbrev DR8:=Bool×DR6
abbrev DR9:Ty:=.pair .bool DR7
abbrev DS0:=Bool×DR8
abbrev DS1:Ty:=.pair tI DR9
abbrev DS2:=Int×DS0
abbrev DS3:Ty:=.pair (.slice (.slice tI)) DS1
abbrev DS4:=(List (List Int))×DS2
abbrev DS5:Ty:=.pair tI DS3
abbrev DS6:=Int×DS4
abbrev DS7:Ty:=.pair tI DS5
abbrev DS8:=Int×DS6
abbrev DS9:Ty:=.pair tI DS7
abbrev DT0:=Int×DS8
abbrev DT1:Ty:=.pair tI DS9
abbrev DT2:=Int×DT0
abbrev DT3:Ty:=.pair tI DT1
abbrev DT4:=Int×DT2
abbrev DT5:Ty:=.pair tI DT3
abbrev DT6:=Int×DT4
abbrev DT7:Ty:=.pair tI DT5
abbrev DT8:=Int×DT6
abbrev DT9:Ty:=.pair tI DT7
abbrev DU0:=Int×DT8
abbrev DU1:Ty:=.pair tI DT9
abbrev DU2:=Int×DU0
abbrev DU3:Ty:=.pair tI DU1
abbrev DU4:=Int×DU2
abbrev DU5:Ty:=.pair .bool DU3
abbrev DU6:=Bool×DU4
abbrev DU7:Ty:=.pair tI DU5
abbrev DU8:=Int×DU6
abbrev DU9:Ty:=.pair tI DU7
abbrev DV0:=Int×DU8
abbrev DV1:Ty:=.pair tI DU9
abbrev DV2:=Int×DV0
abbrev DV3:Ty:=.pair tI DV1
abbrev DV4:=Int×DV2
abbrev DV5:Ty:=.pair .bool DV3
abbrev DV6:=Bool×DV4
abbrev DV7:Ty:=.pair .bool DV5
abbrev DV8:=Bool×DV6
abbrev DV9:Ty:=.pair .bool DV7
abbrev DW0:=Bool×DV8
abbrev DW1:Ty:=.pair tI DV9
abbrev DW2:=Int×DW0
abbrev DW3:Ty:=.pair tI DW1
abbrev DW4:=Int×DW2
abbrev DW5:Ty:=.pair tI DW3
abbrev DW6:=Int×DW4
abbrev DW7:Ty:=.pair tI DW5
abbrev DW8:=Int×DW6
abbrev DW9:Ty:=.pair tI DW7
abbrev DX0:=Int×DW8
abbrev DX1:Ty:=.pair .bool DW9
abbrev DX2:=Bool×DX0
abbrev DX3:Ty:=.pair (.slice (.agg I1)) DX1
abbrev DX4:=(List H2)×DX2
abbrev DX5:Ty:=.pair tI DX3
abbrev DX6:=Int×DX4
abbrev DX7:Ty:=.pair tI DX5
abbrev DX8:=Int×DX6
abbrev DX9:Ty:=.pair tI DX7
abbrev DY0:=Int×DX8
abbrev DY1:Ty:=.pair tI DX9
abbrev DY2:=Int×DY0
abbrev DY3:Ty:=.pair tI DY1
abbrev DY4:=Int×DY2
abbrev DY5:Ty:=.pair .bool DY3
abbrev DY6:=Bool×DY4
abbrev DY7:Ty:=.pair tI DY5
abbrev DY8:=Int×DY6
abbrev DY9:Ty:=.pair tI DY7
abbrev DZ0:=Int×DY8
abbrev DZ1:Ty:=.pair tI DY9
abbrev DZ2:=Int×DZ0
abbrev DZ3:Ty:=.pair tI DZ1
abbrev DZ4:=Int×DZ2
abbrev DZ5:Ty:=.pair tI DZ3
abbrev DZ6:=Int×DZ4
abbrev DZ7:Ty:=.pair tI DZ5
abbrev DZ8:=Int×DZ6
abbrev DZ9:Ty:=.pair tI DZ7
abbrev Da0:=Int×DZ8
abbrev Da1:Ty:=.pair tI DZ9
abbrev Da2:=Int×Da0
abbrev Da3:Ty:=.pair (.int .u16) Da1
abbrev Da4:=Int×Da2
abbrev Da5:Ty:=.pair .bool Da3
abbrev Da6:=Bool×Da4
abbrev Da7:Ty:=.pair tI Da5
abbrev Da8:=Int×Da6
abbrev Da9:Ty:=.pair (.int .u16) Da7
abbrev Db0:=Int×Da8
abbrev Db1:Ty:=.pair .bool Da9
abbrev Db2:=Bool×Db0
abbrev Db3:Ty:=.pair (.slice tI) Db1
abbrev Db4:=(List Int)×Db2
abbrev Db5:Ty:=.pair tI Db3
abbrev Db6:=Int×Db4
abbrev Db7:Ty:=.pair tI Db5
abbrev Db8:=Int×Db6
abbrev Db9:Ty:=.pair tI Db7
abbrev Dc0:=Int×Db8
abbrev Dc1:Ty:=.pair .bool Db9
abbrev Dc2:=Bool×Dc0
abbrev Dc3:Ty:=.pair (.slice (.agg Yt3)) Dc1
abbrev Dc4:=(List Yd3)×Dc2
abbrev Dc5:Ty:=.pair (.slice (.agg Yt1)) Dc3
abbrev Dc6:=(List Yd1)×Dc4
abbrev Dc7:Ty:=.pair tI Dc5
abbrev Dc8:=Int×Dc6
abbrev Dc9:Ty:=.pair tI Dc7
abbrev Dd0:=Int×Dc8
abbrev Dd1:Ty:=.pair tI Dc9
abbrev Dd2:=Int×Dd0
abbrev Dd3:Ty:=.pair tI Dd1
abbrev Dd4:=Int×Dd2
abbrev Dd5:Ty:=.pair tI Dd3
abbrev Dd6:=Int×Dd4
abbrev Dd7:Ty:=.pair tI Dd5
abbrev Dd8:=Int×Dd6
abbrev Dd9:Ty:=.pair tI Dd7
abbrev De0:=Int×Dd8
abbrev De1:Ty:=.pair tI Dd9
abbrev De2:=Int×De0
abbrev De3:Ty:=.pair tI De1
abbrev De4:=Int×De2
abbrev De5:Ty:=.pair tI De3
abbrev De6:=Int×De4
abbrev De7:Ty:=.pair tI De5
abbrev De8:=Int×De6
abbrev De9:Ty:=.pair tI De7
abbrev Df0:=Int×De8
abbrev Df1:Ty:=.pair tI De9
abbrev Df2:=Int×Df0
abbrev Bj8:Ty:=.pair tI Df1
abbrev Df3:=Int×Df2
abbrev Df4:Ty:=.pair (.agg AR7) Bj8
abbrev Df5:Ty:=.pair (.agg AD5) X2
abbrev Df6:=O2×AH2
abbrev Df7:Ty:=.pair (.slice (.slice (.int .u8))) Bj5
abbrev Df8:=(List Int)×(Int×(Int×Bool))
abbrev Df9:=Int×Df8
abbrev Dg0:=(List Yd1)×Df9
abbrev Dg1:=Int×Dg0
abbrev Dg2:=Int×Dg1
abbrev Dg3:=Bool×Dg2
abbrev Dg4:=Int×Dg3
abbrev Dg5:=Int×Dg4
abbrev Dg6:=Int×Dg5
abbrev Dg7:=(List O2)×Dg6
abbrev Dg8:=Int×Dg7
abbrev Dg9:=Int×Dg8
abbrev Dh0:=Bool×Dg9
abbrev Dh1:=Int×Dh0
abbrev Dh2:=Int×Dh1
abbrev Dh3:=Int×Dh2
abbrev Dh4:=Int×Dh3
abbrev Dh5:=Bool×Dh4
abbrev Dh6:=Int×Dh5
abbrev Dh7:=Int×Dh6
abbrev Dh8:=Int×Dh7
abbrev Dh9:=Int×Dh8
abbrev Di0:=Int×Dh9
abbrev Di1:=Int×Di0
abbrev Di2:=Int×Di1
abbrev Di3:=Bool×Di2
abbrev Di4:=Int×Di3
abbrev Di5:=Int×Di4
abbrev Di6:=Int×Di5
abbrev Di7:=Int×Di6
abbrev Di8:=Int×Di7
abbrev Di9:=Int×Di8
abbrev Dj0:=Int×Di9
abbrev Dj1:=Int×Dj0
abbrev Dj2:=Bool×Dj1
abbrev Dj3:=Int×Dj2
abbrev Dj4:=Int×Dj3
abbrev Dj5:=Int×Dj4
abbrev Dj6:=Bool×Dj5
abbrev Dj7:=(List Yd3)×Dj6
abbrev Dj8:=Int×Dj7
abbrev Dj9:=Int×Dj8
abbrev Dk0:=Int×Dj9
abbrev Dk1:=Int×Dk0
abbrev Dk2:=Int×Dk1
abbrev Dk3:=Bool×Dk2
abbrev Dk4:=(List H2)×Dk3
abbrev Dk5:=Int×Dk4
abbrev Dk6:=Int×Dk5
abbrev Dk7:=Int×Dk6
abbrev Dk8:=Int×Dk7
abbrev Dk9:=Bool×Dk8
abbrev Dl0:=Int×Dk9
abbrev Dl1:=Int×Dl0
abbrev Dl2:Ty:=.pair (.agg C2) Bi4
abbrev Dl3:Ty:=.pair (.agg D3) (.pair tI (.slice tI))
abbrev Dl4:=(List (List Int))×((List (List Int))×((List (List Int))×Int))
abbrev Dl5:=Int×Dl4
abbrev Dl6:=(List (List Int))×((List (List Int))×(Int×(List (List Int))))
abbrev Dl7:=Int×Dl6
abbrev Dl8:Ty:=.pair (.agg (.pair tI (.slice (.slice tI)))) (.pair tI tI)
abbrev Dl9:Ty:=.pair (.agg D3) Dl8
abbrev Dm0:Ty:=.pair (.agg D3) (.pair (.agg (.pair tI (.slice (.slice tI)))) tI)
abbrev Dm1:Ty:=.pair (.agg AD5) (.pair (.agg (.pair tI tI)) tI)
abbrev Dm2:Ty:=.pair (.agg D3) Dm1
abbrev Dm3:Ty:=.pair (.agg C2) Dm2
abbrev Dm4:Ty:=.pair (.agg D3) (.slice (.agg Ac1))
abbrev Dm5:Ty:=.pair (.agg C2) Dm4
abbrev Bj9:Ty:=.pair .bool Y8
abbrev Dm6:Ty:=.pair (.agg AL0) (.agg (.pair tI (.pair tI .bool)))
abbrev Dm7:Ty:=.pair (.agg (.pair tI .bool)) Dm6
abbrev Dm8:Ty:=.pair (.agg Bj9) Dm7
abbrev Dm9:Ty:=.pair (.agg Z1) Dm8
abbrev Dn0:Ty:=.pair tI Dm9
abbrev Dn1:Ty:=.pair (.agg (.pair tI tI)) Dn0
abbrev Dn2:Ty:=.pair (.agg Y8) Dn1
abbrev Dn3:Ty:=.pair (.agg Bj7) Dn2
abbrev Dn4:Ty:=.pair (.slice tI) Dn3
abbrev Dn5:Ty:=.pair (.agg (.pair tI tI)) Dn4
abbrev Dn6:Ty:=.pair tI Dn5
abbrev Dn7:Ty:=.pair .bool Dn6
abbrev Dn8:Ty:=.pair (.agg D3) Dn7
abbrev Dn9:Ty:=.pair (.agg C2) Dn8
def tys:List (Nat×TD):=[
 (2,⟨some tI,[.dat tI (0:Int)],.scalar⟩),
 (3,⟨some tI,[.dat tI (0:Int)],.scalar⟩),
 (4,⟨some .bool,[.dat .bool false],.scalar⟩),
 (5,⟨some (.int .u8),[.dat (.int .u8) (0:Int)],.scalar⟩),
 (9,⟨some .str,[.dat .str ByteArray.empty],.scalar⟩),
 (21,⟨some (.int .i32),[.dat (.int .i32) (0:Int)],.scalar⟩),
 (23,⟨some (.agg C2),FK5 14 (.dat tI (0:Int)),.struct [(2,0,1),(2,1,1),(2,2,1),(2,3,1),(2,4,1),(2,5,1),(2,6,1),(2,7,1),(2,8,1),(3,9,1),(2,10,1),(2,11,1),(3,12,1),(2,13,1)]⟩),
 (24,⟨some (.slice (.agg Yt1)),[.nil],.slice 67 3 56⟩),
 (25,⟨some (.slice (.agg Yt3)),[.nil],.slice 71 5 40⟩),
 (27,⟨some (.agg D3),[.nil,.nil],.struct [(24,0,1),(25,1,1)]⟩),
 (28,⟨some (.slice (.agg (.pair (.slice (.slice (.int .u8))) .bool))),[.nil],.slice 33 2 32⟩),
 (30,⟨none,[.undef],.scalar⟩),
 (31,⟨some (.slice (.slice (.int .u8))),[.nil],.slice 34 1 24⟩),
 (33,⟨some (.agg (.pair (.slice (.slice (.int .u8))) .bool)),[.nil,.dat .bool false],.struct [(31,0,1),(4,1,1)]⟩),
 (34,⟨some (.slice (.int .u8)),[.nil],.slice 5 1 1⟩),
 (38,⟨some (.agg (.pair tI (.pair tI tI))),[.dat tI (0:Int),.dat tI (0:Int),.dat tI (0:Int)],.struct [(3,0,1),(3,1,1),(2,2,1)]⟩),
 (40,⟨some (.slice (.agg AD5)),[.nil],.slice 49 32 232⟩),
 (44,⟨some (.agg (.pair tI tI)),[.dat tI (0:Int),.dat tI (0:Int)],.struct [(2,0,1),(2,1,1)]⟩),
 (45,⟨some (.slice (.slice tI)),[.nil],.slice 65 1 24⟩),
 (46,⟨some (.agg (.pair tI tI)),[.dat tI (0:Int),.dat tI (0:Int)],.array 2 3 1⟩),
 (47,⟨some (.agg Y8),[.dat tI (0:Int),.dat tI (0:Int),.dat tI (0:Int),.dat tI (0:Int)],.array 2 44 2⟩),
 (49,⟨some (.agg AD5),[.dat tI (0:Int),.dat tI (0:Int),.dat tI (0:Int),.dat tI (0:Int),.dat tI (0:Int),.dat tI (0:Int),.dat tI (0:Int),.dat tI (0:Int),.dat tI (0:Int),.dat tI (0:Int),.nil,.dat tI (0:Int),.dat .bool false,.dat .bool false,.dat tI (0:Int),.dat tI (0:Int),.dat .bool false,.dat .bool false,.dat .bool false,.dat .bool false,.dat .bool false,.dat tI (0:Int),.dat tI (0:Int),.dat tI (0:Int),.dat tI (0:Int),.dat tI (0:Int),.dat tI (0:Int),.dat tI (0:Int),.dat tI (0:Int),.dat tI (0:Int),.dat tI (0:Int),.dat tI (0:Int)],.struct [(3,0,1),(3,1,1),(3,2,1),(44,3,2),(2,5,1),(44,6,2),(2,8,1),(2,9,1),(45,10,1),(3,11,1),(4,12,1),(4,13,1),(46,14,2),(4,16,1),(4,17,1),(4,18,1),(4,19,1),(4,20,1),(44,21,2),(2,23,1),(47,24,4),(3,28,1),(3,29,1),(3,30,1),(3,31,1)]⟩),
 (51,⟨some (.slice (.agg Ac1)),[.nil],.slice 56 11 20⟩),
 (52,⟨some (.int .u16),[.dat (.int .u16) (0:Int)],.scalar⟩),
 (53,⟨some (.agg (.pair (.int .u16) (.int .u16))),[.dat (.int .u16) (0:Int),.dat (.int .u16) (0:Int)],.array 2 52 1⟩),
 (54,⟨some (.agg Yt5),[.dat .bool false,.dat .bool false,.dat .bool false,.dat .bool false,.dat .bool false],.array 5 4 1⟩),
 (56,⟨some (.agg Ac1),[.dat (.int .u16) (0:Int),.dat (.int .u16) (0:Int),.dat (.int .i32) (0:Int),.dat (.int .i32) (0:Int),.dat (.int .u16) (0:Int),.dat .bool false,.dat .bool false,.dat .bool false,.dat .bool false,.dat .bool false,.dat .bool false],.struct [(53,0,2),(21,2,1),(21,3,1),(52,4,1),(54,5,5),(4,10,1)]⟩),
 (63,⟨some (.agg (.pair tI tI)),[.dat tI (0:Int),.dat tI (0:Int)],.array 2 2 1⟩),
 (64,⟨some (.slice (.agg (.pair tI tI))),[.nil],.slice 69 2 16⟩),
 (65,⟨some (.slice tI),[.nil],.slice 3 1 8⟩),
 (67,⟨some (.agg Yt1),[.dat tI (0:Int),.nil,.nil],.struct [(2,0,1),(64,1,1),(65,2,1)]⟩),
 (69,⟨some (.agg (.pair tI tI)),[.dat tI (0:Int),.dat tI (0:Int)],.struct [(2,0,1),(2,1,1)]⟩),
 (71,⟨some (.agg Yt3),[.dat tI (0:Int),.dat tI (0:Int),.dat tI (0:Int),.dat tI (0:Int),.dat tI (0:Int)],.struct [(3,0,1),(3,1,1),(2,2,1),(2,3,1),(2,4,1)]⟩),
 (73,⟨some (.int .u64),[.dat (.int .u64) (0:Int)],.scalar⟩),
 (80,⟨some (.agg C2),FK5 14 (.dat tI (0:Int)),.struct [(2,0,1),(2,1,1),(2,2,1),(2,3,1),(2,4,1),(2,5,1),(2,6,1),(2,7,1),(2,8,1),(3,9,1),(2,10,1),(2,11,1),(3,12,1),(2,13,1)]⟩),
 (85,⟨some (.agg Yt3),[.dat tI (0:Int),.dat tI (0:Int),.dat tI (0:Int),.dat tI (0:Int),.dat tI (0:Int)],.array 5 2 1⟩),
 (87,⟨some (.agg (.pair tI (.slice (.slice tI)))),[.dat tI (0:Int),.nil],.struct [(2,0,1),(45,1,1)]⟩),
 (90,⟨some (.slice tI),[.nil],.slice 2 1 8⟩),
 (92,⟨some (.agg Av6),[.dat tI (0:Int),.dat tI (0:Int),.dat tI (0:Int),.dat tI (0:Int),.dat tI (0:Int),.dat tI (0:Int)],.array 6 3 1⟩),
 (93,⟨some (.int .u64),[.dat (.int .u64) (0:Int)],.scalar⟩),
 (97,⟨some (.slice (.agg Yt1)),[.nil],.slice 157 3 56⟩),
 (98,⟨some (.slice (.agg Yt3)),[.nil],.slice 160 5 40⟩),
 (100,⟨some (.agg D3),[.nil,.nil],.struct [(97,0,1),(98,1,1)]⟩),
 (107,⟨some (.agg (.pair .bool (.pair (.int .u16) tI))),[.dat .bool false,.dat (.int .u16) (0:Int),.dat tI (0:Int)],.struct [(4,0,1),(52,1,1),(2,2,1)]⟩),
 (108,⟨some (.agg Bj7),[.dat .bool false,.dat (.int .u16) (0:Int),.dat tI (0:Int),.dat .bool false,.dat (.int .u16) (0:Int),.dat tI (0:Int)],.array 2 107 3⟩),
 (109,⟨some (.slice (.agg I1)),[.nil],.slice 195 13 104⟩),
 (111,⟨some (.agg V1),[.dat tI (0:Int),.nil],.struct [(2,0,1),(109,1,1)]⟩),
 (113,⟨some (.agg Z1),[.dat .bool false,.dat tI (0:Int),.dat tI (0:Int),.dat tI (0:Int),.dat tI (0:Int),.dat tI (0:Int),.nil],.struct [(4,0,1),(3,1,1),(44,2,2),(2,4,1),(111,5,2)]⟩),
 (115,⟨some (.agg Bj9),[.dat .bool false,.dat tI (0:Int),.dat tI (0:Int),.dat tI (0:Int),.dat tI (0:Int)],.struct [(4,0,1),(44,1,2),(63,3,2)]⟩),
 (117,⟨some (.agg (.pair tI .bool)),[.dat tI (0:Int),.dat .bool false],.struct [(3,0,1),(4,1,1)]⟩),
 (119,⟨some (.agg AL0),[.dat .bool false,.dat .bool false,.dat tI (0:Int),.dat tI (0:Int)],.struct [(4,0,1),(4,1,1),(44,2,2)]⟩),
 (121,⟨some (.agg (.pair tI (.pair tI .bool))),[.dat tI (0:Int),.dat tI (0:Int),.dat .bool false],.struct [(3,0,1),(3,1,1),(4,2,1)]⟩),
 (123,⟨some (.agg Dn9),[.dat tI (0:Int),.dat tI (0:Int),.dat tI (0:Int),.dat tI (0:Int),.dat tI (0:Int),.dat tI (0:Int),.dat tI (0:Int),.dat tI (0:Int),.dat tI (0:Int),.dat tI (0:Int),.dat tI (0:Int),.dat tI (0:Int),.dat tI (0:Int),.dat tI (0:Int),.nil,.nil,.dat .bool false,.dat tI (0:Int),.dat tI (0:Int),.dat tI (0:Int),.nil,.dat .bool false,.dat (.int .u16) (0:Int),.dat tI (0:Int),.dat .bool false,.dat (.int .u16) (0:Int),.dat tI (0:Int),.dat tI (0:Int),.dat tI (0:Int),.dat tI (0:Int),.dat tI (0:Int),.dat tI (0:Int),.dat tI (0:Int),.dat tI (0:Int),.dat .bool false,.dat tI (0:Int),.dat tI (0:Int),.dat tI (0:Int),.dat tI (0:Int),.dat tI (0:Int),.nil,.dat .bool false,.dat tI (0:Int),.dat tI (0:Int),.dat tI (0:Int),.dat tI (0:Int),.dat tI (0:Int),.dat .bool false,.dat .bool false,.dat .bool false,.dat tI (0:Int),.dat tI (0:Int),.dat tI (0:Int),.dat tI (0:Int),.dat .bool false],.struct [(23,0,14),(100,14,2),(4,16,1),(3,17,1),(44,18,2),(90,20,1),(108,21,6),(47,27,4),(44,31,2),(2,33,1),(113,34,7),(115,41,5),(117,46,2),(119,48,4),(121,52,3)]⟩),
 (127,⟨some (.agg Bi8),[.dat .bool false,.dat .bool false,.dat .bool false,.dat .bool false,.dat .bool false,.dat .bool false],.array 6 4 1⟩),
 (128,⟨some (.agg Av6),[.dat tI (0:Int),.dat tI (0:Int),.dat tI (0:Int),.dat tI (0:Int),.dat tI (0:Int),.dat tI (0:Int)],.array 6 2 1⟩),
 (130,⟨some (.agg X3),[.dat .bool false,.dat .bool false,.dat .bool false,.dat .bool false,.dat .bool false,.dat .bool false,.dat tI (0:Int),.dat tI (0:Int),.dat tI (0:Int),.dat tI (0:Int),.dat tI (0:Int),.dat tI (0:Int),.dat tI (0:Int),.dat tI (0:Int),.dat tI (0:Int),.dat tI (0:Int)],.struct [(127,0,6),(128,6,6),(3,12,1),(3,13,1),(3,14,1),(3,15,1)]⟩),
 (133,⟨some (.agg AR7),[.dat tI (0:Int),.dat tI (0:Int),.dat tI (0:Int),.dat .bool false,.dat .bool false,.dat tI (0:Int),.dat tI (0:Int)],.struct [(44,0,2),(3,2,1),(4,3,1),(4,4,1),(46,5,2)]⟩),
 (137,⟨some (.agg Ak2),[.dat tI (0:Int),.nil,.dat .bool false,.dat .bool false],.struct [(3,0,1),(90,1,1),(4,2,1),(4,3,1)]⟩),
 (153,⟨some (.agg (.pair (.slice (.int .u8)) .bool)),[.nil,.dat .bool false],.struct [(34,0,1),(4,1,1)]⟩),
 (155,⟨some (.slice (.agg (.pair tI tI))),[.nil],.slice 165 2 16⟩),
 (157,⟨some (.agg Yt1),[.dat tI (0:Int),.nil,.nil],.struct [(2,0,1),(155,1,1),(65,2,1)]⟩),
 (160,⟨some (.agg Yt3),[.dat tI (0:Int),.dat tI (0:Int),.dat tI (0:Int),.dat tI (0:Int),.dat tI (0:Int)],.struct [(3,0,1),(3,1,1),(2,2,1),(2,3,1),(2,4,1)]⟩),
 (165,⟨some (.agg (.pair tI tI)),[.dat tI (0:Int),.dat tI (0:Int)],.struct [(2,0,1),(2,1,1)]⟩),
 (171,⟨some (.agg (.pair .bool (.agg (.pair tI tI)))),[.dat .bool false,.dat tI (0:Int),.dat tI (0:Int)],.struct [(4,0,1),(44,1,2)]⟩),
 (174,⟨some (.agg Ak0),[.dat .bool false,.dat tI (0:Int),.dat tI (0:Int),.dat .bool false,.dat tI (0:Int),.dat tI (0:Int),.dat .bool false,.dat tI (0:Int),.dat tI (0:Int)],.array 3 171 3⟩),
 (193,⟨some (.agg BJ8),FK5 12 (.dat tI (0:Int)),.array 12 3 1⟩),
 (195,⟨some (.agg I1),FK5 13 (.dat tI (0:Int)),.struct [(3,0,1),(193,1,12)]⟩),
 (209,⟨none,[.nil],.slice 30 1 8⟩),
 (212,⟨some (.agg (.pair tI (.pair tI tI))),[.dat tI (0:Int),.dat tI (0:Int),.dat tI (0:Int)],.struct [(3,0,1),(3,1,1),(2,2,1)]⟩),
 (220,⟨some (.slice (.agg (.pair tI tI))),[.nil],.slice 44 2 16⟩),
 (247,⟨some (.int .u32),[.dat (.int .u32) (0:Int)],.scalar⟩),
 (268,⟨some (.agg (.pair (.int .u64) (.int .u64))),[.dat (.int .u64) (0:Int),.dat (.int .u64) (0:Int)],.struct [(73,0,1),(73,1,1)]⟩),
 (271,⟨some (.int .i16),[.dat (.int .i16) (0:Int)],.scalar⟩)]
theorem Ac2:Av5 Tryz.prog tys=true:=by kernel_rfl
end Go.Proofs.YthfjpkdadjemcaaGreat
