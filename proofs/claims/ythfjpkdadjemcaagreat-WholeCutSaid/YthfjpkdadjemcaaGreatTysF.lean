/- The functional reading of the code (printed). -/
import Derived.Test.YthfjpkdadjemcaaGreatM4
import Derived.Test.YthfjpkdadjemcaaGreatProg
set_option linter.unusedSimpArgs false
set_option linter.unusedVariables false
namespace Go.Proofs.YthfjpkdadjemcaaGreat
open Go
def H0:Hint:=.mk .plain []
abbrev Yt1:Ty:=.pair (.int .i64) (.pair (.slice (.agg (.pair (.int .i64) (.int .i64)))) (.slice (.int .i64)))
abbrev Yd1:=Int×((List (Int×Int))×(List Int))
abbrev Yt2:Ty:=.pair (.int .i64) (.pair (.int .i64) (.pair (.int .i64) (.int .i64)))
abbrev Yd2:=Int×(Int×(Int×Int))
abbrev Yt3:Ty:=.pair (.int .i64) Yt2
abbrev Yd3:=Int×Yd2
abbrev Yt4:Ty:=.pair .bool (.pair .bool (.pair .bool .bool))
abbrev Yd4:=Bool×(Bool×(Bool×Bool))
abbrev Yt5:Ty:=.pair .bool Yt4
abbrev Yd5:=Bool×Yd4
abbrev Yt6:Ty:=.pair (.agg Yt5) .bool
abbrev Yd6:=Yd5×Bool
abbrev Yt7:Ty:=.pair (.int .u16) Yt6
abbrev Yd7:=Int×Yd6
abbrev Yt8:Ty:=.pair (.int .i32) Yt7
abbrev Yd8:=Int×Yd7
abbrev Yt9:Ty:=.pair (.int .i32) Yt8
abbrev Yd9:=Int×Yd8
abbrev Ao5:Ty:=.pair (.agg (.pair (.int .u16) (.int .u16))) Yt9
abbrev AL4:=(Int×Int)×Yd9
abbrev CN4:=Bool×((List Int)×(List (Int×Int)))
abbrev CN5:=(List Int)×(List Yd1)
abbrev CN6:=Bool×CN5
abbrev CN7:=(List Int)×(List Yd3)
abbrev CN8:=Bool×CN7
abbrev CN9:=Int×(Int×(Int×Int))
abbrev BE5:=Bool×(Int×(Int×Int))
abbrev CO0:=Bool×BE5
abbrev CO1:=Int×CO0
abbrev CO2:=Int×CO1
abbrev CO3:=Int×CO2
abbrev CO4:=Bool×CO3
abbrev CO5:Ty:=.pair .bool (.pair .bool (.pair (.int .i64) (.int .i64)))
abbrev CO6:=Bool×(Bool×(Int×Int))
abbrev CO7:Ty:=.pair (.int .i64) CO5
abbrev CO8:=Int×CO6
abbrev CO9:Ty:=.pair (.int .i64) CO7
abbrev CP0:=Int×CO8
abbrev BZ3:Ty:=.pair (.int .i64) CO9
abbrev CP1:=Int×CP0
abbrev CP2:=Bool×CO4
abbrev CP3:=Int×CP2
abbrev CP4:=Int×CP3
abbrev CP5:=Int×CP4
abbrev CP6:=Int×CP5
abbrev CP7:=Bool×CP6
abbrev CP8:=Bool×CP7
abbrev CP9:=(List Yd1)×Bool
abbrev CQ0:=Int×CP9
abbrev CQ1:=Int×CQ0
abbrev CQ2:=Int×CQ1
abbrev CQ3:=(List Yd3)×CQ2
abbrev CQ4:=Int×CQ3
abbrev CQ5:=Int×(List Yd1)
abbrev CQ6:=Int×CQ5
abbrev CQ7:=(List Yd3)×CQ6
abbrev CQ8:=Bool×CQ7
abbrev CQ9:=Int×CQ8
abbrev BZ4:=Int×CQ9
abbrev CR0:=Int×(Int×(Bool×Int))
abbrev CR1:=Int×CR0
abbrev BZ5:Ty:=.pair (.int .i64) (.pair (.int .i64) (.pair (.int .i64) .bool))
abbrev BZ6:=Int×(Int×(Int×Bool))
abbrev CR2:Ty:=.pair (.int .i64) BZ5
abbrev BZ7:=Int×BZ6
abbrev CR3:=Int×BZ7
abbrev CR4:=Bool×CR3
abbrev Ao6:Ty:=.pair (.int .i64) Yt3
abbrev BE6:=Int×Yd3
abbrev CR5:Ty:=.pair (.int .i64) Ao6
abbrev CR6:=Int×BE6
abbrev CR7:Ty:=.pair (.int .i64) CR5
abbrev CR8:=Int×CR6
abbrev CR9:Ty:=.pair (.int .i64) CR7
abbrev CS0:=Int×CR8
abbrev BZ8:Ty:=.pair (.int .i64) CR9
abbrev BZ9:=Int×CS0
abbrev Ba0:Ty:=.pair (.int .i64) BZ8
abbrev Ba1:=Int×BZ9
abbrev BE7:Ty:=.pair (.int .i64) Ba0
abbrev Ba2:=Int×Ba1
abbrev I4:Ty:=.pair (.int .i64) (.agg BE7)
abbrev E3:=Int×Ba2
abbrev CS1:=Bool×Yd2
abbrev V4:Ty:=.pair (.agg (.pair (.int .i64) (.int .i64))) (.agg (.pair (.int .i64) (.int .i64)))
abbrev Ao7:=(Int×Int)×(Int×Int)
abbrev CS2:Ty:=.pair (.agg V4) Yt2
abbrev CS3:=Ao7×Yd2
abbrev CS4:Ty:=.pair (.int .i64) CS2
abbrev CS5:=Int×CS3
abbrev CS6:Ty:=.pair (.agg (.pair (.int .i64) (.int .i64))) CS4
abbrev CS7:=(Int×Int)×CS5
abbrev CS8:Ty:=.pair .bool CS6
abbrev CS9:=Bool×CS7
abbrev CT0:Ty:=.pair .bool CS8
abbrev CT1:=Bool×CS9
abbrev CT2:Ty:=.pair .bool CT0
abbrev CT3:=Bool×CT1
abbrev CT4:Ty:=.pair .bool CT2
abbrev CT5:=Bool×CT3
abbrev CT6:Ty:=.pair .bool CT4
abbrev CT7:=Bool×CT5
abbrev CT8:Ty:=.pair (.agg (.pair (.int .i64) (.int .i64))) CT6
abbrev CT9:=(Int×Int)×CT7
abbrev CU0:Ty:=.pair .bool CT8
abbrev CU1:=Bool×CT9
abbrev CU2:Ty:=.pair .bool CU0
abbrev CU3:=Bool×CU1
abbrev CU4:Ty:=.pair (.int .i64) CU2
abbrev CU5:=Int×CU3
abbrev CU6:Ty:=.pair (.slice (.slice (.int .i64))) CU4
abbrev CU7:=(List (List Int))×CU5
abbrev CU8:Ty:=.pair (.int .i64) CU6
abbrev CU9:=Int×CU7
abbrev CV0:Ty:=.pair (.int .i64) CU8
abbrev CV1:=Int×CU9
abbrev CV2:Ty:=.pair (.agg (.pair (.int .i64) (.int .i64))) CV0
abbrev CV3:=(Int×Int)×CV1
abbrev CV4:Ty:=.pair (.int .i64) CV2
abbrev CV5:=Int×CV3
abbrev CV6:Ty:=.pair (.agg (.pair (.int .i64) (.int .i64))) CV4
abbrev CV7:=(Int×Int)×CV5
abbrev CV8:Ty:=.pair (.int .i64) CV6
abbrev CV9:=Int×CV7
abbrev CW0:Ty:=.pair (.int .i64) CV8
abbrev CW1:=Int×CV9
abbrev R0:Ty:=.pair (.int .i64) CW0
abbrev L8:=Int×CW1
abbrev T6:Ty:=.pair (.int .i64) (.slice (.agg I4))
abbrev V5:=Int×(List E3)
abbrev E7:Ty:=.pair (.slice (.agg Yt1)) (.slice (.agg Yt3))
abbrev F0:=(List Yd1)×(List Yd3)
abbrev CW2:Ty:=.pair (.agg E7) (.agg I4)
abbrev CW3:Ty:=.pair (.agg T6) CW2
abbrev Ba3:Ty:=.pair (.agg E7) (.slice (.agg (.pair (.slice (.slice (.int .u8))) .bool)))
abbrev CW4:Ty:=.pair (.int .i64) BE7
abbrev CW5:=Int×Ba2
abbrev C9:Ty:=.pair (.int .i64) CW4
abbrev C8:=Int×CW5
abbrev CW6:Ty:=.pair (.agg Yt1) (.int .i64)
abbrev Ba4:Ty:=.pair (.agg C9) (.agg E7)
abbrev CW7:Ty:=.pair (.int .i64) (.pair (.int .i64) (.pair (.slice (.int .u8)) .bool))
abbrev CW8:Ty:=.pair (.agg (.pair (.int .i64) (.int .i64))) (.pair (.slice (.int .u8)) .bool)
abbrev CW9:=(Int×Int)×((List Int)×Bool)
abbrev CX0:Ty:=.pair (.slice (.agg (.pair (.int .i64) (.int .i64)))) (.pair (.slice (.int .u8)) .bool)
abbrev CX1:=(List (Int×Int))×((List Int)×Bool)
abbrev CX2:=Bool×((List (Int×Int))×(List Int))
abbrev CX3:=Int×CX2
abbrev CX4:=Int×(Bool×((List Int)×(List Int)))
abbrev CX5:Ty:=.pair (.agg Yt1) (.pair (.slice (.int .u8)) .bool)
abbrev CX6:=Yd1×((List Int)×Bool)
abbrev CX7:Ty:=.pair (.slice (.agg Yt1)) (.pair (.slice (.int .u8)) .bool)
abbrev CX8:=(List Yd1)×((List Int)×Bool)
abbrev CX9:=(List Yd1)×(List Int)
abbrev CY0:=Bool×CX9
abbrev CY1:=Int×CY0
abbrev CY2:Ty:=.pair (.agg Yt3) (.pair (.slice (.int .u8)) .bool)
abbrev CY3:=Yd3×((List Int)×Bool)
abbrev CY4:Ty:=.pair (.slice (.agg Yt3)) (.pair (.slice (.int .u8)) .bool)
abbrev CY5:=(List Yd3)×((List Int)×Bool)
abbrev CY6:=(List Yd3)×(List Int)
abbrev CY7:=Bool×CY6
abbrev CY8:=Int×CY7
abbrev CY9:Ty:=.pair (.agg E7) (.agg Yt1)
abbrev CZ0:Ty:=.pair (.int .i64) (.agg Yt3)
abbrev CZ1:Ty:=.pair (.agg E7) CZ0
abbrev Ba5:Ty:=.pair (.agg E7) (.int .i64)
abbrev CZ2:=F0×Int
abbrev W9:Ty:=.pair .bool C9
abbrev X0:=Bool×C8
abbrev BE8:Ty:=.pair (.agg (.pair (.int .u64) (.int .u64))) (.agg (.pair (.int .u64) (.int .u64)))
abbrev CZ3:Ty:=.pair (.agg (.pair (.int .u64) (.int .u64))) (.pair (.int .u64) (.int .i64))
abbrev CZ4:=(Int×Int)×(Int×Int)
abbrev CZ5:=Int×(Int×(Int×Int))
abbrev CZ6:=Int×CZ5
abbrev Ba6:Ty:=.pair (.agg C9) (.agg Yt3)
abbrev CZ7:Ty:=.pair (.slice (.agg (.pair (.int .i64) (.int .i64)))) (.agg (.pair (.int .i64) (.int .i64)))
abbrev CZ8:Ty:=.pair .bool CR2
abbrev CZ9:=Bool×BZ7
abbrev Ca0:Ty:=.pair .bool CZ8
abbrev Ca1:=Bool×CZ9
abbrev Ca2:Ty:=.pair .bool Ca0
abbrev Ca3:=Bool×Ca1
abbrev Ca4:Ty:=.pair (.int .i64) Ca2
abbrev Ca5:=Int×Ca3
abbrev Ca6:Ty:=.pair (.int .i64) Ca4
abbrev Ca7:=Int×Ca5
abbrev Ca8:Ty:=.pair (.int .i64) Ca6
abbrev Ca9:=Int×Ca7
abbrev Cb0:Ty:=.pair (.int .i64) Ca8
abbrev Cb1:=Int×Ca9
abbrev Cb2:Ty:=.pair (.int .i64) Cb0
abbrev Cb3:=Int×Cb1
abbrev Cb4:Ty:=.pair .bool Cb2
abbrev Cb5:=Bool×Cb3
abbrev Cb6:Ty:=.pair (.slice (.agg I4)) Cb4
abbrev Cb7:=(List E3)×Cb5
abbrev Cb8:Ty:=.pair (.int .i64) Cb6
abbrev Cb9:=Int×Cb7
abbrev Cc0:Ty:=.pair (.int .i64) Cb8
abbrev Cc1:=Int×Cb9
abbrev Cc2:Ty:=.pair (.int .i64) Cc0
abbrev Cc3:=Int×Cc1
abbrev Cc4:Ty:=.pair (.int .i64) Cc2
abbrev Cc5:=Int×Cc3
abbrev Cc6:Ty:=.pair (.int .i64) Cc4
abbrev Cc7:=Int×Cc5
abbrev Cc8:Ty:=.pair .bool Cc6
abbrev Cc9:=Bool×Cc7
abbrev Cd0:Ty:=.pair (.int .i64) Cc8
abbrev Cd1:=Int×Cc9
abbrev Cd2:Ty:=.pair (.int .i64) Cd0
abbrev Cd3:=Int×Cd1
abbrev Cd4:Ty:=.pair (.int .i64) Cd2
abbrev Cd5:=Int×Cd3
abbrev Cd6:Ty:=.pair (.int .i64) Cd4
abbrev Cd7:=Int×Cd5
abbrev Cd8:Ty:=.pair (.int .i64) Cd6
abbrev Cd9:=Int×Cd7
abbrev Ce0:Ty:=.pair (.int .i64) Cd8
abbrev Ce1:=Int×Cd9
abbrev Ce2:Ty:=.pair (.int .i64) Ce0
abbrev Ce3:=Int×Ce1
abbrev Ce4:Ty:=.pair (.int .i64) Ce2
abbrev Ce5:=Int×Ce3
abbrev Ce6:Ty:=.pair (.int .u16) Ce4
abbrev Ce7:=Int×Ce5
abbrev Ce8:Ty:=.pair .bool Ce6
abbrev Ce9:=Bool×Ce7
abbrev Cf0:Ty:=.pair (.int .i64) Ce8
abbrev Cf1:=Int×Ce9
abbrev Cf2:Ty:=.pair (.int .u16) Cf0
abbrev Cf3:=Int×Cf1
abbrev Cf4:Ty:=.pair .bool Cf2
abbrev Cf5:=Bool×Cf3
abbrev Cf6:Ty:=.pair (.slice (.int .i64)) Cf4
abbrev Cf7:=(List Int)×Cf5
abbrev Cf8:Ty:=.pair (.int .i64) Cf6
abbrev Cf9:=Int×Cf7
abbrev Cg0:Ty:=.pair (.int .i64) Cf8
abbrev Cg1:=Int×Cf9
abbrev Cg2:Ty:=.pair (.int .i64) Cg0
abbrev Cg3:=Int×Cg1
abbrev Cg4:Ty:=.pair .bool Cg2
abbrev Cg5:=Bool×Cg3
abbrev Cg6:Ty:=.pair (.slice (.agg Yt3)) Cg4
abbrev Cg7:=(List Yd3)×Cg5
abbrev Cg8:Ty:=.pair (.slice (.agg Yt1)) Cg6
abbrev Cg9:=(List Yd1)×Cg7
abbrev Ch0:Ty:=.pair (.int .i64) Cg8
abbrev Ch1:=Int×Cg9
abbrev Ch2:Ty:=.pair (.int .i64) Ch0
abbrev Ch3:=Int×Ch1
abbrev Ch4:Ty:=.pair (.int .i64) Ch2
abbrev Ch5:=Int×Ch3
abbrev Ch6:Ty:=.pair (.int .i64) Ch4
abbrev Ch7:=Int×Ch5
abbrev Ch8:Ty:=.pair (.int .i64) Ch6
abbrev Ch9:=Int×Ch7
abbrev Ci0:Ty:=.pair (.int .i64) Ch8
abbrev Ci1:=Int×Ch9
abbrev Ci2:Ty:=.pair (.int .i64) Ci0
abbrev Ci3:=Int×Ci1
abbrev Ci4:Ty:=.pair (.int .i64) Ci2
abbrev Ci5:=Int×Ci3
abbrev Ci6:Ty:=.pair (.int .i64) Ci4
abbrev Ci7:=Int×Ci5
abbrev Ci8:Ty:=.pair (.int .i64) Ci6
abbrev Ci9:=Int×Ci7
abbrev Cj0:Ty:=.pair (.int .i64) Ci8
abbrev Cj1:=Int×Ci9
abbrev Cj2:Ty:=.pair (.int .i64) Cj0
abbrev Cj3:=Int×Cj1
abbrev Cj4:Ty:=.pair (.int .i64) Cj2
abbrev Cj5:=Int×Cj3
abbrev V6:Ty:=.pair (.int .i64) Cj4
abbrev AB9:=Int×Cj5
abbrev Cj6:Ty:=.pair (.agg C9) (.slice (.int .u8))
abbrev Cj7:Ty:=.pair (.agg (.pair (.int .i64) (.pair (.int .i64) (.int .i64)))) (.int .i64)
abbrev Cj8:=(Int×(Int×Int))×Int
abbrev Cj9:Ty:=.pair .bool BZ8
abbrev Ck0:=Bool×BZ9
abbrev Ck1:Ty:=.pair .bool Cj9
abbrev Ck2:=Bool×Ck0
abbrev Ck3:Ty:=.pair .bool Ck1
abbrev Ck4:=Bool×Ck2
abbrev Ck5:Ty:=.pair .bool Ck3
abbrev Ck6:=Bool×Ck4
abbrev Ck7:Ty:=.pair .bool Ck5
abbrev Ck8:=Bool×Ck6
abbrev Ba7:Ty:=.pair .bool Ck7
abbrev Ck9:=Bool×Ck8
abbrev Cl0:Ty:=.pair (.slice (.int .u8)) Ba7
abbrev Cl1:Ty:=.pair (.int .i64) Cl0
abbrev Ba8:Ty:=.pair .bool Yt5
abbrev Cl2:=Bool×Yd5
abbrev Cl3:Ty:=.pair (.agg Ao6) Yt2
abbrev Cl4:=BE6×Yd2
abbrev V7:Ty:=.pair (.agg Ba8) Cl3
abbrev T7:=Cl2×Cl4
abbrev Cl5:=Bool×CS1
abbrev Cl6:=Int×Cl5
abbrev Cl7:=Int×Cl6
abbrev Cl8:=Int×Cl7
abbrev Cl9:=Bool×Cl8
abbrev Cm0:=Bool×Cl9
abbrev Cm1:=Int×Cm0
abbrev Cm2:=Int×Cm1
abbrev Cm3:=Int×Cm2
abbrev Cm4:=Int×Cm3
abbrev Cm5:=Bool×Cm4
abbrev Cm6:=Bool×Cm5
abbrev Cm7:Ty:=.pair (.agg V7) (.int .i64)
abbrev Ba9:Ty:=.pair (.agg (.pair .bool (.pair (.int .u16) (.int .i64)))) (.pair (.int .i64) .bool)
abbrev Cm8:=(Bool×(Int×Int))×(Int×Bool)
abbrev BE9:Ty:=.pair (.agg (.pair (.int .i64) (.int .i64))) (.pair (.int .i64) (.int .i64))
abbrev Cm9:Ty:=.pair (.int .i64) (.pair (.agg (.pair (.int .i64) (.int .i64))) (.int .i64))
abbrev Cn0:Ty:=.pair (.agg (.pair .bool (.agg (.pair (.int .i64) (.int .i64))))) V6
abbrev Cn1:=(Bool×(Int×Int))×AB9
abbrev Bb0:Ty:=.pair (.agg V7) V6
abbrev Cn2:Ty:=.pair (.int .i64) Bb0
abbrev BF0:Ty:=.pair (.agg C9) (.int .i64)
abbrev Cn3:Ty:=.pair (.int .i64) (.pair .bool (.pair (.int .i64) .bool))
abbrev Cn4:Ty:=.pair .bool (.agg V7)
abbrev Cn5:Ty:=.pair (.int .i64) Cn4
abbrev Cn6:Ty:=.pair (.int .i64) Cn5
abbrev Cn7:Ty:=.pair (.int .i64) Cn6
abbrev Cn8:Ty:=.pair (.int .i64) Cn7
abbrev Cn9:Ty:=.pair .bool Cn8
abbrev Co0:Ty:=.pair .bool Cn9
abbrev Co1:Ty:=.pair .bool Co0
abbrev Co2:Ty:=.pair (.int .i64) Co1
abbrev Co3:Ty:=.pair (.int .i64) Co2
abbrev Co4:Ty:=.pair (.int .i64) Co3
abbrev Co5:Ty:=.pair (.int .i64) Co4
abbrev Co6:Ty:=.pair (.int .i64) Co5
abbrev Co7:Ty:=.pair .bool Co6
abbrev Co8:Ty:=.pair (.slice (.agg I4)) Co7
abbrev Co9:Ty:=.pair (.int .i64) Co8
abbrev Cp0:Ty:=.pair (.int .i64) Co9
abbrev Cp1:Ty:=.pair (.int .i64) Cp0
abbrev Cp2:Ty:=.pair (.int .i64) Cp1
abbrev Cp3:Ty:=.pair (.int .i64) Cp2
abbrev Cp4:Ty:=.pair .bool Cp3
abbrev Cp5:Ty:=.pair (.int .i64) Cp4
abbrev Cp6:Ty:=.pair (.int .i64) Cp5
abbrev Cp7:Ty:=.pair (.int .i64) Cp6
abbrev Cp8:Ty:=.pair (.int .i64) Cp7
abbrev Cp9:Ty:=.pair (.int .i64) Cp8
abbrev Cq0:Ty:=.pair (.int .i64) Cp9
abbrev Cq1:Ty:=.pair (.int .i64) Cq0
abbrev Cq2:Ty:=.pair (.int .i64) Cq1
abbrev Cq3:Ty:=.pair (.int .u16) Cq2
abbrev Cq4:Ty:=.pair .bool Cq3
abbrev Cq5:Ty:=.pair (.int .i64) Cq4
abbrev Cq6:Ty:=.pair (.int .u16) Cq5
abbrev Cq7:Ty:=.pair .bool Cq6
abbrev Cq8:Ty:=.pair (.slice (.int .i64)) Cq7
abbrev Cq9:Ty:=.pair (.int .i64) Cq8
abbrev Cr0:Ty:=.pair (.int .i64) Cq9
abbrev Cr1:Ty:=.pair (.int .i64) Cr0
abbrev Cr2:Ty:=.pair .bool Cr1
abbrev Cr3:Ty:=.pair (.slice (.agg Yt3)) Cr2
abbrev Cr4:Ty:=.pair (.slice (.agg Yt1)) Cr3
abbrev Cr5:Ty:=.pair (.int .i64) Cr4
abbrev Cr6:Ty:=.pair (.int .i64) Cr5
abbrev Cr7:Ty:=.pair (.int .i64) Cr6
abbrev Cr8:Ty:=.pair (.int .i64) Cr7
abbrev Cr9:Ty:=.pair (.int .i64) Cr8
abbrev Cs0:Ty:=.pair (.int .i64) Cr9
abbrev Cs1:Ty:=.pair (.int .i64) Cs0
abbrev Cs2:Ty:=.pair (.int .i64) Cs1
abbrev Cs3:Ty:=.pair (.int .i64) Cs2
abbrev Cs4:Ty:=.pair (.int .i64) Cs3
abbrev Cs5:Ty:=.pair (.int .i64) Cs4
abbrev Cs6:Ty:=.pair (.int .i64) Cs5
abbrev Cs7:Ty:=.pair (.int .i64) Cs6
abbrev Bb1:Ty:=.pair (.int .i64) Cs7
abbrev Bb2:Ty:=.pair (.agg C9) (.agg (.pair (.int .i64) (.int .i64)))
abbrev Cs8:Ty:=.pair (.slice (.agg Yt3)) (.pair .bool (.pair (.int .i64) (.int .i64)))
abbrev Cs9:=(List Yd3)×(Bool×(Int×Int))
abbrev Ct0:Ty:=.pair (.slice (.agg Yt1)) Cs8
abbrev Ct1:=(List Yd1)×Cs9
abbrev Ct2:Ty:=.pair (.int .i64) Ct0
abbrev Ct3:=Int×Ct1
abbrev Ao8:Ty:=.pair (.int .i64) Ct2
abbrev Bb3:=Int×Ct3
abbrev Ct4:Ty:=.pair (.int .i64) Ao8
abbrev Ct5:Ty:=.pair (.int .i64) Ct4
abbrev Ct6:=Int×BZ4
abbrev Ct7:=(List Yd1)×(Bool×Int)
abbrev Ct8:=Int×Ct7
abbrev Ct9:=Int×Ct8
abbrev Cu0:=Int×Ct9
abbrev Cu1:=Int×Cu0
abbrev Cu2:=(List Yd3)×Cu1
abbrev Cu3:=Int×Cu2
abbrev Cu4:Ty:=.pair (.agg E7) Ao8
abbrev Cu5:Ty:=.pair (.agg T6) Cu4
abbrev Bb4:Ty:=.pair (.agg E7) (.agg (.pair (.int .i64) (.int .i64)))
abbrev Cu6:Ty:=.pair (.agg T6) Bb4
abbrev Cu7:Ty:=.pair (.agg C9) (.pair (.int .i64) (.agg (.pair (.int .i64) (.int .i64))))
abbrev Cu8:Ty:=.pair (.agg (.pair .bool (.agg (.pair (.int .i64) (.int .i64))))) (.agg (.pair .bool (.agg (.pair (.int .i64) (.int .i64)))))
abbrev Cu9:=(Bool×(Int×Int))×(Bool×(Int×Int))
abbrev Ac2:Ty:=.pair (.agg (.pair .bool (.agg (.pair (.int .i64) (.int .i64))))) Cu8
abbrev Ao9:=(Bool×(Int×Int))×Cu9
abbrev Cv0:Ty:=.pair (.agg (.pair (.int .i64) (.int .i64))) (.pair .bool .bool)
abbrev Cv1:=(Int×Int)×(Bool×Bool)
abbrev Cv2:Ty:=.pair (.agg (.pair (.int .i64) (.int .i64))) BZ3
abbrev Cv3:Ty:=.pair (.agg (.pair (.int .i64) (.int .i64))) (.slice (.agg (.pair (.int .i64) (.int .i64))))
abbrev AF5:Ty:=.pair .bool (.pair .bool (.agg (.pair (.int .i64) (.int .i64))))
abbrev AF6:=Bool×(Bool×(Int×Int))
abbrev Cv4:Ty:=.pair (.int .i64) AF5
abbrev Cv5:=Int×AF6
abbrev AL5:Ty:=.pair (.agg (.pair (.int .i64) (.int .i64))) Cv4
abbrev AV9:=(Int×Int)×Cv5
abbrev Cv6:=Int×CR1
abbrev Cv7:=Int×Cv6
abbrev Cv8:=Bool×Cv7
abbrev Cv9:Ty:=.pair (.agg Ac2) (.agg (.pair .bool (.agg (.pair (.int .i64) (.int .i64)))))
abbrev Cw0:Ty:=.pair (.agg (.pair (.int .i64) (.int .i64))) Cv9
abbrev Cw1:Ty:=.pair (.agg AL5) V6
abbrev Cw2:=AV9×AB9
abbrev Cw3:Ty:=.pair (.int .i64) (.agg T6)
abbrev Cw4:=Int×V5
abbrev Cw5:Ty:=.pair (.agg (.pair (.int .i64) (.int .i64))) Cw3
abbrev Cw6:=(Int×Int)×Cw4
abbrev Cw7:Ty:=.pair (.int .i64) Cw5
abbrev Cw8:=Int×Cw6
abbrev X1:Ty:=.pair .bool Cw7
abbrev X2:=Bool×Cw8
abbrev Cw9:Ty:=.pair (.agg X1) (.int .i64)
abbrev Cx0:=X2×Int
abbrev Cx1:Ty:=.pair (.agg X1) Bb4
abbrev Bb5:Ty:=.pair .bool V6
abbrev Cx2:=Bool×AB9
abbrev BF1:Ty:=.pair (.agg (.pair (.int .i64) (.int .i64))) V6
abbrev Cx3:Ty:=.pair (.agg Yt3) (.int .i64)
abbrev Cx4:Ty:=.pair (.slice (.agg Yt3)) (.int .i64)
abbrev Cx5:Ty:=.pair (.agg T6) (.pair (.agg (.pair (.int .i64) (.int .i64))) (.int .i64))
abbrev Cx6:Ty:=.pair (.agg E7) Cx5
abbrev Cx7:Ty:=.pair (.agg C9) Cx6
abbrev Cx8:Ty:=.pair (.slice (.int .i64)) V6
abbrev Cx9:=(List Int)×AB9
abbrev Bb6:Ty:=.pair (.int .i64) V6
abbrev Cy0:Ty:=.pair (.agg (.pair (.int .i64) (.int .i64))) Bb6
abbrev Cy1:Ty:=.pair (.agg X1) Cy0
abbrev Ac3:Ty:=.pair (.int .i64) (.pair (.slice (.int .i64)) (.pair .bool .bool))
abbrev Ap0:=Int×((List Int)×(Bool×Bool))
abbrev Cy2:Ty:=.pair (.agg Ac3) V6
abbrev Cy3:=Ap0×AB9
abbrev Cy4:Ty:=.pair (.agg X1) BF1
abbrev Cy5:Ty:=.pair (.agg V7) Cy4
abbrev Cy6:Ty:=.pair (.agg E7) (.pair (.int .i64) (.agg (.pair (.int .i64) (.int .i64))))
abbrev Cy7:Ty:=.pair (.agg C9) Cy6
abbrev Cy8:Ty:=.pair (.agg (.pair (.int .i64) (.int .i64))) BE9
abbrev Bb7:Ty:=.pair (.agg (.pair .bool (.pair (.int .u16) (.int .i64)))) (.agg (.pair .bool (.pair (.int .u16) (.int .i64))))
abbrev Cy9:=(Bool×(Int×Int))×(Bool×(Int×Int))
abbrev Cz0:Ty:=.pair (.agg Ac3) BF1
abbrev Cz1:Ty:=.pair (.int .i64) (.pair .bool (.pair .bool .bool))
abbrev Cz2:Ty:=.pair (.agg C9) Cz1
abbrev Cz3:Ty:=.pair (.agg (.pair (.int .i64) (.pair (.int .i64) .bool))) Cz2
abbrev Cz4:Ty:=.pair (.agg C9) (.pair (.agg (.pair (.int .i64) (.int .i64))) (.int .i64))
abbrev Cz5:Ty:=.pair (.agg (.pair (.int .i64) .bool)) Cz4
abbrev Cz6:Ty:=.pair (.agg C9) AF5
abbrev Cz7:Ty:=.pair (.agg AF5) Cz6
abbrev Cz8:Ty:=.pair (.agg (.pair (.int .i64) (.pair (.int .i64) .bool))) (.pair .bool (.pair (.int .i64) .bool))
abbrev Cz9:Ty:=.pair (.agg T6) (.int .i64)
abbrev DA0:Ty:=.pair (.slice (.int .i64)) Cz9
abbrev DA1:Ty:=.pair (.agg E7) DA0
abbrev DA2:Ty:=.pair .bool Ba0
abbrev DA3:=Bool×Ba1
abbrev DA4:Ty:=.pair .bool DA2
abbrev DA5:=Bool×DA3
abbrev DA6:Ty:=.pair .bool DA4
abbrev DA7:=Bool×DA5
abbrev DA8:Ty:=.pair .bool DA6
abbrev DA9:=Bool×DA7
abbrev DB0:Ty:=.pair .bool DA8
abbrev DB1:=Bool×DA9
abbrev DB2:Ty:=.pair (.int .i64) DB0
abbrev DB3:=Int×DB1
abbrev DB4:Ty:=.pair (.int .i64) DB2
abbrev DB5:=Int×DB3
abbrev DB6:Ty:=.pair .bool DB4
abbrev DB7:=Bool×DB5
abbrev DB8:Ty:=.pair .bool DB6
abbrev DB9:=Bool×DB7
abbrev DC0:Ty:=.pair (.int .i64) DB8
abbrev DC1:=Int×DB9
abbrev DC2:Ty:=.pair (.slice (.slice (.int .i64))) DC0
abbrev DC3:=(List (List Int))×DC1
abbrev DC4:Ty:=.pair (.int .i64) DC2
abbrev DC5:=Int×DC3
abbrev DC6:Ty:=.pair (.int .i64) DC4
abbrev DC7:=Int×DC5
abbrev DC8:Ty:=.pair (.int .i64) DC6
abbrev DC9:=Int×DC7
abbrev DD0:Ty:=.pair (.int .i64) DC8
abbrev DD1:=Int×DC9
abbrev DD2:Ty:=.pair (.int .i64) DD0
abbrev DD3:=Int×DD1
abbrev DD4:Ty:=.pair (.int .i64) DD2
abbrev DD5:=Int×DD3
abbrev DD6:Ty:=.pair (.int .i64) DD4
abbrev DD7:=Int×DD5
abbrev DD8:Ty:=.pair (.int .i64) DD6
abbrev DD9:=Int×DD7
abbrev DE0:Ty:=.pair (.int .i64) DD8
abbrev DE1:=Int×DD9
abbrev DE2:Ty:=.pair (.int .i64) DE0
abbrev DE3:=Int×DE1
abbrev DE4:Ty:=.pair .bool DE2
abbrev DE5:=Bool×DE3
abbrev DE6:Ty:=.pair (.int .i64) DE4
abbrev DE7:=Int×DE5
abbrev DE8:Ty:=.pair (.int .i64) DE6
abbrev DE9:=Int×DE7
abbrev DF0:Ty:=.pair (.int .i64) DE8
abbrev DF1:=Int×DE9
abbrev DF2:Ty:=.pair (.int .i64) DF0
abbrev DF3:=Int×DF1
abbrev DF4:Ty:=.pair .bool DF2
abbrev DF5:=Bool×DF3
abbrev DF6:Ty:=.pair .bool DF4
abbrev DF7:=Bool×DF5
abbrev DF8:Ty:=.pair .bool DF6
abbrev DF9:=Bool×DF7
abbrev DG0:Ty:=.pair (.int .i64) DF8
abbrev DG1:=Int×DF9
abbrev DG2:Ty:=.pair (.int .i64) DG0
abbrev DG3:=Int×DG1
abbrev DG4:Ty:=.pair (.int .i64) DG2
abbrev DG5:=Int×DG3
abbrev DG6:Ty:=.pair (.int .i64) DG4
abbrev DG7:=Int×DG5
abbrev DG8:Ty:=.pair (.int .i64) DG6
abbrev DG9:=Int×DG7
abbrev DH0:Ty:=.pair .bool DG8
abbrev DH1:=Bool×DG9
abbrev DH2:Ty:=.pair (.slice (.agg I4)) DH0
abbrev DH3:=(List E3)×DH1
abbrev DH4:Ty:=.pair (.int .i64) DH2
abbrev DH5:=Int×DH3
abbrev DH6:Ty:=.pair (.int .i64) DH4
abbrev DH7:=Int×DH5
abbrev DH8:Ty:=.pair (.int .i64) DH6
abbrev DH9:=Int×DH7
abbrev DI0:Ty:=.pair (.int .i64) DH8
abbrev DI1:=Int×DH9
abbrev DI2:Ty:=.pair (.int .i64) DI0
abbrev DI3:=Int×DI1
abbrev DI4:Ty:=.pair .bool DI2
abbrev DI5:=Bool×DI3
abbrev DI6:Ty:=.pair (.int .i64) DI4
abbrev DI7:=Int×DI5
abbrev DI8:Ty:=.pair (.int .i64) DI6
abbrev DI9:=Int×DI7
abbrev DJ0:Ty:=.pair (.int .i64) DI8
abbrev DJ1:=Int×DI9
abbrev DJ2:Ty:=.pair (.int .i64) DJ0
abbrev DJ3:=Int×DJ1
abbrev DJ4:Ty:=.pair (.int .i64) DJ2
abbrev DJ5:=Int×DJ3
abbrev DJ6:Ty:=.pair (.int .i64) DJ4
abbrev DJ7:=Int×DJ5
abbrev DJ8:Ty:=.pair (.int .i64) DJ6
abbrev DJ9:=Int×DJ7
abbrev DK0:Ty:=.pair (.int .i64) DJ8
abbrev DK1:=Int×DJ9
abbrev DK2:Ty:=.pair (.int .u16) DK0
abbrev DK3:=Int×DK1
abbrev DK4:Ty:=.pair .bool DK2
abbrev DK5:=Bool×DK3
abbrev DK6:Ty:=.pair (.int .i64) DK4
abbrev DK7:=Int×DK5
abbrev DK8:Ty:=.pair (.int .u16) DK6
abbrev DK9:=Int×DK7
abbrev DL0:Ty:=.pair .bool DK8
abbrev DL1:=Bool×DK9
abbrev DL2:Ty:=.pair (.slice (.int .i64)) DL0
abbrev DL3:=(List Int)×DL1
abbrev DL4:Ty:=.pair (.int .i64) DL2
abbrev DL5:=Int×DL3
abbrev DL6:Ty:=.pair (.int .i64) DL4
abbrev DL7:=Int×DL5
abbrev DL8:Ty:=.pair (.int .i64) DL6
abbrev DL9:=Int×DL7
abbrev DM0:Ty:=.pair .bool DL8
abbrev DM1:=Bool×DL9
abbrev DM2:Ty:=.pair (.slice (.agg Yt3)) DM0
abbrev DM3:=(List Yd3)×DM1
abbrev DM4:Ty:=.pair (.slice (.agg Yt1)) DM2
abbrev DM5:=(List Yd1)×DM3
abbrev DM6:Ty:=.pair (.int .i64) DM4
abbrev DM7:=Int×DM5
abbrev DM8:Ty:=.pair (.int .i64) DM6
abbrev DM9:=Int×DM7
abbrev DN0:Ty:=.pair (.int .i64) DM8
abbrev DN1:=Int×DM9
abbrev DN2:Ty:=.pair (.int .i64) DN0
abbrev DN3:=Int×DN1
abbrev DN4:Ty:=.pair (.int .i64) DN2
abbrev DN5:=Int×DN3
abbrev DN6:Ty:=.pair (.int .i64) DN4
abbrev DN7:=Int×DN5
abbrev DN8:Ty:=.pair (.int .i64) DN6
abbrev DN9:=Int×DN7
abbrev DO0:Ty:=.pair (.int .i64) DN8
abbrev DO1:=Int×DN9
abbrev DO2:Ty:=.pair (.int .i64) DO0
abbrev DO3:=Int×DO1
abbrev DO4:Ty:=.pair (.int .i64) DO2
abbrev DO5:=Int×DO3
abbrev DO6:Ty:=.pair (.int .i64) DO4
abbrev DO7:=Int×DO5
abbrev DO8:Ty:=.pair (.int .i64) DO6
abbrev DO9:=Int×DO7
abbrev DP0:Ty:=.pair (.int .i64) DO8
abbrev DP1:=Int×DO9
abbrev Bb8:Ty:=.pair (.int .i64) DP0
abbrev DP2:=Int×DP1
abbrev DP3:Ty:=.pair (.agg AL5) Bb8
abbrev DP4:Ty:=.pair (.agg R0) V6
abbrev DP5:=L8×AB9
abbrev DP6:Ty:=.pair (.slice (.slice (.int .u8))) Bb5
abbrev DP7:=(List Int)×(Int×(Int×Bool))
abbrev DP8:=Int×DP7
abbrev DP9:=(List Yd1)×DP8
abbrev DQ0:=Int×DP9
abbrev DQ1:=Int×DQ0
abbrev DQ2:=Bool×DQ1
abbrev DQ3:=Int×DQ2
abbrev DQ4:=Int×DQ3
abbrev DQ5:=Int×DQ4
abbrev DQ6:=(List L8)×DQ5
abbrev DQ7:=Int×DQ6
abbrev DQ8:=Int×DQ7
abbrev DQ9:=Bool×DQ8
abbrev DR0:=Int×DQ9
abbrev DR1:=Int×DR0
abbrev DR2:=Int×DR1
abbrev DR3:=Int×DR2
abbrev DR4:=Bool×DR3
abbrev DR5:=Int×DR4
abbrev DR6:=Int×DR5
abbrev DR7:=Int×DR6
abbrev DR8:=Int×DR7
abbrev DR9:=Int×DR8
abbrev DS0:=Int×DR9
abbrev DS1:=Int×DS0
abbrev DS2:=Bool×DS1
abbrev DS3:=Int×DS2
abbrev DS4:=Int×DS3
abbrev DS5:=Int×DS4
abbrev DS6:=Int×DS5
abbrev DS7:=Int×DS6
abbrev DS8:=Int×DS7
abbrev DS9:=Int×DS8
abbrev DT0:=Int×DS9
abbrev DT1:=Bool×DT0
abbrev DT2:=Int×DT1
abbrev DT3:=Int×DT2
abbrev DT4:=Int×DT3
abbrev DT5:=Bool×DT4
abbrev DT6:=(List Yd3)×DT5
abbrev DT7:=Int×DT6
abbrev DT8:=Int×DT7
abbrev DT9:=Int×DT8
abbrev DU0:=Int×DT9
abbrev DU1:=Int×DU0
abbrev DU2:=Bool×DU1
abbrev DU3:=(List E3)×DU2
abbrev DU4:=Int×DU3
abbrev DU5:=Int×DU4
abbrev DU6:=Int×DU5
abbrev DU7:=Int×DU6
abbrev DU8:=Bool×DU7
abbrev DU9:=Int×DU8
abbrev DV0:=Int×DU9
abbrev DV1:Ty:=.pair (.agg C9) Ba3
abbrev DV2:Ty:=.pair (.agg R0) (.agg R0)
abbrev DV3:Ty:=.pair (.slice (.agg R0)) (.slice (.agg R0))
abbrev DV4:Ty:=.pair (.agg E7) (.pair (.slice (.agg (.pair (.slice (.slice (.int .u8))) .bool))) (.int .i64))
abbrev DV5:Ty:=.pair (.agg C9) DV4
abbrev Bb9:Ty:=.pair .bool V4
abbrev DV6:Ty:=.pair (.agg AF5) (.agg (.pair (.int .i64) (.pair (.int .i64) .bool)))
abbrev DV7:Ty:=.pair (.agg (.pair (.int .i64) .bool)) DV6
abbrev DV8:Ty:=.pair (.agg Bb9) DV7
abbrev DV9:Ty:=.pair (.agg X1) DV8
abbrev DW0:Ty:=.pair (.int .i64) DV9
abbrev DW1:Ty:=.pair (.agg (.pair (.int .i64) (.int .i64))) DW0
abbrev DW2:Ty:=.pair (.agg V4) DW1
abbrev DW3:Ty:=.pair (.agg Bb7) DW2
abbrev DW4:Ty:=.pair (.slice (.int .i64)) DW3
abbrev DW5:Ty:=.pair (.agg (.pair (.int .i64) (.int .i64))) DW4
abbrev DW6:Ty:=.pair (.int .i64) DW5
abbrev DW7:Ty:=.pair .bool DW6
abbrev DW8:Ty:=.pair (.agg E7) DW7
abbrev DW9:Ty:=.pair (.agg C9) DW8
def tys:List (Nat×TD):=[
 (2,⟨some (.int .i64),[.dat (.int .i64) (0:Int)],.scalar⟩),
 (3,⟨some (.int .i64),[.dat (.int .i64) (0:Int)],.scalar⟩),
 (4,⟨some .bool,[.dat .bool false],.scalar⟩),
 (5,⟨some (.int .u8),[.dat (.int .u8) (0:Int)],.scalar⟩),
 (9,⟨some .str,[.dat .str ByteArray.empty],.scalar⟩),
 (21,⟨some (.int .i32),[.dat (.int .i32) (0:Int)],.scalar⟩),
 (23,⟨some (.agg C9),List.replicate 14 (.dat (.int .i64) (0:Int)),.struct [(2,0,1),(2,1,1),(2,2,1),(2,3,1),(2,4,1),(2,5,1),(2,6,1),(2,7,1),(2,8,1),(3,9,1),(2,10,1),(2,11,1),(3,12,1),(2,13,1)]⟩),
 (24,⟨some (.slice (.agg Yt1)),[.nil],.slice 67 3 56⟩),
 (25,⟨some (.slice (.agg Yt3)),[.nil],.slice 71 5 40⟩),
 (27,⟨some (.agg E7),[.nil,.nil],.struct [(24,0,1),(25,1,1)]⟩),
 (28,⟨some (.slice (.agg (.pair (.slice (.slice (.int .u8))) .bool))),[.nil],.slice 33 2 32⟩),
 (30,⟨none,[.undef],.scalar⟩),
 (31,⟨some (.slice (.slice (.int .u8))),[.nil],.slice 34 1 24⟩),
 (33,⟨some (.agg (.pair (.slice (.slice (.int .u8))) .bool)),[.nil,.dat .bool false],.struct [(31,0,1),(4,1,1)]⟩),
 (34,⟨some (.slice (.int .u8)),[.nil],.slice 5 1 1⟩),
 (38,⟨some (.agg (.pair (.int .i64) (.pair (.int .i64) (.int .i64)))),[.dat (.int .i64) (0:Int),.dat (.int .i64) (0:Int),.dat (.int .i64) (0:Int)],.struct [(3,0,1),(3,1,1),(2,2,1)]⟩),
 (40,⟨some (.slice (.agg R0)),[.nil],.slice 49 32 232⟩),
 (44,⟨some (.agg (.pair (.int .i64) (.int .i64))),[.dat (.int .i64) (0:Int),.dat (.int .i64) (0:Int)],.struct [(2,0,1),(2,1,1)]⟩),
 (45,⟨some (.slice (.slice (.int .i64))),[.nil],.slice 65 1 24⟩),
 (46,⟨some (.agg (.pair (.int .i64) (.int .i64))),[.dat (.int .i64) (0:Int),.dat (.int .i64) (0:Int)],.array 2 3 1⟩),
 (47,⟨some (.agg V4),[.dat (.int .i64) (0:Int),.dat (.int .i64) (0:Int),.dat (.int .i64) (0:Int),.dat (.int .i64) (0:Int)],.array 2 44 2⟩),
 (49,⟨some (.agg R0),[.dat (.int .i64) (0:Int),.dat (.int .i64) (0:Int),.dat (.int .i64) (0:Int),.dat (.int .i64) (0:Int),.dat (.int .i64) (0:Int),.dat (.int .i64) (0:Int),.dat (.int .i64) (0:Int),.dat (.int .i64) (0:Int),.dat (.int .i64) (0:Int),.dat (.int .i64) (0:Int),.nil,.dat (.int .i64) (0:Int),.dat .bool false,.dat .bool false,.dat (.int .i64) (0:Int),.dat (.int .i64) (0:Int),.dat .bool false,.dat .bool false,.dat .bool false,.dat .bool false,.dat .bool false,.dat (.int .i64) (0:Int),.dat (.int .i64) (0:Int),.dat (.int .i64) (0:Int),.dat (.int .i64) (0:Int),.dat (.int .i64) (0:Int),.dat (.int .i64) (0:Int),.dat (.int .i64) (0:Int),.dat (.int .i64) (0:Int),.dat (.int .i64) (0:Int),.dat (.int .i64) (0:Int),.dat (.int .i64) (0:Int)],.struct [(3,0,1),(3,1,1),(3,2,1),(44,3,2),(2,5,1),(44,6,2),(2,8,1),(2,9,1),(45,10,1),(3,11,1),(4,12,1),(4,13,1),(46,14,2),(4,16,1),(4,17,1),(4,18,1),(4,19,1),(4,20,1),(44,21,2),(2,23,1),(47,24,4),(3,28,1),(3,29,1),(3,30,1),(3,31,1)]⟩),
 (51,⟨some (.slice (.agg Ao5)),[.nil],.slice 56 11 20⟩),
 (52,⟨some (.int .u16),[.dat (.int .u16) (0:Int)],.scalar⟩),
 (53,⟨some (.agg (.pair (.int .u16) (.int .u16))),[.dat (.int .u16) (0:Int),.dat (.int .u16) (0:Int)],.array 2 52 1⟩),
 (54,⟨some (.agg Yt5),[.dat .bool false,.dat .bool false,.dat .bool false,.dat .bool false,.dat .bool false],.array 5 4 1⟩),
 (56,⟨some (.agg Ao5),[.dat (.int .u16) (0:Int),.dat (.int .u16) (0:Int),.dat (.int .i32) (0:Int),.dat (.int .i32) (0:Int),.dat (.int .u16) (0:Int),.dat .bool false,.dat .bool false,.dat .bool false,.dat .bool false,.dat .bool false,.dat .bool false],.struct [(53,0,2),(21,2,1),(21,3,1),(52,4,1),(54,5,5),(4,10,1)]⟩),
 (63,⟨some (.agg (.pair (.int .i64) (.int .i64))),[.dat (.int .i64) (0:Int),.dat (.int .i64) (0:Int)],.array 2 2 1⟩),
 (64,⟨some (.slice (.agg (.pair (.int .i64) (.int .i64)))),[.nil],.slice 69 2 16⟩),
 (65,⟨some (.slice (.int .i64)),[.nil],.slice 3 1 8⟩),
 (67,⟨some (.agg Yt1),[.dat (.int .i64) (0:Int),.nil,.nil],.struct [(2,0,1),(64,1,1),(65,2,1)]⟩),
 (69,⟨some (.agg (.pair (.int .i64) (.int .i64))),[.dat (.int .i64) (0:Int),.dat (.int .i64) (0:Int)],.struct [(2,0,1),(2,1,1)]⟩),
 (71,⟨some (.agg Yt3),[.dat (.int .i64) (0:Int),.dat (.int .i64) (0:Int),.dat (.int .i64) (0:Int),.dat (.int .i64) (0:Int),.dat (.int .i64) (0:Int)],.struct [(3,0,1),(3,1,1),(2,2,1),(2,3,1),(2,4,1)]⟩),
 (73,⟨some (.int .u64),[.dat (.int .u64) (0:Int)],.scalar⟩),
 (80,⟨some (.agg C9),List.replicate 14 (.dat (.int .i64) (0:Int)),.struct [(2,0,1),(2,1,1),(2,2,1),(2,3,1),(2,4,1),(2,5,1),(2,6,1),(2,7,1),(2,8,1),(3,9,1),(2,10,1),(2,11,1),(3,12,1),(2,13,1)]⟩),
 (85,⟨some (.agg Yt3),[.dat (.int .i64) (0:Int),.dat (.int .i64) (0:Int),.dat (.int .i64) (0:Int),.dat (.int .i64) (0:Int),.dat (.int .i64) (0:Int)],.array 5 2 1⟩),
 (90,⟨some (.slice (.int .i64)),[.nil],.slice 2 1 8⟩),
 (92,⟨some (.agg Ao6),[.dat (.int .i64) (0:Int),.dat (.int .i64) (0:Int),.dat (.int .i64) (0:Int),.dat (.int .i64) (0:Int),.dat (.int .i64) (0:Int),.dat (.int .i64) (0:Int)],.array 6 3 1⟩),
 (93,⟨some (.int .u64),[.dat (.int .u64) (0:Int)],.scalar⟩),
 (97,⟨some (.slice (.agg Yt1)),[.nil],.slice 157 3 56⟩),
 (98,⟨some (.slice (.agg Yt3)),[.nil],.slice 160 5 40⟩),
 (100,⟨some (.agg E7),[.nil,.nil],.struct [(97,0,1),(98,1,1)]⟩),
 (107,⟨some (.agg (.pair .bool (.pair (.int .u16) (.int .i64)))),[.dat .bool false,.dat (.int .u16) (0:Int),.dat (.int .i64) (0:Int)],.struct [(4,0,1),(52,1,1),(2,2,1)]⟩),
 (108,⟨some (.agg Bb7),[.dat .bool false,.dat (.int .u16) (0:Int),.dat (.int .i64) (0:Int),.dat .bool false,.dat (.int .u16) (0:Int),.dat (.int .i64) (0:Int)],.array 2 107 3⟩),
 (109,⟨some (.slice (.agg I4)),[.nil],.slice 195 13 104⟩),
 (111,⟨some (.agg T6),[.dat (.int .i64) (0:Int),.nil],.struct [(2,0,1),(109,1,1)]⟩),
 (113,⟨some (.agg X1),[.dat .bool false,.dat (.int .i64) (0:Int),.dat (.int .i64) (0:Int),.dat (.int .i64) (0:Int),.dat (.int .i64) (0:Int),.dat (.int .i64) (0:Int),.nil],.struct [(4,0,1),(3,1,1),(44,2,2),(2,4,1),(111,5,2)]⟩),
 (115,⟨some (.agg Bb9),[.dat .bool false,.dat (.int .i64) (0:Int),.dat (.int .i64) (0:Int),.dat (.int .i64) (0:Int),.dat (.int .i64) (0:Int)],.struct [(4,0,1),(44,1,2),(63,3,2)]⟩),
 (117,⟨some (.agg (.pair (.int .i64) .bool)),[.dat (.int .i64) (0:Int),.dat .bool false],.struct [(3,0,1),(4,1,1)]⟩),
 (119,⟨some (.agg AF5),[.dat .bool false,.dat .bool false,.dat (.int .i64) (0:Int),.dat (.int .i64) (0:Int)],.struct [(4,0,1),(4,1,1),(44,2,2)]⟩),
 (121,⟨some (.agg (.pair (.int .i64) (.pair (.int .i64) .bool))),[.dat (.int .i64) (0:Int),.dat (.int .i64) (0:Int),.dat .bool false],.struct [(3,0,1),(3,1,1),(4,2,1)]⟩),
 (123,⟨some (.agg DW9),[.dat (.int .i64) (0:Int),.dat (.int .i64) (0:Int),.dat (.int .i64) (0:Int),.dat (.int .i64) (0:Int),.dat (.int .i64) (0:Int),.dat (.int .i64) (0:Int),.dat (.int .i64) (0:Int),.dat (.int .i64) (0:Int),.dat (.int .i64) (0:Int),.dat (.int .i64) (0:Int),.dat (.int .i64) (0:Int),.dat (.int .i64) (0:Int),.dat (.int .i64) (0:Int),.dat (.int .i64) (0:Int),.nil,.nil,.dat .bool false,.dat (.int .i64) (0:Int),.dat (.int .i64) (0:Int),.dat (.int .i64) (0:Int),.nil,.dat .bool false,.dat (.int .u16) (0:Int),.dat (.int .i64) (0:Int),.dat .bool false,.dat (.int .u16) (0:Int),.dat (.int .i64) (0:Int),.dat (.int .i64) (0:Int),.dat (.int .i64) (0:Int),.dat (.int .i64) (0:Int),.dat (.int .i64) (0:Int),.dat (.int .i64) (0:Int),.dat (.int .i64) (0:Int),.dat (.int .i64) (0:Int),.dat .bool false,.dat (.int .i64) (0:Int),.dat (.int .i64) (0:Int),.dat (.int .i64) (0:Int),.dat (.int .i64) (0:Int),.dat (.int .i64) (0:Int),.nil,.dat .bool false,.dat (.int .i64) (0:Int),.dat (.int .i64) (0:Int),.dat (.int .i64) (0:Int),.dat (.int .i64) (0:Int),.dat (.int .i64) (0:Int),.dat .bool false,.dat .bool false,.dat .bool false,.dat (.int .i64) (0:Int),.dat (.int .i64) (0:Int),.dat (.int .i64) (0:Int),.dat (.int .i64) (0:Int),.dat .bool false],.struct [(23,0,14),(100,14,2),(4,16,1),(3,17,1),(44,18,2),(90,20,1),(108,21,6),(47,27,4),(44,31,2),(2,33,1),(113,34,7),(115,41,5),(117,46,2),(119,48,4),(121,52,3)]⟩),
 (127,⟨some (.agg Ba8),[.dat .bool false,.dat .bool false,.dat .bool false,.dat .bool false,.dat .bool false,.dat .bool false],.array 6 4 1⟩),
 (128,⟨some (.agg Ao6),[.dat (.int .i64) (0:Int),.dat (.int .i64) (0:Int),.dat (.int .i64) (0:Int),.dat (.int .i64) (0:Int),.dat (.int .i64) (0:Int),.dat (.int .i64) (0:Int)],.array 6 2 1⟩),
 (130,⟨some (.agg V7),[.dat .bool false,.dat .bool false,.dat .bool false,.dat .bool false,.dat .bool false,.dat .bool false,.dat (.int .i64) (0:Int),.dat (.int .i64) (0:Int),.dat (.int .i64) (0:Int),.dat (.int .i64) (0:Int),.dat (.int .i64) (0:Int),.dat (.int .i64) (0:Int),.dat (.int .i64) (0:Int),.dat (.int .i64) (0:Int),.dat (.int .i64) (0:Int),.dat (.int .i64) (0:Int)],.struct [(127,0,6),(128,6,6),(3,12,1),(3,13,1),(3,14,1),(3,15,1)]⟩),
 (133,⟨some (.agg AL5),[.dat (.int .i64) (0:Int),.dat (.int .i64) (0:Int),.dat (.int .i64) (0:Int),.dat .bool false,.dat .bool false,.dat (.int .i64) (0:Int),.dat (.int .i64) (0:Int)],.struct [(44,0,2),(3,2,1),(4,3,1),(4,4,1),(46,5,2)]⟩),
 (137,⟨some (.agg Ac3),[.dat (.int .i64) (0:Int),.nil,.dat .bool false,.dat .bool false],.struct [(3,0,1),(90,1,1),(4,2,1),(4,3,1)]⟩),
 (153,⟨some (.agg (.pair (.slice (.int .u8)) .bool)),[.nil,.dat .bool false],.struct [(34,0,1),(4,1,1)]⟩),
 (155,⟨some (.slice (.agg (.pair (.int .i64) (.int .i64)))),[.nil],.slice 165 2 16⟩),
 (157,⟨some (.agg Yt1),[.dat (.int .i64) (0:Int),.nil,.nil],.struct [(2,0,1),(155,1,1),(65,2,1)]⟩),
 (160,⟨some (.agg Yt3),[.dat (.int .i64) (0:Int),.dat (.int .i64) (0:Int),.dat (.int .i64) (0:Int),.dat (.int .i64) (0:Int),.dat (.int .i64) (0:Int)],.struct [(3,0,1),(3,1,1),(2,2,1),(2,3,1),(2,4,1)]⟩),
 (165,⟨some (.agg (.pair (.int .i64) (.int .i64))),[.dat (.int .i64) (0:Int),.dat (.int .i64) (0:Int)],.struct [(2,0,1),(2,1,1)]⟩),
 (171,⟨some (.agg (.pair .bool (.agg (.pair (.int .i64) (.int .i64))))),[.dat .bool false,.dat (.int .i64) (0:Int),.dat (.int .i64) (0:Int)],.struct [(4,0,1),(44,1,2)]⟩),
 (174,⟨some (.agg Ac2),[.dat .bool false,.dat (.int .i64) (0:Int),.dat (.int .i64) (0:Int),.dat .bool false,.dat (.int .i64) (0:Int),.dat (.int .i64) (0:Int),.dat .bool false,.dat (.int .i64) (0:Int),.dat (.int .i64) (0:Int)],.array 3 171 3⟩),
 (193,⟨some (.agg BE7),List.replicate 12 (.dat (.int .i64) (0:Int)),.array 12 3 1⟩),
 (195,⟨some (.agg I4),List.replicate 13 (.dat (.int .i64) (0:Int)),.struct [(3,0,1),(193,1,12)]⟩),
 (209,⟨none,[.nil],.slice 30 1 8⟩),
 (212,⟨some (.agg (.pair (.int .i64) (.pair (.int .i64) (.int .i64)))),[.dat (.int .i64) (0:Int),.dat (.int .i64) (0:Int),.dat (.int .i64) (0:Int)],.struct [(3,0,1),(3,1,1),(2,2,1)]⟩),
 (220,⟨some (.slice (.agg (.pair (.int .i64) (.int .i64)))),[.nil],.slice 44 2 16⟩),
 (247,⟨some (.int .u32),[.dat (.int .u32) (0:Int)],.scalar⟩),
 (268,⟨some (.agg (.pair (.int .u64) (.int .u64))),[.dat (.int .u64) (0:Int),.dat (.int .u64) (0:Int)],.struct [(73,0,1),(73,1,1)]⟩),
 (271,⟨some (.int .i16),[.dat (.int .i16) (0:Int)],.scalar⟩)]
theorem AW0:Ao4 Tryz.prog tys=true:=by kernel_rfl
end Go.Proofs.YthfjpkdadjemcaaGreat
