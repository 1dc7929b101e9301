/- The functional reading of the code (printed). -/
import Derived.Test.YthfjpkdadjemcaaGreatTysF
import Derived.Test.YthfjpkdadjemcaaGreatFnsF0
set_option linter.unusedSimpArgs false
set_option linter.unusedVariables false
namespace Go.Proofs.YthfjpkdadjemcaaGreat
open Go
abbrev dI:PT:=.dat (.int .i64)
abbrev oI:OP:=.dat (.int .i64)
theorem cgo {l:List Con}{o:List J0}{c:Con}{fn:Func}{code:Code}(h:Hint)(h1:∀k∈l,A3 Tryz.prog k)(h2:∀k∈o,NOK Tryz.prog k)(hf:Tryz.prog.funcs[c.f]? = some fn)(hb:fn.body=some code)(hn:(fn.name == "runtime.NumGoroutine")=false)(hr:AT3 ⟨R7 tys,l,o,[],[]⟩ c fn h=c.F):A3 Tryz.prog c:=
 BE3 (Γ:=⟨R7 tys,l,o,[],[]⟩) ⟨fun T d h=>AL3 tys AW0 T d h,h1,h2,by simp[],AU1 Tryz.prog [] (by kernel_rfl)⟩ (by kernel_rfl) hf hb hn hr
abbrev sI (n:Nat):It:=⟨.slot n,.int .i64,none⟩
abbrev sB (n:Nat):It:=⟨.slot n,.bool,none⟩
abbrev kI (b n:Nat):It:=⟨.cell b n,.int .i64,none⟩
abbrev kB (b n:Nat):It:=⟨.cell b n,.bool,none⟩
abbrev zP (l:List Nat):List Pl:=l.map fun n=>(0,n)
noncomputable def R1 [LP](a:V5)(b:F0)(c:E3):Option Int:=
 let d:=IntKind.wrap .i64 (0-a.1)
 (AW1 c).bind fun e=>
 Option.bind (
  LP.lp (X:=Int) (fun (f:(Int×Int))=>
   let g:=f.1
   let h:=f.2
   let i:=decide (h<e.length)
   (bif i then
    chk none (decide (0≤h)&&decide (h<e.length))<|
    let j:=(e.getD h.toNat 0)
    chk none (decide (0≤j)&&decide (j<b.1.length))<|
    let k:Yd1:=(b.1.getD j.toNat ((0:Int),([],[])))
    let l:=IntKind.wrap .i64 (g+k.1)
    let m:=IntKind.wrap .i64 (h+1)
    some (.inl (l,m))
   else
    some (.inr g))) (d,(0:Int))) fun n=>
 some n
noncomputable def Ap2:Con:={f:=129,ps:=[.dat (.agg T6),.dat (.agg E7),.dat (.agg I4)],boxes:=[],ins:=CW3,nin:=3,outs:=(.int .i64),rs:=[dI],A2:=1,F:=fun x=>R1 x.1 x.2.1 x.2.2}
theorem BF4:A3 Tryz.prog Ap2:=
 cgo (l:=[Ac5]) (o:=[]) (.mk .plain [H0,(.mk .plain [H0,(.mk .plain [(.mk .plain [H0,(.mk .plain [(.mk (.loop [sI 7,sI 16] (zP [23,20,26,19,9,22,28,25,21,18,24,27,17]) [(.exit 0,[sI 7])]) [])])])])])]) (by simp[BF3]) (by simp) Tryz.func129 rfl (by kernel_rfl) (by funext x;kernel_rfl)
noncomputable def S0 [LP](a:(Int×Int)):Option Bool:=
 some (decide (a.1≤a.2))
noncomputable def u6:Con:={f:=28,ps:=[.dat (.agg (.pair (.int .i64) (.int .i64)))],boxes:=[],ins:=(.agg (.pair (.int .i64) (.int .i64))),nin:=1,outs:=.bool,rs:=[.dat .bool],A2:=1,F:=fun x=>S0 x}
theorem AC0:A3 Tryz.prog u6:=
 cgo (l:=[]) (o:=[]) H0 (by simp) (by simp) Tryz.func28 rfl (by kernel_rfl) (by funext x;kernel_rfl)
noncomputable def Ap3 [LP](a:F0)(b:(List ((List (List Int))×Bool))):Option Bool:=
 let c:=(decide ((50:Int)<(a.1.length:Int)))
 let d:=(decide ((60:Int)<(a.2.length:Int)))
 let e:=(bif c then true else d)
 let f:=(decide ((120:Int)<(b.length:Int)))
 let g:=(bif e then true else f)
 (bif g then
  some false
 else
  Option.bind (α:=Bool ⊕ Unit) (
   LP.lp (X:=Bool ⊕ Unit) (fun (h:Int)=>
    let i:=decide (h<a.1.length)
    (bif i then
     chk none (decide (0≤h)&&decide (h<a.1.length))<|
     let j:Yd1:=(a.1.getD h.toNat ((0:Int),([],[])))
     let k:=(decide ((70:Int)<(j.2.1.length:Int)))
     chk none ((decide (0≤h)&&decide (h<a.1.length))|| !(!k))<|
     let l:Yd1:=(a.1.getD h.toNat ((0:Int),([],[])))
     let m:=(decide ((3:Int)<(l.2.2.length:Int)))
     let n:=(bif k then true else m)
     (bif n then
      some (.inr (.inl false))
     else
      let o:=IntKind.wrap .i64 (h+1)
      some (.inl o))
    else
     some (.inr (.inr ())))) (0:Int)) fun z=>match z with
  | .inl p=>
   some p
  | .inr _=>
   Option.bind (α:=Bool ⊕ Unit) (
    LP.lp (X:=Bool ⊕ Unit) (fun (q:Int)=>
     let r:=decide (q<b.length)
     (bif r then
      chk none (decide (0≤q)&&decide (q<b.length))<|
      let s:((List (List Int))×Bool):=(b.getD q.toNat ([],false))
      let t:=(decide ((40:Int)<(s.1.length:Int)))
      (bif t then
       some (.inr (.inl false))
      else
       chk none (decide (0≤q)&&decide (q<b.length))<|
       let u:((List (List Int))×Bool):=(b.getD q.toNat ([],false))
       Option.bind (α:=Bool ⊕ Unit) (
        LP.lp (X:=Bool ⊕ Unit) (fun (v:Int)=>
         let w:=decide (v<u.1.length)
         (bif w then
          chk none (decide (0≤v)&&decide (v<u.1.length))<|
          let y:(List Int):=(u.1.getD v.toNat [])
          let z:=(decide ((200:Int)<(y.length:Int)))
          (bif z then
           some (.inr (.inl false))
          else
           let a0:=IntKind.wrap .i64 (v+1)
           some (.inl a0))
         else
          some (.inr (.inr ())))) (0:Int)) fun z=>match z with
       | .inl a1=>
        some (.inr (.inl a1))
       | .inr _=>
        let a2:=IntKind.wrap .i64 (q+1)
        some (.inl a2))
     else
      some (.inr (.inr ())))) (0:Int)) fun z=>match z with
   | .inl a3=>
    some a3
   | .inr _=>
    some true)
noncomputable def Bc4:Con:={f:=9,ps:=[.dat (.agg E7),.dat (.slice (.agg (.pair (.slice (.slice (.int .u8))) .bool)))],boxes:=[],ins:=Ba3,nin:=2,outs:=.bool,rs:=[.dat .bool],A2:=1,F:=fun x=>Ap3 x.1 x.2}
theorem DY2:A3 Tryz.prog Bc4:=
 cgo (l:=[]) (o:=[]) (.mk .plain [H0,(.mk .plain [H0,(.mk .plain [(.mk .plain [H0,(.mk .plain [(.mk (.loop [sI 27] (zP [30,36,42,4,39,45,28,31,5,34,40,37,43,46,29,35,32,38,41,47,44,33,48]) [(.ret,[sB 4]),(.exit 0,[])]) [])])]),(.mk .plain [(.mk .plain [H0,(.mk .plain [(.mk (.loop [sI 51] (zP [52,4,55,58,54,6,57,60,53,59,56,68,65,71,74,66,63,69,8,72,61,64,67,73,70,62,75]) [(.ret,[sB 4]),(.exit 2,[])]) [(.mk .plain [H0,(.mk .plain [H0,(.mk .plain [(.mk .plain [(.mk .plain [H0,(.mk .plain [H0,(.mk .plain [H0,(.mk .plain [(.mk (.loop [sI 67] (zP [68,70,4,71,69,8,72,73,74]) [(.ret,[sB 4]),(.exit 4,[])]) [])])])])])])])])])])])])])])])]) (by simp) (by simp) Tryz.func9 rfl (by kernel_rfl) (by funext x;kernel_rfl)
noncomputable def Bc5 [LP](a:Int):Option Int:=
 let b:BE6:=((0:Int),((2:Int),((2:Int),((4:Int),((4:Int),(2:Int))))))
 let c:=decide (a<(1:Int))
 let d:=decide ((5:Int)<a)
 let e:=(bif c then true else d)
 (bif e then
  some (0:Int)
 else
  chk none ((decide ((0:Int)≤a))&&(decide (a<(6:Int))))<|
  let f:=(List.getD [b.1,b.2.1,b.2.2.1,b.2.2.2.1,b.2.2.2.2.1,b.2.2.2.2.2] a.toNat 0)
  some f)
noncomputable def Bc6:Con:={f:=19,ps:=[dI],boxes:=[],ins:=(.int .i64),nin:=1,outs:=(.int .i64),rs:=[dI],A2:=1,F:=fun x=>Bc5 x}
theorem DY3:A3 Tryz.prog Bc6:=
 cgo (l:=[]) (o:=[]) H0 (by simp) (by simp) Tryz.func19 rfl (by kernel_rfl) (by funext x;kernel_rfl)
noncomputable def AL6 [LP](a b:Int):Option Int:=
 Option.bind (
  LP.lp (X:=Int) (fun (c:(Int×(Int×Int)))=>
   let d:=c.1
   let e:=c.2.1
   let f:=c.2.2
   let g:=decide (d<(16:Int))
   (bif g then
    chk none (!(f==(0:Int)))<|
    let h:=IntKind.wrap .i64 (a.tdiv f)
    chk none (!(f==(0:Int)))<|
    let i:=IntKind.wrap .i64 (b.tdiv f)
    let j:=((h.tmod (2:Int))!=(i.tmod (2:Int)))
    Option.bind (
     (bif j then
      let k:=IntKind.wrap .i64 (e+f)
      some k
     else
      some e)) fun l=>
    let m:=IntKind.wrap .i64 ((2:Int)*f)
    let n:=IntKind.wrap .i64 (d+1)
    some (.inl (n,l,m))
   else
    some (.inr e))) ((0:Int),(0:Int),(1:Int))) fun o=>
 some o
noncomputable def Bc7:Con:={f:=29,ps:=[dI,dI],boxes:=[],ins:=(.pair (.int .i64) (.int .i64)),nin:=2,outs:=(.int .i64),rs:=[dI],A2:=1,F:=fun x=>AL6 x.1 x.2}
theorem DY4:A3 Tryz.prog Bc7:=
 cgo (l:=[]) (o:=[]) (.mk .plain [H0,(.mk .plain [H0,(.mk .plain [H0,(.mk .plain [(.mk .plain [H0,(.mk .plain [(.mk (.loop [sI 7,sI 5,sI 6] (zP [10,16,13,19,22,25,8,14,11,17,23,20,9,12,15,21,18,24]) [(.exit 0,[sI 5])]) [(.mk .plain [H0,(.mk .plain [(.mk .plain [(.mk .plain [(.mk .plain [H0,(.mk (.join (zP [23,21,22]) [(.normal,[sI 5])]) [])])])])])])])])])])])])]) (by simp) (by simp) Tryz.func29 rfl (by kernel_rfl) (by funext x;kernel_rfl)
noncomputable def AF7 [LP](a:(List Int)):Option Int:=
 let b:=(IntKind.wrap .i64 ((8:Int)*(a.length:Int)))
 let c:=IntKind.wrap .i64 (b+16)
 Option.bind (
  LP.lp (X:=Int) (fun (d:(Int×Int))=>
   let e:=d.1
   let f:=d.2
   (bif (decide (e<c)) then
    let g:=(IntKind.wrap .i64 ((8:Int)*(a.length:Int)))
    Option.bind (
     (bif (decide (e<g)) then
      let h:=IntKind.wrap .i64 (e.tdiv (8:Int))
      chk none (decide (0≤h)&&decide (h<a.length))<|
      let i:=(a.getD h.toNat 0)
      let j:=(IntKind.wrap .i64 ((7:Int)-(e.tmod (8:Int))))
      let k:=(IntKind.wrap .u64 j)
      chk none (decide ((0:Int)≤k))<|
      let l:=(i.fdiv (2 ^ (min k.toNat 8)))
      let m:=(IntKind.wrap .i64 l)
      some (m.tmod (2:Int))
     else
      some (0:Int))) fun n=>
    let o:=decide (e<(16:Int))
    Option.bind (
     (bif o then
      let p:=IntKind.wrap .i64 ((1:Int)-n)
      some p
     else
      some n)) fun q=>
    let r:=IntKind.wrap .i64 ((2:Int)*f)
    let s:=IntKind.wrap .i64 (r+q)
    let t:=decide ((65536:Int)≤s)
    Option.bind (
     (bif t then
      let u:=IntKind.wrap .i64 (s-65536)
      (AL6 u (4129:Int)).bind fun v=>
      some v
     else
      some s)) fun w=>
    let y:=IntKind.wrap .i64 (e+1)
    some (.inl (y,w))
   else
    some (.inr f))) ((0:Int),(0:Int))) fun z=>
 some z
noncomputable def BF5:Con:={f:=20,ps:=[.dat (.slice (.int .u8))],boxes:=[],ins:=(.slice (.int .u8)),nin:=1,outs:=(.int .i64),rs:=[dI],A2:=1,F:=fun x=>AF7 x}
theorem Bc8:A3 Tryz.prog BF5:=
 cgo (l:=[Bc7]) (o:=[]) (.mk .plain [H0,(.mk .plain [H0,(.mk .plain [H0,(.mk .plain [(.mk .plain [H0,(.mk .plain [(.mk (.loop [sI 5,sI 4] (zP [30,36,42,39,45,14,11,17,23,20,26,29,35,32,38,41,44,16,13,19,22,28,25,31,34,40,37,43,46,6,12,15,21,18,24,27,33]) [(.exit 0,[sI 4])]) [(.mk .plain [H0,(.mk .plain [(.mk .plain [(.mk .plain [H0,(.mk .plain [(.mk .plain [H0,(.mk (.join (zP [23,30,26,29,32,22,28,25,31,21,24,27]) [(.normal,[sI 6])]) [])]),(.mk .plain [(.mk .plain [H0,(.mk (.join [(0,35),(0,36)] [(.normal,[sI 6])]) [])]),(.mk .plain [H0,(.mk .plain [H0,(.mk (.join (zP [46,44,45,43]) [(.normal,[sI 4])]) [])])])])])])])])])])])])])])])]) (by simp[DY4]) (by simp) Tryz.func20 rfl (by kernel_rfl) (by funext x;kernel_rfl)
noncomputable def AC1 [LP](a:(Int×(Int×Int))):Option ((List Int)×Int):=
 (Bc5 a.1).bind fun b=>
 (bif (b==(0:Int)) then
  some ([],(30:Int))
 else
  Option.bind (
   (bif (b==(4:Int)) then
    some ((-2147483648:Int),(2147483647:Int))
   else
    some ((0:Int),(65535:Int)))) fun c=>
  let d:=c.1
  let e:=c.2
  let f:=decide (a.2.1<(0:Int))
  let g:=decide ((255:Int)<a.2.1)
  let h:=(bif f then true else g)
  let i:=decide (a.2.2<d)
  let j:=(bif h then true else i)
  let k:=decide (e<a.2.2)
  let l:=(bif j then true else k)
  (bif l then
   some ([],(10:Int))
  else
   let m:=decide (a.2.2<(0:Int))
   Option.bind (
    (bif m then
     let n:=IntKind.wrap .i64 (a.2.2+4294967296)
     some n
    else
     some a.2.2)) fun o=>
   let p:=(IntKind.wrap .u8 a.2.1)
   Option.bind (
    (bif (b==(4:Int)) then
     let q:=IntKind.wrap .i64 (o.tdiv (16777216:Int))
     let r:=(IntKind.wrap .u8 q)
     let s:=IntKind.wrap .i64 (o.tdiv (65536:Int))
     let t:=(s.tmod (256:Int))
     let u:=(IntKind.wrap .u8 t)
     chk none (decide ((([(IntKind.wrap .u8 a.1),p,(IntKind.wrap .u8 b)]:List Int).length+([r,u]:List Int).length)*1≤140737488355328))<|
     let v:(List Int):=(([(IntKind.wrap .u8 a.1),p,(IntKind.wrap .u8 b)]:List Int)++([r,u]:List Int))
     some v
    else
     some ([(IntKind.wrap .u8 a.1),p,(IntKind.wrap .u8 b)]:List Int))) fun w=>
   let y:=IntKind.wrap .i64 (o.tdiv (256:Int))
   let z:=(y.tmod (256:Int))
   let a0:=(IntKind.wrap .u8 z)
   let a1:=IntKind.wrap .u8 (o.tmod (256:Int))
   chk none (decide ((w.length+([a0,a1]:List Int).length)*1≤140737488355328))<|
   let a2:(List Int):=(w++([a0,a1]:List Int))
   (AF7 a2).bind fun a3=>
   let a4:=IntKind.wrap .i64 (a3.tdiv (256:Int))
   let a5:=(IntKind.wrap .u8 a4)
   let a6:=(a3.tmod (256:Int))
   let a7:=(IntKind.wrap .u8 a6)
   chk none (decide ((a2.length+([a5,a7]:List Int).length)*1≤140737488355328))<|
   let a8:(List Int):=(a2++([a5,a7]:List Int))
   some (a8,(0:Int))))
noncomputable def Bc9:Con:={f:=11,ps:=[.dat (.agg (.pair (.int .i64) (.pair (.int .i64) (.int .i64))))],boxes:=[],ins:=(.agg (.pair (.int .i64) (.pair (.int .i64) (.int .i64)))),nin:=1,outs:=(.pair (.slice (.int .u8)) (.int .i64)),rs:=[.dat (.slice (.int .u8)),dI],A2:=2,F:=fun x=>AC1 x}
theorem DY5:A3 Tryz.prog Bc9:=
 cgo (l:=[Bc6,BF5]) (o:=[]) (.mk .plain [H0,(.mk .plain [H0,(.mk .plain [H0,(.mk .plain [H0,(.mk .plain [H0,(.mk .plain [(.mk .plain [H0,(.mk (.join [] [(.normal,[sI 5,sI 6])]) [])]),(.mk .plain [H0,(.mk .plain [H0,(.mk .plain [(.mk .plain [H0,(.mk (.join [(0,41),(0,42)] [(.normal,[sI 7])]) [])]),(.mk .plain [H0,(.mk .plain [(.mk .plain [H0,(.mk (.join (zP [55,61,58,54,51,57,60,63,59,56,62]) [(.normal,[⟨.slot 8,(.slice (.int .u8)),some 900000005⟩])]) [])])])])])])])])])])])])]) (by simp[DY3,Bc8]) (by simp) Tryz.func11 rfl (by kernel_rfl) (by funext x;kernel_rfl)
noncomputable def Ac6 [LP](a:(List AL4)):Option (List ((List (List Int))×Bool)):=
 Option.bind (
  LP.lp (X:=(List ((List (List Int))×Bool))) (fun (b:(Int×(List ((List (List Int))×Bool))))=>
   let c:=b.1
   let d:(List ((List (List Int))×Bool)):=b.2
   let e:=decide (c<a.length)
   (bif e then
    chk none (decide (0≤c)&&decide (c<a.length))<|
    let f:AL4:=(a.getD c.toNat (((0:Int),(0:Int)),((0:Int),((0:Int),((0:Int),((false,(false,(false,(false,false)))),false))))))
    let pA:=f.2.2.2.2
    let g:=(IntKind.wrap .i64 f.1.1)
    let h:=(IntKind.wrap .i64 f.1.2)
    let i:=(IntKind.wrap .i64 f.2.1)
    let j:=(IntKind.wrap .i64 f.2.2.1)
    let k:=(IntKind.wrap .i64 f.2.2.2.1)
    let l:Yd3:=(g,(h,(i,(j,k))))
    let m:(Int×(Int×Int)):=((1:Int),((c.tmod (256:Int)),l.1))
    (AC1 m).bind fun n=>
    let o:=(bif pA.1.1 then (n.2==(0:Int)) else false)
    Option.bind (
     (bif o then
      let p:(List (List Int)):=([n.1]:List (List Int))
      chk none (decide ((([]:List (List Int)).length+p.length)*24≤140737488355328))<|
      let q:(List (List Int)):=p
      some q
     else
      some ([]))) fun r=>
    let s:(Int×(Int×Int)):=((2:Int),((c.tmod (256:Int)),l.2.1))
    (AC1 s).bind fun t=>
    let u:=(bif pA.1.2.1 then (t.2==(0:Int)) else false)
    Option.bind (
     (bif u then
      let v:(List (List Int)):=([t.1]:List (List Int))
      chk none (decide ((r.length+v.length)*24≤140737488355328))<|
      let w:(List (List Int)):=(r++v)
      some w
     else
      some r)) fun y=>
    let z:(Int×(Int×Int)):=((3:Int),((c.tmod (256:Int)),l.2.2.1))
    (AC1 z).bind fun a0=>
    let a1:=(bif pA.1.2.2.1 then (a0.2==(0:Int)) else false)
    Option.bind (
     (bif a1 then
      let a2:(List (List Int)):=([a0.1]:List (List Int))
      chk none (decide ((y.length+a2.length)*24≤140737488355328))<|
      let a3:(List (List Int)):=(y++a2)
      some a3
     else
      some y)) fun a4=>
    let a5:(Int×(Int×Int)):=((4:Int),((c.tmod (256:Int)),l.2.2.2.1))
    (AC1 a5).bind fun a6=>
    let a7:=(bif pA.1.2.2.2.1 then (a6.2==(0:Int)) else false)
    Option.bind (
     (bif a7 then
      let a8:(List (List Int)):=([a6.1]:List (List Int))
      chk none (decide ((a4.length+a8.length)*24≤140737488355328))<|
      let a9:(List (List Int)):=(a4++a8)
      some a9
     else
      some a4)) fun b0=>
    let b1:(Int×(Int×Int)):=((5:Int),((c.tmod (256:Int)),l.2.2.2.2))
    (AC1 b1).bind fun b2=>
    let b3:=(bif pA.1.2.2.2.2 then (b2.2==(0:Int)) else false)
    Option.bind (
     (bif b3 then
      let b4:(List (List Int)):=([b2.1]:List (List Int))
      chk none (decide ((b0.length+b4.length)*24≤140737488355328))<|
      let b5:(List (List Int)):=(b0++b4)
      some b5
     else
      some b0)) fun b6=>
    let b7:(List ((List (List Int))×Bool)):=([(b6,pA.2)]:List ((List (List Int))×Bool))
    chk none (decide ((d.length+b7.length)*32≤140737488355328))<|
    let b8:(List ((List (List Int))×Bool)):=(d++b7)
    let b9:=IntKind.wrap .i64 (c+1)
    some (.inl (b9,b8))
   else
    some (.inr d))) ((0:Int),[])) fun c0=>
 some c0
noncomputable def Bd0:Con:={f:=14,ps:=[.dat (.slice (.agg Ao5))],boxes:=[],ins:=(.slice (.agg Ao5)),nin:=1,outs:=(.slice (.agg (.pair (.slice (.slice (.int .u8))) .bool))),rs:=[.dat (.slice (.agg (.pair (.slice (.slice (.int .u8))) .bool)))],A2:=1,F:=fun x=>Ac6 x}
theorem DY6:A3 Tryz.prog Bd0:=
 cgo (l:=[Bc9]) (o:=[]) (.mk .plain [H0,(.mk .plain [H0,(.mk .plain [(.mk .plain [H0,(.mk .plain [(.mk (.loop [sI 13,⟨.slot 3,(.slice (.agg (.pair (.slice (.slice (.int .u8))) .bool))),some 7100033⟩] (zP [36,45,54,51,60,5,69,14,23,20,29,38,47,44,53,62,7,4,16,71,22,31,40,37,46,55,64,9,6,70,15,24,33,30,42,39,48,57,66,63,8,72,17,26,35,32,41,50,59,56,68,65,10,19,28,25,34,43,52,49,61,58,67,21,18,27]) [(.exit 0,[⟨.slot 3,(.slice (.agg (.pair (.slice (.slice (.int .u8))) .bool))),some 7100033⟩])]) [(.mk .plain [H0,(.mk .plain [H0,(.mk .plain [(.mk .plain [(.mk .plain [H0,(.mk .plain [H0,(.mk .plain [(.mk .plain [H0,(.mk .plain [(.mk (.AT0 6) [(.mk .plain [H0,(.mk .plain [H0,(.mk .plain [(.mk .plain [(.mk .plain [H0,(.mk .plain [H0,(.mk .plain [H0,(.mk (.join (zP [65,66,61,63,64,62]) [(.normal,[⟨.cell 1 0,(.slice (.slice (.int .u8))),some 6500034⟩])]) [])])])])])])])])])])])])])])])])])])])])])])])]) (by simp[DY5]) (by simp) Tryz.func14 rfl (by kernel_rfl) (by funext x;kernel_rfl)
noncomputable def Ap4 [LP](a b:Int):Option Int:=
 let c:=IntKind.wrap .i64 (a+b)
 let d:=IntKind.wrap .i64 (c-1)
 chk none (!(b==(0:Int)))<|
 let e:=IntKind.wrap .i64 (d.tdiv b)
 some e
noncomputable def Bd1:Con:={f:=51,ps:=[dI,dI],boxes:=[],ins:=(.pair (.int .i64) (.int .i64)),nin:=2,outs:=(.int .i64),rs:=[dI],A2:=1,F:=fun x=>Ap4 x.1 x.2}
theorem DY7:A3 Tryz.prog Bd1:=
 cgo (l:=[]) (o:=[]) H0 (by simp) (by simp) Tryz.func51 rfl (by kernel_rfl) (by funext x;kernel_rfl)
noncomputable def Ap5 [LP](a:C8):Option Int:=
 let pA:=a.2.2.2.2
 let pB:=pA.2.2.2.2
 let pC:=pB.2.2.2.2
 let b:=decide (a.1<(1:Int))
 let c:=decide ((1024:Int)<a.1)
 let d:=(bif b then true else c)
 (bif d then
  some (1:Int)
 else
  let e:=decide (a.2.1<(131072:Int))
  let f:=decide ((8388608:Int)<a.2.1)
  let g:=(bif e then true else f)
  let h:=decide (a.2.2.1<a.2.1)
  let i:=(bif g then true else h)
  let j:=decide ((8388608:Int)<a.2.2.1)
  let k:=(bif i then true else j)
  (bif k then
   some (2:Int)
  else
   let l:=IntKind.wrap .i64 (a.2.2.1-a.2.1)
   let m:=IntKind.wrap .i64 (l*16)
   let n:=decide (a.2.1<m)
   (bif n then
    some (3:Int)
   else
    let o:=decide (a.2.2.2.1<(0:Int))
    let p:=decide ((1048576:Int)<a.2.2.2.1)
    let q:=(bif o then true else p)
    let r:=decide (pA.1<(0:Int))
    let s:=(bif q then true else r)
    let t:=decide ((65536:Int)<pA.1)
    let u:=(bif s then true else t)
    (bif u then
     some (4:Int)
    else
     let v:=decide (pA.2.1<(0:Int))
     let w:=decide ((1048576:Int)<pA.2.1)
     let y:=(bif v then true else w)
     (bif y then
      some (5:Int)
     else
      let z:=decide (pA.2.2.1<(1:Int))
      let a0:=decide ((16777216:Int)<pA.2.2.1)
      let a1:=(bif z then true else a0)
      let a2:=decide (pA.2.2.2.1<(1:Int))
      let a3:=(bif a1 then true else a2)
      let a4:=decide ((1048576:Int)<pA.2.2.2.1)
      let a5:=(bif a3 then true else a4)
      (bif a5 then
       some (6:Int)
      else
       let a6:=IntKind.wrap .i64 (pA.2.2.1*a.1)
       let a7:=IntKind.wrap .i64 ((32000:Int)*a.2.1)
       let a8:=decide (a7<a6)
       (bif a8 then
        some (7:Int)
       else
        let a9:=decide (pB.1<(0:Int))
        let b0:=decide ((1048576:Int)<pB.1)
        let b1:=(bif a9 then true else b0)
        (bif b1 then
         some (8:Int)
        else
         let b2:=decide (pB.2.1<(1:Int))
         let b3:=decide ((1000:Int)<pB.2.1)
         let b4:=(bif b2 then true else b3)
         let b5:=pC.1
         let b6:=decide (b5<(1:Int))
         let b7:=(bif b4 then true else b6)
         let b8:=pC.1
         let b9:=decide ((1000:Int)<b8)
         let c0:=(bif b7 then true else b9)
         (bif c0 then
          some (9:Int)
         else
          let c1:=pB.2.2.1
          (Ap4 a.2.2.1 a.1).bind fun c2=>
          let c3:=decide (c1<c2)
          let c4:=pB.2.2.1
          let c5:=IntKind.wrap .i64 ((3:Int)*a.2.2.2.1)
          let c6:=decide (c4<c5)
          let c7:=(bif c3 then true else c6)
          let c8:=pB.2.2.1
          let c9:=decide ((16777216:Int)<c8)
          let d0:=(bif c7 then true else c9)
          (bif d0 then
           some (10:Int)
          else
           let d1:=pB.2.2.2.1
           let d2:=decide (d1<(0:Int))
           let d3:=pB.2.2.2.1
           let d4:=decide ((1073741824:Int)<d3)
           let d5:=(bif d2 then true else d4)
           (bif d5 then
            some (11:Int)
           else
            let d6:=pC.2
            let d7:=decide (d6<(1:Int))
            let d8:=pC.2
            let d9:=decide ((1048576:Int)<d8)
            let e0:=(bif d7 then true else d9)
            (bif e0 then
             some (12:Int)
            else
             some (0:Int)))))))))))))
noncomputable def Bd2:Con:={f:=30,ps:=[.dat (.agg C9)],boxes:=[],ins:=(.agg C9),nin:=1,outs:=(.int .i64),rs:=[dI],A2:=1,F:=fun x=>Ap5 x}
theorem DY8:A3 Tryz.prog Bd2:=
 cgo (l:=[Bd1]) (o:=[]) H0 (by simp[DY7]) (by simp) Tryz.func30 rfl (by kernel_rfl) (by funext x;kernel_rfl)
noncomputable def AL7 [LP](a:(List (Int×Int)))(b:Int):Option Bool:=
 let c:=(decide ((a.length:Int)<(1:Int)))
 let d:=(decide ((64:Int)<(a.length:Int)))
 let e:=(bif c then true else d)
 chk none ((true&&(decide ((0:Int)<(a.length:Int))))|| !(!e))<|
 let f:(Int×Int):=(a.getD (0:Int).toNat ((0:Int),(0:Int)))
 let g:=(bif e then true else (f.1 != (0:Int)))
 (bif g then
  some false
 else
  Option.bind (α:=Bool ⊕ Unit) (
   LP.lp (X:=Bool ⊕ Unit) (fun (h:Int)=>
    let i:=decide (h<a.length)
    (bif i then
     chk none (decide (0≤h)&&decide (h<a.length))<|
     let j:(Int×Int):=(a.getD h.toNat ((0:Int),(0:Int)))
     let k:=decide (j.2<(-1048576:Int))
     chk none ((decide (0≤h)&&decide (h<a.length))|| !(!k))<|
     let l:(Int×Int):=(a.getD h.toNat ((0:Int),(0:Int)))
     let m:=decide ((1048576:Int)<l.2)
     let n:=(bif k then true else m)
     chk none ((decide (0≤h)&&decide (h<a.length))|| !(!n))<|
     let o:(Int×Int):=(a.getD h.toNat ((0:Int),(0:Int)))
     let p:=decide (b≤o.1)
     let q:=(bif n then true else p)
     (bif q then
      some (.inr (.inl false))
     else
      let r:=decide ((0:Int)<h)
      chk none ((decide (0≤h)&&decide (h<a.length))|| !r)<|
      let s:(Int×Int):=(a.getD h.toNat ((0:Int),(0:Int)))
      let t:=IntKind.wrap .i64 (h-1)
      chk none ((decide (0≤t)&&decide (t<a.length))|| !r)<|
      let u:(Int×Int):=(a.getD t.toNat ((0:Int),(0:Int)))
      let v:=decide (s.1≤u.1)
      let w:=(bif r then v else false)
      (bif w then
       some (.inr (.inl false))
      else
       let y:=IntKind.wrap .i64 (h+1)
       some (.inl y)))
    else
     some (.inr (.inr ())))) (0:Int)) fun z=>match z with
  | .inl z=>
   some z
  | .inr _=>
   some true)
noncomputable def Bd3:Con:={f:=88,ps:=[.dat (.slice (.agg (.pair (.int .i64) (.int .i64)))),dI],boxes:=[],ins:=(.pair (.slice (.agg (.pair (.int .i64) (.int .i64)))) (.int .i64)),nin:=2,outs:=.bool,rs:=[.dat .bool],A2:=1,F:=fun x=>AL7 x.1 x.2}
theorem DY9:A3 Tryz.prog Bd3:=
 cgo (l:=[]) (o:=[]) (.mk .plain [H0,(.mk .plain [H0,(.mk .plain [(.mk .plain [H0,(.mk .plain [(.mk (.loop [sI 5] (zP [30,36,42,4,39,45,48,22,28,31,34,40,37,43,46,23,49,29,35,32,38,41,47,44,21,24,27,33,54,51,57,60,63,26,50,53,59,56,62,65,25,52,55,61,58,64]) [(.ret,[sB 4]),(.exit 0,[])]) [])])])])])]) (by simp) (by simp) Tryz.func88 rfl (by kernel_rfl) (by funext x;kernel_rfl)
noncomputable def AL8 [LP](a:Yd1)(b:Int):Option Bool:=
 let c:=decide (a.1<(1:Int))
 let d:=decide ((1099511627776:Int)<a.1)
 let e:=(bif c then true else d)
 (bif !e then AL7 a.2.1 a.1 else some false).bind fun f=>
 let g:=(bif e then true else (!f))
 let h:=(decide ((2:Int)<(a.2.2.length:Int)))
 let i:=(bif g then true else h)
 (bif i then
  some false
 else
  Option.bind (α:=Bool ⊕ Unit) (
   LP.lp (X:=Bool ⊕ Unit) (fun (j:Int)=>
    let k:=decide (j<a.2.2.length)
    (bif k then
     chk none (decide (0≤j)&&decide (j<a.2.2.length))<|
     let l:=(a.2.2.getD j.toNat 0)
     let m:=decide (l<(0:Int))
     chk none ((decide (0≤j)&&decide (j<a.2.2.length))|| !(!m))<|
     let n:=(a.2.2.getD j.toNat 0)
     let o:=decide (b≤n)
     let p:=(bif m then true else o)
     (bif p then
      some (.inr (.inl false))
     else
      let q:=IntKind.wrap .i64 (j+1)
      some (.inl q))
    else
     some (.inr (.inr ())))) (0:Int)) fun z=>match z with
  | .inl r=>
   some r
  | .inr _=>
   let s:=(decide ((a.2.2.length:Int)<(2:Int)))
   chk none ((true&&(decide ((0:Int)<(a.2.2.length:Int))))|| !(!s))<|
   let t:=(a.2.2.getD (0:Int).toNat 0)
   chk none ((true&&(decide ((1:Int)<(a.2.2.length:Int))))|| !(!s))<|
   let u:=(a.2.2.getD (1:Int).toNat 0)
   let v:=decide (t<u)
   let w:=(bif s then true else v)
   some w)
noncomputable def Bd4:Con:={f:=52,ps:=[.dat (.agg Yt1),dI],boxes:=[],ins:=CW6,nin:=2,outs:=.bool,rs:=[.dat .bool],A2:=1,F:=fun x=>AL8 x.1 x.2}
theorem DZ0:A3 Tryz.prog Bd4:=
 cgo (l:=[Bd3]) (o:=[]) (.mk .plain [H0,(.mk .plain [H0,(.mk .plain [(.mk .plain [H0,(.mk .plain [(.mk (.loop [sI 5] (zP [30,36,42,4,39,45,48,28,31,40,37,43,46,49,29,35,32,38,41,47,44,34,33]) [(.ret,[sB 4]),(.exit 0,[])]) [])])])])])]) (by simp[DY9]) (by simp) Tryz.func52 rfl (by kernel_rfl) (by funext x;kernel_rfl)
noncomputable def AL9 [LP](a:F0):Option (Int×Int):=
 let b:=(decide ((a.1.length:Int)<(1:Int)))
 let c:=(decide ((200:Int)<(a.1.length:Int)))
 let d:=(bif b then true else c)
 let e:=(decide ((400:Int)<(a.2.length:Int)))
 let f:=(bif d then true else e)
 (bif f then
  some ((13:Int),(0:Int))
 else
  Option.bind (α:=(Int×Int) ⊕ Unit) (
   LP.lp (X:=(Int×Int) ⊕ Unit) (fun (g:Int)=>
    let h:=decide (g<a.1.length)
    (bif h then
     chk none (decide (0≤g)&&decide (g<a.1.length))<|
     let i:Yd1:=(a.1.getD g.toNat ((0:Int),([],[])))
     (AL8 i (a.1.length:Int)).bind fun j=>
     (bif (!j) then
      some (.inr (.inl (g,(11:Int))))
     else
      let k:=IntKind.wrap .i64 (g+1)
      some (.inl k))
    else
     some (.inr (.inr ())))) (0:Int)) fun z=>match z with
  | .inl l=>
   let m:=l.1
   let n:=l.2
   some (n,m)
  | .inr _=>
   Option.bind (α:=(Int×Int) ⊕ Unit) (
    LP.lp (X:=(Int×Int) ⊕ Unit) (fun (o:(Int×Int))=>
     let p:=o.1
     let q:=o.2
     let r:=decide (q<a.2.length)
     (bif r then
      chk none (decide (0≤q)&&decide (q<a.2.length))<|
      let s:Yd3:=(a.2.getD q.toNat ((0:Int),((0:Int),((0:Int),((0:Int),(0:Int))))))
      let t:=decide (s.1≤p)
      let u:=decide ((65535:Int)<s.1)
      let v:=(bif t then true else u)
      let w:=decide (s.2.1<(0:Int))
      let y:=(bif v then true else w)
      let z:=decide ((a.1.length:Int)≤s.2.1)
      let a0:=(bif y then true else z)
      (bif a0 then
       some (.inr (.inl ((16:Int),q)))
      else
       let a1:=decide (s.2.2.1<(0:Int))
       chk none ((decide (0≤s.2.1)&&decide (s.2.1<a.1.length))|| !(!a1))<|
       let a2:Yd1:=(a.1.getD s.2.1.toNat ((0:Int),([],[])))
       let a3:=decide (a2.1<s.2.2.1)
       let a4:=(bif a1 then true else a3)
       let a5:=decide (s.2.2.2.1<(0:Int))
       let a6:=(bif a4 then true else a5)
       let a7:=decide ((1048576:Int)<s.2.2.2.1)
       let a8:=(bif a6 then true else a7)
       let a9:=decide (s.2.2.2.2<(0:Int))
       let b0:=(bif a8 then true else a9)
       let b1:=decide ((16777216:Int)<s.2.2.2.2)
       let b2:=(bif b0 then true else b1)
       (bif b2 then
        some (.inr (.inl ((16:Int),q)))
       else
        let b3:=IntKind.wrap .i64 (q+1)
        some (.inl (s.1,b3))))
     else
      some (.inr (.inr ())))) ((0:Int),(0:Int))) fun z=>match z with
   | .inl b4=>
    let b5:=b4.1
    let b6:=b4.2
    some (b5,b6)
   | .inr _=>
    some ((0:Int),(0:Int)))
noncomputable def Bd5:Con:={f:=31,ps:=[.dat (.agg E7)],boxes:=[],ins:=(.agg E7),nin:=1,outs:=(.pair (.int .i64) (.int .i64)),rs:=[dI,dI],A2:=2,F:=fun x=>AL9 x}
theorem DZ1:A3 Tryz.prog Bd5:=
 cgo (l:=[Bd4]) (o:=[]) (.mk .plain [H0,(.mk .plain [H0,(.mk .plain [(.mk .plain [H0,(.mk .plain [(.mk (.loop [sI 4] (zP [36,26,39,35,3,32,38,28,41,2,31,25,34,40,24,37,27,33,30,29]) [(.ret,[sI 3,sI 2]),(.exit 0,[])]) [])])]),(.mk .plain [H0,(.mk .plain [(.mk .plain [H0,(.mk .plain [(.mk (.loop [sI 5,sI 6] (zP [42,45,54,51,57,2,60,66,63,69,72,75,44,50,53,59,56,62,68,7,65,71,74,43,46,52,49,55,61,58,64,3,67,73,70,76,91,100,109,78,87,84,93,102,111,108,80,77,86,95,104,101,110,79,88,97,94,106,103,112,81,90,99,96,105,83,92,89,98,107,85,82,47,113,48,114]) [(.ret,[sI 2,sI 3]),(.exit 2,[])]) [])])])])])])])]) (by simp[DZ0]) (by simp) Tryz.func31 rfl (by kernel_rfl) (by funext x;kernel_rfl)
noncomputable def AF8 [LP](a:C8)(b:F0):Option (Int×Int):=
 (Ap5 a).bind fun c=>
 (bif (c != (0:Int)) then
  some ((50:Int),(0:Int))
 else
  (AL9 b).bind fun d=>
  (bif (d.1 != (0:Int)) then
   some ((51:Int),(0:Int))
  else
   Option.bind (α:=(Int×Int) ⊕ Unit) (
    LP.lp (X:=(Int×Int) ⊕ Unit) (fun (e:Int)=>
     let f:=decide (e<b.2.length)
     (bif f then
      chk none (decide (0≤e)&&decide (e<b.2.length))<|
      let g:Yd3:=(b.2.getD e.toNat ((0:Int),((0:Int),((0:Int),((0:Int),(0:Int))))))
      let h:=IntKind.wrap .i64 (g.2.2.2.1+a.2.2.2.2.2.2.2.2.1)
      let i:=IntKind.wrap .i64 (h+a.2.2.2.2.2.2.1)
      let j:=decide (g.2.2.1<i)
      chk none ((decide (0≤g.2.1)&&decide (g.2.1<b.1.length))|| !(!j))<|
      let k:Yd1:=(b.1.getD g.2.1.toNat ((0:Int),([],[])))
      let l:=IntKind.wrap .i64 (k.1-g.2.2.1)
      let m:=decide (l<i)
      let n:=(bif j then true else m)
      (bif n then
       some (.inr (.inl (e,(11:Int))))
      else
       let o:=IntKind.wrap .i64 (e+1)
       some (.inl o))
     else
      some (.inr (.inr ())))) (0:Int)) fun z=>match z with
   | .inl p=>
    let q:=p.1
    let r:=p.2
    some (r,q)
   | .inr _=>
    some ((0:Int),(0:Int))))
noncomputable def BF6:Con:={f:=22,ps:=[.dat (.agg C9),.dat (.agg E7)],boxes:=[],ins:=Ba4,nin:=2,outs:=(.pair (.int .i64) (.int .i64)),rs:=[dI,dI],A2:=2,F:=fun x=>AF8 x.1 x.2}
theorem DZ2:A3 Tryz.prog BF6:=
 cgo (l:=[Bd2,Bd5]) (o:=[]) (.mk .plain [H0,(.mk .plain [H0,(.mk .plain [H0,(.mk .plain [H0,(.mk .plain [(.mk .plain [H0,(.mk .plain [(.mk (.loop [sI 8] (zP [30,36,42,39,45,48,54,51,57,5,23,29,35,32,38,41,47,44,50,53,59,56,4,10,22,28,25,31,34,40,37,43,46,52,49,55,58,9,21,24,33,26,27]) [(.ret,[sI 5,sI 4]),(.exit 0,[])]) [])])])])])])])]) (by simp[DY8,DZ1]) (by simp) Tryz.func22 rfl (by kernel_rfl) (by funext x;kernel_rfl)
noncomputable def S1 [LP](a b:Int):Option (List Int):=
 chk none ((decide ((0:Int)≤b))&&(decide (b≤b))&&(decide (b*1≤(140737488355328:Int)))&&(decide (b≤(140737488355328:Int))))<|
 let c:=decide (a<(0:Int))
 (bif c then
  let d:=IntKind.wrap .i64 ((-1:Int)-a)
  let e:=IntKind.wrap .i64 (b-1)
  Option.bind (
   LP.lp (X:=(List Int)) (fun (f:(Int×((List Int)×Int)))=>
    let g:=f.1
    let h:(List Int):=f.2.1
    let i:=f.2.2
    let j:=decide ((0:Int)≤g)
    (bif j then
     let k:=(IntKind.wrap .i64 ((255:Int)-(i.tmod (256:Int))))
     let l:=(IntKind.wrap .u8 k)
     chk none (decide (0≤g)&&decide (g<h.length))<|
     let m:(List Int):=(h.set g.toNat l)
     let n:=IntKind.wrap .i64 (i.tdiv (256:Int))
     let o:=IntKind.wrap .i64 (g-1)
     some (.inl (o,m,n))
    else
     some (.inr h))) (e,(List.replicate b.toNat 0),d)) fun p=>
  some p
 else
  let q:=IntKind.wrap .i64 (b-1)
  Option.bind (
   LP.lp (X:=(List Int)) (fun (r:((List Int)×(Int×Int)))=>
    let s:(List Int):=r.1
    let t:=r.2.1
    let u:=r.2.2
    let v:=decide ((0:Int)≤t)
    (bif v then
     let w:=IntKind.wrap .u8 (u.tmod (256:Int))
     chk none (decide (0≤t)&&decide (t<s.length))<|
     let y:(List Int):=(s.set t.toNat w)
     let z:=IntKind.wrap .i64 (u.tdiv (256:Int))
     let a0:=IntKind.wrap .i64 (t-1)
     some (.inl (y,a0,z))
    else
     some (.inr s))) ((List.replicate b.toNat 0),q,a)) fun a1=>
  some a1)
noncomputable def Bd6:Con:={f:=38,ps:=[dI,dI],boxes:=[],ins:=(.pair (.int .i64) (.int .i64)),nin:=2,outs:=(.slice (.int .u8)),rs:=[.dat (.slice (.int .u8))],A2:=1,F:=fun x=>S1 x.1 x.2}
theorem DZ3:A3 Tryz.prog Bd6:=
 cgo (l:=[]) (o:=[]) (.mk .plain [H0,(.mk .plain [H0,(.mk .plain [(.mk .plain [H0,(.mk .plain [(.mk .plain [H0,(.mk .plain [(.mk .plain [H0,(.mk .plain [(.mk (.loop [sI 7,⟨.slot 5,(.slice (.int .u8)),some 1075005⟩,sI 6] (zP [10,19,22,28,25,17,23,20,26,29,21,18,24,27]) [(.exit 0,[⟨.slot 5,(.slice (.int .u8)),some 1075005⟩])]) [])])])])])])]),(.mk .plain [(.mk .plain [H0,(.mk .plain [(.mk (.loop [⟨.slot 5,(.slice (.int .u8)),some 1075005⟩,sI 8,sI 0] (zP [36,42,10,39,34,40,37,43,35,38,41,44,33]) [(.exit 2,[⟨.slot 5,(.slice (.int .u8)),some 1075005⟩])]) [])])])])])])]) (by simp) (by simp) Tryz.func38 rfl (by kernel_rfl) (by funext x;kernel_rfl)
noncomputable def AF9 [LP](a:F0):Option (List Int):=
 (S1 (a.1.length:Int) (2:Int)).bind fun b=>
 chk none (decide ((([(79:Int),(68:Int),(79:Int),(49:Int)]:List Int).length+b.length)*1≤140737488355328))<|
 let c:(List Int):=(([(79:Int),(68:Int),(79:Int),(49:Int)]:List Int)++b)
 Option.bind (
  LP.lp (X:=(List Int)) (fun (d:(Int×(List Int)))=>
   let e:=d.1
   let f:(List Int):=d.2
   let g:=decide (e<a.1.length)
   (bif g then
    chk none (decide (0≤e)&&decide (e<a.1.length))<|
    let h:Yd1:=(a.1.getD e.toNat ((0:Int),([],[])))
    (S1 h.1 (8:Int)).bind fun i=>
    chk none (decide ((f.length+i.length)*1≤140737488355328))<|
    let j:(List Int):=(f++i)
    let k:=IntKind.wrap .u8 (h.2.1.length:Int)
    chk none (decide ((j.length+([k]:List Int).length)*1≤140737488355328))<|
    let l:(List Int):=(j++([k]:List Int))
    Option.bind (
     LP.lp (X:=(List Int)) (fun (m:((List Int)×Int))=>
      let n:(List Int):=m.1
      let o:=m.2
      let p:=decide (o<h.2.1.length)
      (bif p then
       chk none (decide (0≤o)&&decide (o<h.2.1.length))<|
       let q:(Int×Int):=(h.2.1.getD o.toNat ((0:Int),(0:Int)))
       (S1 q.1 (8:Int)).bind fun r=>
       chk none (decide ((n.length+r.length)*1≤140737488355328))<|
       let s:(List Int):=(n++r)
       chk none (decide (0≤o)&&decide (o<h.2.1.length))<|
       let t:(Int×Int):=(h.2.1.getD o.toNat ((0:Int),(0:Int)))
       (S1 t.2 (4:Int)).bind fun u=>
       chk none (decide ((s.length+u.length)*1≤140737488355328))<|
       let v:(List Int):=(s++u)
       let w:=IntKind.wrap .i64 (o+1)
       some (.inl (v,w))
      else
       some (.inr n))) (l,(0:Int))) fun y=>
    let z:=IntKind.wrap .u8 (h.2.2.length:Int)
    chk none (decide ((y.length+([z]:List Int).length)*1≤140737488355328))<|
    let a0:(List Int):=(y++([z]:List Int))
    Option.bind (
     LP.lp (X:=(List Int)) (fun (a1:(Int×(List Int)))=>
      let a2:=a1.1
      let a3:(List Int):=a1.2
      let a4:=decide (a2<h.2.2.length)
      (bif a4 then
       chk none (decide (0≤a2)&&decide (a2<h.2.2.length))<|
       let a5:=(h.2.2.getD a2.toNat 0)
       let a6:=(IntKind.wrap .u8 a5)
       chk none (decide ((a3.length+([a6]:List Int).length)*1≤140737488355328))<|
       let a7:(List Int):=(a3++([a6]:List Int))
       let a8:=IntKind.wrap .i64 (a2+1)
       some (.inl (a8,a7))
      else
       some (.inr a3))) ((0:Int),a0)) fun a9=>
    let b0:=IntKind.wrap .i64 (e+1)
    some (.inl (b0,a9))
   else
    some (.inr f))) ((0:Int),c)) fun b1=>
 (S1 (a.2.length:Int) (2:Int)).bind fun b2=>
 chk none (decide ((b1.length+b2.length)*1≤140737488355328))<|
 let b3:(List Int):=(b1++b2)
 Option.bind (
  LP.lp (X:=(List Int)) (fun (b4:(Int×(List Int)))=>
   let b5:=b4.1
   let b6:(List Int):=b4.2
   let b7:=decide (b5<a.2.length)
   (bif b7 then
    chk none (decide (0≤b5)&&decide (b5<a.2.length))<|
    let b8:Yd3:=(a.2.getD b5.toNat ((0:Int),((0:Int),((0:Int),((0:Int),(0:Int))))))
    (S1 b8.1 (2:Int)).bind fun b9=>
    chk none (decide ((b6.length+b9.length)*1≤140737488355328))<|
    let c0:(List Int):=(b6++b9)
    let c1:=(IntKind.wrap .u8 b8.2.1)
    chk none (decide ((c0.length+([c1]:List Int).length)*1≤140737488355328))<|
    let c2:(List Int):=(c0++([c1]:List Int))
    (S1 b8.2.2.1 (8:Int)).bind fun c3=>
    chk none (decide ((c2.length+c3.length)*1≤140737488355328))<|
    let c4:(List Int):=(c2++c3)
    (S1 b8.2.2.2.1 (4:Int)).bind fun c5=>
    chk none (decide ((c4.length+c5.length)*1≤140737488355328))<|
    let c6:(List Int):=(c4++c5)
    (S1 b8.2.2.2.2 (4:Int)).bind fun c7=>
    chk none (decide ((c6.length+c7.length)*1≤140737488355328))<|
    let c8:(List Int):=(c6++c7)
    let c9:=IntKind.wrap .i64 (b5+1)
    some (.inl (c9,c8))
   else
    some (.inr b6))) ((0:Int),b3)) fun d0=>
 (AF7 d0).bind fun d1=>
 let d2:=IntKind.wrap .i64 (d1.tdiv (256:Int))
 let d3:=(IntKind.wrap .u8 d2)
 let d4:=(d1.tmod (256:Int))
 let d5:=(IntKind.wrap .u8 d4)
 chk none (decide ((d0.length+([d3,d5]:List Int).length)*1≤140737488355328))<|
 let d6:(List Int):=(d0++([d3,d5]:List Int))
 some d6
noncomputable def BF7:Con:={f:=24,ps:=[.dat (.agg E7)],boxes:=[],ins:=(.agg E7),nin:=1,outs:=(.slice (.int .u8)),rs:=[.dat (.slice (.int .u8))],A2:=1,F:=fun x=>AF9 x}
theorem DZ4:A3 Tryz.prog BF7:=
 cgo (l:=[Bd6,BF5]) (o:=[]) (.mk .plain [H0,(.mk .plain [H0,(.mk .plain [H0,(.mk .plain [(.mk .plain [H0,(.mk .plain [(.mk (.loop [sI 4,⟨.slot 3,(.slice (.int .u8)),some 900000005⟩] (zP [36,45,54,51,60,5,69,78,23,75,87,20,84,29,38,18,47,44,53,62,7,71,80,77,22,86,31,40,37,46,55,64,73,6,70,79,24,88,33,30,42,39,48,57,66,63,72,17,81,26,35,32,41,50,59,56,68,65,74,19,83,28,25,89,34,43,52,49,61,58,67,76,21,85,82,27]) [(.exit 0,[⟨.slot 3,(.slice (.int .u8)),some 900000005⟩])]) [(.mk .plain [H0,(.mk .plain [(.mk .plain [(.mk .plain [H0,(.mk .plain [H0,(.mk .plain [H0,(.mk .plain [(.mk .plain [H0,(.mk .plain [(.mk (.loop [⟨.slot 3,(.slice (.int .u8)),some 900000005⟩,sI 6] (zP [65,42,45,48,54,51,57,60,66,63,43,46,52,49,55,61,58,64,41,47,44,50,53,59,56,62]) [(.exit 2,[⟨.slot 3,(.slice (.int .u8)),some 900000005⟩])]) [])])]),(.mk .plain [H0,(.mk .plain [H0,(.mk .plain [(.mk (.loop [sI 7,⟨.slot 3,(.slice (.int .u8)),some 900000005⟩] (zP [74,80,77,83,86,89,78,75,81,87,84,73,76,79,85,82,88]) [(.exit 4,[⟨.slot 3,(.slice (.int .u8)),some 900000005⟩])]) [])])])])])])])])])])])])])]),(.mk .plain [H0,(.mk .plain [(.mk .plain [H0,(.mk .plain [(.mk (.loop [sI 8,⟨.slot 3,(.slice (.int .u8)),some 900000005⟩] (zP [97,100,106,103,109,112,118,115,121,124,130,127,133,99,96,102,105,111,108,114,117,123,120,126,132,129,95,98,104,101,107,113,110,116,119,125,9,122,128,131]) [(.exit 6,[⟨.slot 3,(.slice (.int .u8)),some 900000005⟩])]) [])])])])])])])])]) (by simp[DZ3,Bc8]) (by simp) Tryz.func24 rfl (by kernel_rfl) (by funext x;kernel_rfl)
noncomputable def AM0 [LP](a b:Int):Option Int:=
 let c:=IntKind.wrap .u16 ((IntKind.wrap .u16 b)*2 ^ 8)
 let d:=(bits .u16 .xor a c)
 Option.bind (
  LP.lp (X:=Int) (fun (e:(Int×Int))=>
   let f:=e.1
   let g:=e.2
   let h:=decide (f<(8:Int))
   (bif h then
    let i:=(bits .u16 .and g (32768:Int))
    Option.bind (
     (bif (i != (0:Int)) then
      let j:=IntKind.wrap .u16 (g*2 ^ 1)
      let k:=(bits .u16 .xor j (4129:Int))
      some k
     else
      let l:=IntKind.wrap .u16 (g*2 ^ 1)
      some l)) fun m=>
    let n:=IntKind.wrap .i64 (f+1)
    some (.inl (n,m))
   else
    some (.inr g))) ((0:Int),d)) fun o=>
 some o
noncomputable def Bd7:Con:={f:=131,ps:=[.dat (.int .u16),.dat (.int .u8)],boxes:=[],ins:=(.pair (.int .u16) (.int .u8)),nin:=2,outs:=(.int .u16),rs:=[.dat (.int .u16)],A2:=1,F:=fun x=>AM0 x.1 x.2}
theorem DZ5:A3 Tryz.prog Bd7:=
 cgo (l:=[]) (o:=[]) (.mk .plain [H0,(.mk .plain [H0,(.mk .plain [(.mk .plain [H0,(.mk .plain [(.mk (.loop [sI 10,⟨.slot 0,(.int .u16),none⟩] (zP [20,16,13,19,12,15,18,14,11,17]) [(.exit 0,[⟨.slot 0,(.int .u16),none⟩])]) [(.mk .plain [H0,(.mk .plain [H0,(.mk .plain [(.mk .plain [(.mk .plain [H0,(.mk (.join (zP [15,16,17,18,19]) [(.normal,[⟨.slot 0,(.int .u16),none⟩])]) [])])])])])])])])])])])]) (by simp) (by simp) Tryz.func131 rfl (by kernel_rfl) (by funext x;kernel_rfl)
noncomputable def AM1 [LP](a:Int)(b:(List Int)):Option Int:=
 Option.bind (
  LP.lp (X:=Int) (fun (c:(Int×Int))=>
   let d:=c.1
   let e:=c.2
   let f:=decide (e<b.length)
   (bif f then
    chk none (decide (0≤e)&&decide (e<b.length))<|
    let g:=(b.getD e.toNat 0)
    (AM0 d g).bind fun h=>
    let i:=IntKind.wrap .i64 (e+1)
    some (.inl (h,i))
   else
    some (.inr d))) (a,(0:Int))) fun j=>
 some j
noncomputable def Bd8:Con:={f:=89,ps:=[.dat (.int .u16),.dat (.slice (.int .u8))],boxes:=[],ins:=(.pair (.int .u16) (.slice (.int .u8))),nin:=2,outs:=(.int .u16),rs:=[.dat (.int .u16)],A2:=1,F:=fun x=>AM1 x.1 x.2}
theorem DZ6:A3 Tryz.prog Bd8:=
 cgo (l:=[Bd7]) (o:=[]) (.mk .plain [H0,(.mk .plain [(.mk .plain [H0,(.mk .plain [(.mk (.loop [⟨.slot 0,(.int .u16),none⟩,sI 9] (zP [10,16,13,6,12,15,14,11]) [(.exit 0,[⟨.slot 0,(.int .u16),none⟩])]) [])])])])]) (by simp[DZ5]) (by simp) Tryz.func89 rfl (by kernel_rfl) (by funext x;kernel_rfl)
noncomputable def AG0 [LP](a:(List Int)):Option Int:=
 (AM1 (65535:Int) a).bind fun b=>
 some b
noncomputable def BF8:Con:={f:=53,ps:=[.dat (.slice (.int .u8))],boxes:=[],ins:=(.slice (.int .u8)),nin:=1,outs:=(.int .u16),rs:=[.dat (.int .u16)],A2:=1,F:=fun x=>AG0 x}
theorem Bd9:A3 Tryz.prog BF8:=
 cgo (l:=[Bd8]) (o:=[]) H0 (by simp[DZ6]) (by simp) Tryz.func53 rfl (by kernel_rfl) (by funext x;kernel_rfl)
noncomputable def L9 [LP](a:Int)(b:(List Int))(c:Bool):Option (Int×((List Int)×Bool)):=
 let d:=decide ((b.length:Int)<a)
 let e:=(bif c then true else d)
 (bif e then
  some ((0:Int),b,e)
 else
  chk none (true&&(decide ((0:Int)≤a))&&(decide (a≤(b.length:Int))))<|
  let f:(List Int):=((b.take a.toNat).drop (0:Int).toNat)
  Option.bind (
   LP.lp (X:=Int) (fun (g:(Int×Int))=>
    let h:=g.1
    let i:=g.2
    let j:=decide (h<f.length)
    (bif j then
     chk none (decide (0≤h)&&decide (h<f.length))<|
     let k:=(f.getD h.toNat 0)
     let l:=IntKind.wrap .u64 (i*2 ^ 8)
     let m:=(IntKind.wrap .u64 k)
     let n:=(bits .u64 .or l m)
     let o:=IntKind.wrap .i64 (h+1)
     some (.inl (o,n))
    else
     some (.inr i))) ((0:Int),(0:Int))) fun p=>
  chk none ((decide ((0:Int)≤a))&&(decide (a≤(b.length:Int)))&&(decide ((b.length:Int)≤(b.length:Int))))<|
  let q:(List Int):=((b.take (b.length:Int).toNat).drop a.toNat)
  some ((IntKind.wrap .i64 p),q,e))
noncomputable def AW2:Con:={f:=90,ps:=[.ref 0 0,dI],boxes:=[[.dat (.slice (.int .u8)),.dat .bool]],ins:=(.pair (.int .i64) (.pair (.slice (.int .u8)) .bool)),nin:=3,outs:=(.pair (.int .i64) (.pair (.slice (.int .u8)) .bool)),rs:=[dI],A2:=3,F:=fun x=>L9 x.1 x.2.1 x.2.2}
theorem Ac7:A3 Tryz.prog AW2:=
 cgo (l:=[]) (o:=[]) (.mk .plain [H0,(.mk .plain [H0,(.mk .plain [H0,(.mk .plain [(.mk .plain [H0,(.mk .plain [(.mk (.loop [sI 35,⟨.slot 5,(.int .u64),none⟩] (zP [7,36,42,39,38,41,44,40,37,43]) [(.exit 0,[⟨.slot 5,(.int .u64),none⟩])]) [])])])])])])]) (by simp) (by simp) Tryz.func90 rfl (by kernel_rfl) (by funext x;kernel_rfl)
noncomputable def X4 [LP](a b:Int)(c:(List Int))(d:Bool):Option (Int×((List Int)×Bool)):=
 (L9 a c d).bind fun e=>
 let f:=decide (b<e.1)
 (bif f then
  some ((0:Int),e.2.1,true)
 else
  some (e.1,e.2.1,e.2.2))
noncomputable def BF9:Con:={f:=55,ps:=[.ref 0 0,dI,dI],boxes:=[[.dat (.slice (.int .u8)),.dat .bool]],ins:=CW7,nin:=4,outs:=(.pair (.int .i64) (.pair (.slice (.int .u8)) .bool)),rs:=[dI],A2:=3,F:=fun x=>X4 x.1 x.2.1 x.2.2.1 x.2.2.2}
theorem Be0:A3 Tryz.prog BF9:=
 cgo (l:=[AW2]) (o:=[]) H0 (by simp[Ac7]) (by simp) Tryz.func55 rfl (by kernel_rfl) (by funext x;kernel_rfl)
noncomputable def AM2 [LP](a:(List Int))(b:Bool):Option CW9:=
 (L9 (8:Int) a b).bind fun c=>
 (L9 (4:Int) c.2.1 c.2.2).bind fun d=>
 let e:=(IntKind.wrap .i32 d.1)
 let f:(Int×Int):=(c.1,(IntKind.wrap .i64 e))
 some (f,d.2.1,d.2.2)
noncomputable def Be1:Con:={f:=92,ps:=[.ref 0 0],boxes:=[[.dat (.slice (.int .u8)),.dat .bool]],ins:=(.pair (.slice (.int .u8)) .bool),nin:=2,outs:=CW8,rs:=[.dat (.agg (.pair (.int .i64) (.int .i64)))],A2:=3,F:=fun x=>AM2 x.1 x.2}
theorem DZ7:A3 Tryz.prog Be1:=
 cgo (l:=[AW2]) (o:=[]) H0 (by simp[Ac7]) (by simp) Tryz.func92 rfl (by kernel_rfl) (by funext x;kernel_rfl)
noncomputable def AM3 [LP](a:Int)(b:(List Int))(c:Bool):Option CX1:=
 Option.bind (
  LP.lp (X:=CN4) (fun (d:CX3)=>
   let e:=d.1
   let f:=d.2.1
   let g:(List (Int×Int)):=d.2.2.1
   let h:(List Int):=d.2.2.2
   (bif (decide (e<a)) then
    (AM2 h f).bind fun i=>
    let j:(List (Int×Int)):=([i.1]:List (Int×Int))
    chk none (decide ((g.length+j.length)*16≤140737488355328))<|
    let k:(List (Int×Int)):=(g++j)
    let l:=IntKind.wrap .i64 (e+1)
    some (.inl (l,i.2.2,k,i.2.1))
   else
    some (.inr (f,h,g)))) ((0:Int),c,[],b)) fun m=>
 let n:=m.1
 let o:(List Int):=m.2.1
 let p:(List (Int×Int)):=m.2.2
 some (p,o,n)
noncomputable def Be2:Con:={f:=91,ps:=[dI,.clo 92 [.ref 0 0] []],boxes:=[[.dat (.slice (.int .u8)),.dat .bool]],ins:=(.pair (.int .i64) (.pair (.slice (.int .u8)) .bool)),nin:=3,outs:=CX0,rs:=[.dat (.slice (.agg (.pair (.int .i64) (.int .i64))))],A2:=3,F:=fun x=>AM3 x.1 x.2.1 x.2.2}
theorem DZ8:A3 Tryz.prog Be2:=
 cgo (l:=[Be1]) (o:=[]) (.mk .plain [H0,(.mk .plain [H0,(.mk .plain [(.mk .plain [H0,(.mk .plain [(.mk (.loop [sI 7,kB 0 1,⟨.slot 5,(.slice (.agg (.pair (.int .i64) (.int .i64)))),some 1300165⟩,⟨.cell 0 0,(.slice (.int .u8)),none⟩] (zP [10,13,9,12,8,14,11]) [(.exit 0,[kB 0 1,⟨.cell 0 0,(.slice (.int .u8)),none⟩,⟨.slot 5,(.slice (.agg (.pair (.int .i64) (.int .i64)))),some 1300165⟩])]) [])])])])])]) (by simp[DZ7]) (by simp) Tryz.func91 rfl (by kernel_rfl) (by funext x;kernel_rfl)
noncomputable def AM4 [LP](a:(List Int))(b:Bool):Option (Int×((List Int)×Bool)):=
 (L9 (1:Int) a b).bind fun c=>
 some (c.1,c.2.1,c.2.2)
noncomputable def Be3:Con:={f:=94,ps:=[.ref 0 0],boxes:=[[.dat (.slice (.int .u8)),.dat .bool]],ins:=(.pair (.slice (.int .u8)) .bool),nin:=2,outs:=(.pair (.int .i64) (.pair (.slice (.int .u8)) .bool)),rs:=[dI],A2:=3,F:=fun x=>AM4 x.1 x.2}
theorem DZ9:A3 Tryz.prog Be3:=
 cgo (l:=[AW2]) (o:=[]) H0 (by simp[Ac7]) (by simp) Tryz.func94 rfl (by kernel_rfl) (by funext x;kernel_rfl)
noncomputable def AM5 [LP](a:Int)(b:(List Int))(c:Bool):Option ((List Int)×((List Int)×Bool)):=
 Option.bind (
  LP.lp (X:=(Bool×((List Int)×(List Int)))) (fun (d:CX4)=>
   let e:=d.1
   let f:=d.2.1
   let g:(List Int):=d.2.2.1
   let h:(List Int):=d.2.2.2
   (bif (decide (e<a)) then
    (AM4 h f).bind fun i=>
    chk none (decide ((g.length+([i.1]:List Int).length)*8≤140737488355328))<|
    let j:(List Int):=(g++([i.1]:List Int))
    let k:=IntKind.wrap .i64 (e+1)
    some (.inl (k,i.2.2,j,i.2.1))
   else
    some (.inr (f,h,g)))) ((0:Int),c,[],b)) fun l=>
 let m:=l.1
 let n:(List Int):=l.2.1
 let o:(List Int):=l.2.2
 some (o,n,m)
noncomputable def Be4:Con:={f:=93,ps:=[dI,.clo 94 [.ref 0 0] []],boxes:=[[.dat (.slice (.int .u8)),.dat .bool]],ins:=(.pair (.int .i64) (.pair (.slice (.int .u8)) .bool)),nin:=3,outs:=(.pair (.slice (.int .i64)) (.pair (.slice (.int .u8)) .bool)),rs:=[.dat (.slice (.int .i64))],A2:=3,F:=fun x=>AM5 x.1 x.2.1 x.2.2}
theorem Da0:A3 Tryz.prog Be4:=
 cgo (l:=[Be3]) (o:=[]) (.mk .plain [H0,(.mk .plain [H0,(.mk .plain [(.mk .plain [H0,(.mk .plain [(.mk (.loop [sI 7,kB 0 1,⟨.slot 5,(.slice (.int .i64)),some 1300003⟩,⟨.cell 0 0,(.slice (.int .u8)),none⟩] (zP [10,13,9,12,8,14,11]) [(.exit 0,[kB 0 1,⟨.cell 0 0,(.slice (.int .u8)),none⟩,⟨.slot 5,(.slice (.int .i64)),some 1300003⟩])]) [])])])])])]) (by simp[DZ9]) (by simp) Tryz.func93 rfl (by kernel_rfl) (by funext x;kernel_rfl)
noncomputable def AM6 [LP](a:(List Int))(b:Bool):Option CX6:=
 (L9 (8:Int) a b).bind fun c=>
 (X4 (1:Int) (64:Int) c.2.1 c.2.2).bind fun d=>
 (AM3 d.1 d.2.1 d.2.2).bind fun e=>
 (X4 (1:Int) (2:Int) e.2.1 e.2.2).bind fun f=>
 (AM5 f.1 f.2.1 f.2.2).bind fun g=>
 let h:Yd1:=(c.1,(e.1,g.1))
 some (h,g.2.1,g.2.2)
noncomputable def Be5:Con:={f:=56,ps:=[.ref 0 0],boxes:=[[.dat (.slice (.int .u8)),.dat .bool]],ins:=(.pair (.slice (.int .u8)) .bool),nin:=2,outs:=CX5,rs:=[.dat (.agg Yt1)],A2:=3,F:=fun x=>AM6 x.1 x.2}
theorem Da1:A3 Tryz.prog Be5:=
 cgo (l:=[AW2,BF9,Be2,Be4]) (o:=[]) H0 (by simp[Ac7,Be0,DZ8,Da0]) (by simp) Tryz.func56 rfl (by kernel_rfl) (by funext x;kernel_rfl)
noncomputable def AM7 [LP](a:Int)(b:(List Int))(c:Bool):Option CX8:=
 Option.bind (
  LP.lp (X:=CN6) (fun (d:CY1)=>
   let e:=d.1
   let f:=d.2.1
   let g:(List Yd1):=d.2.2.1
   let h:(List Int):=d.2.2.2
   (bif (decide (e<a)) then
    (AM6 h f).bind fun i=>
    chk none (decide ((g.length+([i.1]:List Yd1).length)*56≤140737488355328))<|
    let j:(List Yd1):=(g++([i.1]:List Yd1))
    let k:=IntKind.wrap .i64 (e+1)
    some (.inl (k,i.2.2,j,i.2.1))
   else
    some (.inr (f,h,g)))) ((0:Int),c,[],b)) fun l=>
 let m:=l.1
 let n:(List Int):=l.2.1
 let o:(List Yd1):=l.2.2
 some (o,n,m)
noncomputable def Be6:Con:={f:=54,ps:=[dI,.clo 56 [.ref 0 0] []],boxes:=[[.dat (.slice (.int .u8)),.dat .bool]],ins:=(.pair (.int .i64) (.pair (.slice (.int .u8)) .bool)),nin:=3,outs:=CX7,rs:=[.dat (.slice (.agg Yt1))],A2:=3,F:=fun x=>AM7 x.1 x.2.1 x.2.2}
theorem Da2:A3 Tryz.prog Be6:=
 cgo (l:=[Be5]) (o:=[]) (.mk .plain [H0,(.mk .plain [H0,(.mk .plain [(.mk .plain [H0,(.mk .plain [(.mk (.loop [sI 7,kB 0 1,⟨.slot 5,(.slice (.agg Yt1)),some 1300157⟩,⟨.cell 0 0,(.slice (.int .u8)),none⟩] (zP [10,13,9,12,8,14,11]) [(.exit 0,[kB 0 1,⟨.cell 0 0,(.slice (.int .u8)),none⟩,⟨.slot 5,(.slice (.agg Yt1)),some 1300157⟩])]) [])])])])])]) (by simp[Da1]) (by simp) Tryz.func54 rfl (by kernel_rfl) (by funext x;kernel_rfl)
noncomputable def AM8 [LP](a:(List Int))(b:Bool):Option CY3:=
 (L9 (2:Int) a b).bind fun c=>
 (L9 (1:Int) c.2.1 c.2.2).bind fun d=>
 let e:Yd3:=(c.1,(d.1,((0:Int),((0:Int),(0:Int)))))
 (L9 (8:Int) d.2.1 d.2.2).bind fun f=>
 (L9 (4:Int) f.2.1 f.2.2).bind fun g=>
 (L9 (4:Int) g.2.1 g.2.2).bind fun h=>
 let i:Yd3:=(e.1,(e.2.1,(f.1,(g.1,h.1))))
 some (i,h.2.1,h.2.2)
noncomputable def Be7:Con:={f:=58,ps:=[.ref 0 0],boxes:=[[.dat (.slice (.int .u8)),.dat .bool]],ins:=(.pair (.slice (.int .u8)) .bool),nin:=2,outs:=CY2,rs:=[.dat (.agg Yt3)],A2:=3,F:=fun x=>AM8 x.1 x.2}
theorem Da3:A3 Tryz.prog Be7:=
 cgo (l:=[AW2]) (o:=[]) H0 (by simp[Ac7]) (by simp) Tryz.func58 rfl (by kernel_rfl) (by funext x;kernel_rfl)
noncomputable def AM9 [LP](a:Int)(b:(List Int))(c:Bool):Option CY5:=
 Option.bind (
  LP.lp (X:=CN8) (fun (d:CY8)=>
   let e:=d.1
   let f:=d.2.1
   let g:(List Yd3):=d.2.2.1
   let h:(List Int):=d.2.2.2
   (bif (decide (e<a)) then
    (AM8 h f).bind fun i=>
    chk none (decide ((g.length+([i.1]:List Yd3).length)*40≤140737488355328))<|
    let j:(List Yd3):=(g++([i.1]:List Yd3))
    let k:=IntKind.wrap .i64 (e+1)
    some (.inl (k,i.2.2,j,i.2.1))
   else
    some (.inr (f,h,g)))) ((0:Int),c,[],b)) fun l=>
 let m:=l.1
 let n:(List Int):=l.2.1
 let o:(List Yd3):=l.2.2
 some (o,n,m)
noncomputable def Be8:Con:={f:=57,ps:=[dI,.clo 58 [.ref 0 0] []],boxes:=[[.dat (.slice (.int .u8)),.dat .bool]],ins:=(.pair (.int .i64) (.pair (.slice (.int .u8)) .bool)),nin:=3,outs:=CY4,rs:=[.dat (.slice (.agg Yt3))],A2:=3,F:=fun x=>AM9 x.1 x.2.1 x.2.2}
theorem Da4:A3 Tryz.prog Be8:=
 cgo (l:=[Be7]) (o:=[]) (.mk .plain [H0,(.mk .plain [H0,(.mk .plain [(.mk .plain [H0,(.mk .plain [(.mk (.loop [sI 7,kB 0 1,⟨.slot 5,(.slice (.agg Yt3)),some 1300160⟩,⟨.cell 0 0,(.slice (.int .u8)),none⟩] (zP [10,13,9,12,8,14,11]) [(.exit 0,[kB 0 1,⟨.cell 0 0,(.slice (.int .u8)),none⟩,⟨.slot 5,(.slice (.agg Yt3)),some 1300160⟩])]) [])])])])])]) (by simp[Da3]) (by simp) Tryz.func57 rfl (by kernel_rfl) (by funext x;kernel_rfl)
noncomputable def AN0 [LP](a:(List (Int×Int)))(b:Int):Option Int:=
 let c:=((a.length:Int)==(0:Int))
 let d:=(decide ((64:Int)<(a.length:Int)))
 let e:=(bif c then true else d)
 chk none ((true&&(decide ((0:Int)<(a.length:Int))))|| !(!e))<|
 let f:(Int×Int):=(a.getD (0:Int).toNat ((0:Int),(0:Int)))
 let g:=(bif e then true else (f.1 != (0:Int)))
 (bif g then
  some (11:Int)
 else
  Option.bind (α:=Int ⊕ Unit) (
   LP.lp (X:=Int ⊕ Unit) (fun (h:Int)=>
    let i:=decide (h<a.length)
    (bif i then
     chk none (decide (0≤h)&&decide (h<a.length))<|
     let j:(Int×Int):=(a.getD h.toNat ((0:Int),(0:Int)))
     let k:=decide (j.2<(-1048576:Int))
     let l:=decide ((1048576:Int)<j.2)
     let m:=(bif k then true else l)
     let n:=decide (b≤j.1)
     let o:=(bif m then true else n)
     let p:=decide ((0:Int)<h)
     let q:=IntKind.wrap .i64 (h-1)
     chk none ((decide (0≤q)&&decide (q<a.length))|| !(p&& !o))<|
     let r:(Int×Int):=(a.getD q.toNat ((0:Int),(0:Int)))
     let s:=decide (j.1≤r.1)
     let t:=(bif p then s else false)
     let u:=(bif o then true else t)
     (bif u then
      some (.inr (.inl (11:Int)))
     else
      let v:=IntKind.wrap .i64 (h+1)
      some (.inl v))
    else
     some (.inr (.inr ())))) (0:Int)) fun z=>match z with
  | .inl w=>
   some w
  | .inr _=>
   some (0:Int))
noncomputable def Be9:Con:={f:=132,ps:=[.dat (.slice (.agg (.pair (.int .i64) (.int .i64)))),dI],boxes:=[],ins:=(.pair (.slice (.agg (.pair (.int .i64) (.int .i64)))) (.int .i64)),nin:=2,outs:=(.int .i64),rs:=[dI],A2:=1,F:=fun x=>AN0 x.1 x.2}
theorem Da5:A3 Tryz.prog Be9:=
 cgo (l:=[]) (o:=[]) (.mk .plain [H0,(.mk .plain [H0,(.mk .plain [(.mk .plain [H0,(.mk .plain [(.mk (.loop [sI 24] (zP [30,36,42,39,45,48,54,51,57,5,26,29,35,32,38,41,47,44,50,53,56,4,28,25,31,34,40,37,43,46,52,49,55,6,27,33,58]) [(.ret,[sI 4]),(.exit 0,[])]) [])])])])])]) (by simp) (by simp) Tryz.func132 rfl (by kernel_rfl) (by funext x;kernel_rfl)
noncomputable def AN1 [LP](a:F0)(b:Yd1):Option Bool:=
 let c:=decide (b.1<(1:Int))
 let d:=decide ((1099511627776:Int)<b.1)
 let e:=(bif c then true else d)
 (bif !e then AN0 b.2.1 b.1 else some (0:Int)).bind fun f=>
 let g:=(bif e then true else (f != (0:Int)))
 let h:=(decide ((2:Int)<(b.2.2.length:Int)))
 let i:=(bif g then true else h)
 (bif i then
  some false
 else
  Option.bind (α:=Bool ⊕ Unit) (
   LP.lp (X:=Bool ⊕ Unit) (fun (j:Int)=>
    let k:=decide (j<b.2.2.length)
    (bif k then
     chk none (decide (0≤j)&&decide (j<b.2.2.length))<|
     let l:=(b.2.2.getD j.toNat 0)
     let m:=decide (l<(0:Int))
     let n:=decide ((a.1.length:Int)≤l)
     let o:=(bif m then true else n)
     let p:=decide ((0:Int)<j)
     let q:=IntKind.wrap .i64 (j-1)
     chk none ((decide (0≤q)&&decide (q<b.2.2.length))|| !(p&& !o))<|
     let r:=(b.2.2.getD q.toNat 0)
     let s:=decide (l≤r)
     let t:=(bif p then s else false)
     let u:=(bif o then true else t)
     (bif u then
      some (.inr (.inl false))
     else
      let v:=IntKind.wrap .i64 (j+1)
      some (.inl v))
    else
     some (.inr (.inr ())))) (0:Int)) fun z=>match z with
  | .inl w=>
   some w
  | .inr _=>
   some true)
noncomputable def Bf0:Con:={f:=95,ps:=[.dat (.agg E7),.dat (.agg Yt1)],boxes:=[],ins:=CY9,nin:=2,outs:=.bool,rs:=[.dat .bool],A2:=1,F:=fun x=>AN1 x.1 x.2}
theorem Da6:A3 Tryz.prog Bf0:=
 cgo (l:=[Be9]) (o:=[]) (.mk .plain [H0,(.mk .plain [H0,(.mk .plain [(.mk .plain [H0,(.mk .plain [(.mk (.loop [sI 32] (zP [36,42,4,39,45,48,54,51,57,5,34,40,37,43,46,52,49,55,35,58,38,6,41,47,33,44,50,53,59,56,60]) [(.ret,[sB 4]),(.exit 0,[])]) [])])])])])]) (by simp[Da5]) (by simp) Tryz.func95 rfl (by kernel_rfl) (by funext x;kernel_rfl)
noncomputable def Ap6 [LP](a:F0)(b:Int)(c:Yd3):Option Bool:=
 let d:=decide (c.1<(1:Int))
 let e:=decide ((65535:Int)<c.1)
 let f:=(bif d then true else e)
 let g:=decide ((0:Int)<b)
 let h:=IntKind.wrap .i64 (b-1)
 chk none ((decide (0≤h)&&decide (h<a.2.length))|| !(g&& !f))<|
 let i:Yd3:=(a.2.getD h.toNat ((0:Int),((0:Int),((0:Int),((0:Int),(0:Int))))))
 let j:=(bif g then (decide (c.1≤i.1)) else false)
 let k:=(bif f then true else j)
 let l:=decide (c.2.1<(0:Int))
 let m:=(bif k then true else l)
 let n:=decide ((a.1.length:Int)≤c.2.1)
 let o:=(bif m then true else n)
 (bif o then
  some false
 else
  let p:=decide ((0:Int)≤c.2.2.1)
  chk none ((decide (0≤c.2.1)&&decide (c.2.1<a.1.length))|| !p)<|
  let q:Yd1:=(a.1.getD c.2.1.toNat ((0:Int),([],[])))
  let r:=decide (c.2.2.1≤q.1)
  let s:=(bif p then r else false)
  let t:=decide ((0:Int)≤c.2.2.2.1)
  let u:=(bif s then t else false)
  let v:=decide (c.2.2.2.1≤(1048576:Int))
  let w:=(bif u then v else false)
  let y:=decide ((0:Int)≤c.2.2.2.2)
  let z:=(bif w then y else false)
  let a0:=decide (c.2.2.2.2≤(16777216:Int))
  let a1:=(bif z then a0 else false)
  some a1)
noncomputable def Bf1:Con:={f:=96,ps:=[.dat (.agg E7),dI,.dat (.agg Yt3)],boxes:=[],ins:=CZ1,nin:=3,outs:=.bool,rs:=[.dat .bool],A2:=1,F:=fun x=>Ap6 x.1 x.2.1 x.2.2}
theorem Da7:A3 Tryz.prog Bf1:=
 cgo (l:=[]) (o:=[]) H0 (by simp) (by simp) Tryz.func96 rfl (by kernel_rfl) (by funext x;kernel_rfl)
noncomputable def AG1 [LP](a:F0):Option (Int×Int):=
 let b:=((a.1.length:Int)==(0:Int))
 let c:=(decide ((200:Int)<(a.1.length:Int)))
 let d:=(bif b then true else c)
 let e:=(decide ((400:Int)<(a.2.length:Int)))
 let f:=(bif d then true else e)
 (bif f then
  some ((13:Int),(0:Int))
 else
  Option.bind (α:=(Int×Int) ⊕ Unit) (
   LP.lp (X:=(Int×Int) ⊕ Unit) (fun (g:Int)=>
    let h:=decide (g<a.1.length)
    (bif h then
     chk none (decide (0≤g)&&decide (g<a.1.length))<|
     let i:Yd1:=(a.1.getD g.toNat ((0:Int),([],[])))
     (AN1 a i).bind fun j=>
     (bif (!j) then
      some (.inr (.inl (g,(11:Int))))
     else
      let k:=IntKind.wrap .i64 (g+1)
      some (.inl k))
    else
     some (.inr (.inr ())))) (0:Int)) fun z=>match z with
  | .inl l=>
   let m:=l.1
   let n:=l.2
   some (n,m)
  | .inr _=>
   Option.bind (α:=(Int×Int) ⊕ Unit) (
    LP.lp (X:=(Int×Int) ⊕ Unit) (fun (o:Int)=>
     let p:=decide (o<a.2.length)
     (bif p then
      chk none (decide (0≤o)&&decide (o<a.2.length))<|
      let q:Yd3:=(a.2.getD o.toNat ((0:Int),((0:Int),((0:Int),((0:Int),(0:Int))))))
      (Ap6 a o q).bind fun r=>
      (bif (!r) then
       some (.inr (.inl ((16:Int),o)))
      else
       let s:=IntKind.wrap .i64 (o+1)
       some (.inl s))
     else
      some (.inr (.inr ())))) (0:Int)) fun z=>match z with
   | .inl t=>
    let u:=t.1
    let v:=t.2
    some (u,v)
   | .inr _=>
    some ((0:Int),(0:Int)))
noncomputable def BG0:Con:={f:=59,ps:=[.dat (.agg E7)],boxes:=[],ins:=(.agg E7),nin:=1,outs:=(.pair (.int .i64) (.int .i64)),rs:=[dI,dI],A2:=2,F:=fun x=>AG1 x}
theorem Bf2:A3 Tryz.prog BG0:=
 cgo (l:=[Bf0,Bf1]) (o:=[]) (.mk .plain [H0,(.mk .plain [H0,(.mk .plain [(.mk .plain [H0,(.mk .plain [(.mk (.loop [sI 27] (zP [30,36,4,29,35,3,32,28,2,31,5,34,33,37]) [(.ret,[sI 3,sI 2]),(.exit 0,[])]) [])])]),(.mk .plain [(.mk .plain [H0,(.mk .plain [(.mk (.loop [sI 41] (zP [7,42,45,48,51,2,43,46,49,3,6,47,44,50,52]) [(.ret,[sI 2,sI 3]),(.exit 2,[])]) [])])])])])])]) (by simp[Da6,Da7]) (by simp) Tryz.func59 rfl (by kernel_rfl) (by funext x;kernel_rfl)
noncomputable def AG2 [LP](a:(List Int)):Option CZ2:=
 let b:=(decide ((1048576:Int)<(a.length:Int)))
 (bif b then
  some (([],[]),(15:Int))
 else
  let c:=(decide ((a.length:Int)<(6:Int)))
  chk none ((true&&true&&(decide ((4:Int)≤(a.length:Int))))|| !(!c))<|
  let d:(List Int):=((a.take (4:Int).toNat).drop (0:Int).toNat)
  let e:=(!((bytesOf d).toList==(⟨#[79,68,79,49]⟩:ByteArray).toList))
  let f:=(bif c then true else e)
  (bif f then
   some (([],[]),(11:Int))
  else
   (AG0 a).bind fun g=>
   (bif (g != (0:Int)) then
    some (([],[]),(31:Int))
   else
    let h:=(IntKind.wrap .i64 ((a.length:Int)-(2:Int)))
    chk none (true&&(decide ((4:Int)≤h))&&(decide (h≤(a.length:Int))))<|
    let i:(List Int):=((a.take h.toNat).drop (4:Int).toNat)
    (X4 (2:Int) (200:Int) ((i,false).1) ((i,false).2)).bind fun j=>
    (AM7 j.1 j.2.1 j.2.2).bind fun k=>
    (X4 (2:Int) (400:Int) k.2.1 k.2.2).bind fun l=>
    (AM9 l.1 l.2.1 l.2.2).bind fun m=>
    let n:=(m.2.1.length:Int)
    let o:=decide ((0:Int)<n)
    let p:=(bif m.2.2 then true else o)
    (bif p then
     some (([],[]),(14:Int))
    else
     (AG1 (k.1,m.1)).bind fun q=>
     (bif (q.1 != (0:Int)) then
      some (([],[]),(51:Int))
     else
      let r:F0:=(k.1,m.1)
      some (r,(0:Int)))))))
noncomputable def BG1:Con:={f:=32,ps:=[.dat (.slice (.int .u8))],boxes:=[],ins:=(.slice (.int .u8)),nin:=1,outs:=Ba5,rs:=[.dat (.agg E7),dI],A2:=2,F:=fun x=>AG2 x}
theorem Da8:A3 Tryz.prog BG1:=
 cgo (l:=[BF8,BF9,Be6,Be8,BG0]) (o:=[]) H0 (by simp[Bd9,Be0,Da2,Da4,Bf2]) (by simp) Tryz.func32 rfl (by kernel_rfl) (by funext x;kernel_rfl)
noncomputable def Ap7 [LP](a:C8):Option C8:=
 let pA:=a.2.2.2.2
 let pB:=pA.2.2.2.2
 some (a.1,a.2.1,a.2.2.1,a.2.2.2.1,pA.1,pA.2.1,pA.2.2.1,pA.2.2.2.1,pB.1,pB.2.1,pB.2.2.1,pB.2.2.2.1,pB.2.2.2.2.1,pB.2.2.2.2.2)
noncomputable def Ap8:J0:={f:=97,ps:=[.dat (.agg C9)],ins:=(.agg C9),nin:=1,outs:=C9,rs:=[.sl [.clo 133 [] [.ref 0 0],.clo 135 [] [.ref 0 0],.clo 136 [] [.ref 0 0],.clo 137 [] [.ref 0 0],.clo 138 [] [.ref 0 0],.clo 139 [] [.ref 0 0],.clo 140 [] [.ref 0 0],.clo 141 [] [.ref 0 0],.clo 142 [] [.ref 0 0],.clo 143 [] [.ref 0 0],.clo 145 [] [.ref 0 0],.clo 146 [] [.ref 0 0]]],new:=[dI,dI,dI,dI,dI,dI,dI,dI,dI,dI,dI,dI,dI,dI],A2:=14,F:=fun x=>Ap7 x}
def Da9:Hint:=H0
theorem Db0:runN ⟨R7 tys,[],[],[],[]⟩ Ap8 Tryz.f97 Da9=Ap8.F:=by
 funext x
 kernel_rfl
theorem Db1:NOK Tryz.prog Ap8:=
 BY6 (Γ:=⟨R7 tys,[],[],[],[]⟩) ⟨fun T d h=>AL3 tys AW0 T d h,by simp[],by simp[],by simp[],AU1 Tryz.prog [] (by kernel_rfl)⟩ (by kernel_rfl) Tryz.func97 rfl (by kernel_rfl) Db0
noncomputable def P0 [LP](a b c:Int):Option Bool:=
 let d:=(bif (decide (b≤a)) then (decide (a≤c)) else false)
 some d
noncomputable def Z8:Con:={f:=134,ps:=[dI,dI,dI],boxes:=[],ins:=(.pair (.int .i64) (.pair (.int .i64) (.int .i64))),nin:=3,outs:=.bool,rs:=[.dat .bool],A2:=1,F:=fun x=>P0 x.1 x.2.1 x.2.2}
theorem u7:A3 Tryz.prog Z8:=
 cgo (l:=[]) (o:=[]) H0 (by simp) (by simp) Tryz.func134 rfl (by kernel_rfl) (by funext x;kernel_rfl)
noncomputable def Ap9 [LP](a b c d e f g h i j k l m n:Int):Option X0:=
 (P0 a (1:Int) (1024:Int)).bind fun o=>
 some (o,a,b,c,d,e,f,g,h,i,j,k,l,m,n)
noncomputable def Bf3:Con:={f:=133,ps:=[.ref 0 0],boxes:=[[dI,dI,dI,dI,dI,dI,dI,dI,dI,dI,dI,dI,dI,dI]],ins:=C9,nin:=14,outs:=W9,rs:=[.dat .bool],A2:=15,F:=fun x=>let a:=x.2.2.2.2.2.2.2.2;Ap9 x.1 x.2.1 x.2.2.1 x.2.2.2.1 x.2.2.2.2.1 x.2.2.2.2.2.1 x.2.2.2.2.2.2.1 x.2.2.2.2.2.2.2.1 x.2.2.2.2.2.2.2.2.1 a.2.1 a.2.2.1 a.2.2.2.1 a.2.2.2.2.1 a.2.2.2.2.2}
theorem Db2:A3 Tryz.prog Bf3:=
 cgo (l:=[Z8]) (o:=[]) H0 (by simp[u7]) (by simp) Tryz.func133 rfl (by kernel_rfl) (by funext x;kernel_rfl)
noncomputable def Aq0 [LP](a b c d e f g h i j k l m n:Int):Option X0:=
 (P0 b (131072:Int) (8388608:Int)).bind fun o=>
 (bif o then P0 c b (8388608:Int) else some false).bind fun p=>
 let q:=(bif o then p else false)
 some (q,a,b,c,d,e,f,g,h,i,j,k,l,m,n)
noncomputable def Bf4:Con:={f:=135,ps:=[.ref 0 0],boxes:=[[dI,dI,dI,dI,dI,dI,dI,dI,dI,dI,dI,dI,dI,dI]],ins:=C9,nin:=14,outs:=W9,rs:=[.dat .bool],A2:=15,F:=fun x=>let a:=x.2.2.2.2.2.2.2.2;Aq0 x.1 x.2.1 x.2.2.1 x.2.2.2.1 x.2.2.2.2.1 x.2.2.2.2.2.1 x.2.2.2.2.2.2.1 x.2.2.2.2.2.2.2.1 x.2.2.2.2.2.2.2.2.1 a.2.1 a.2.2.1 a.2.2.2.1 a.2.2.2.2.1 a.2.2.2.2.2}
theorem Db3:A3 Tryz.prog Bf4:=
 cgo (l:=[Z8]) (o:=[]) H0 (by simp[u7]) (by simp) Tryz.func135 rfl (by kernel_rfl) (by funext x;kernel_rfl)
noncomputable def Aq1 [LP](a b c d e f g h i j k l m n:Int):Option X0:=
 let o:=IntKind.wrap .i64 (c-b)
 let p:=IntKind.wrap .i64 ((16:Int)*o)
 some ((decide (p≤b)),a,b,c,d,e,f,g,h,i,j,k,l,m,n)
noncomputable def Bf5:Con:={f:=136,ps:=[.ref 0 0],boxes:=[[dI,dI,dI,dI,dI,dI,dI,dI,dI,dI,dI,dI,dI,dI]],ins:=C9,nin:=14,outs:=W9,rs:=[.dat .bool],A2:=15,F:=fun x=>let a:=x.2.2.2.2.2.2.2.2;Aq1 x.1 x.2.1 x.2.2.1 x.2.2.2.1 x.2.2.2.2.1 x.2.2.2.2.2.1 x.2.2.2.2.2.2.1 x.2.2.2.2.2.2.2.1 x.2.2.2.2.2.2.2.2.1 a.2.1 a.2.2.1 a.2.2.2.1 a.2.2.2.2.1 a.2.2.2.2.2}
theorem Db4:A3 Tryz.prog Bf5:=
 cgo (l:=[]) (o:=[]) H0 (by simp) (by simp) Tryz.func136 rfl (by kernel_rfl) (by funext x;kernel_rfl)
noncomputable def Aq2 [LP](a b c d e f g h i j k l m n:Int):Option X0:=
 (P0 d (0:Int) (1048576:Int)).bind fun o=>
 (bif o then P0 e (0:Int) (65536:Int) else some false).bind fun p=>
 let q:=(bif o then p else false)
 some (q,a,b,c,d,e,f,g,h,i,j,k,l,m,n)
noncomputable def Bf6:Con:={f:=137,ps:=[.ref 0 0],boxes:=[[dI,dI,dI,dI,dI,dI,dI,dI,dI,dI,dI,dI,dI,dI]],ins:=C9,nin:=14,outs:=W9,rs:=[.dat .bool],A2:=15,F:=fun x=>let a:=x.2.2.2.2.2.2.2.2;Aq2 x.1 x.2.1 x.2.2.1 x.2.2.2.1 x.2.2.2.2.1 x.2.2.2.2.2.1 x.2.2.2.2.2.2.1 x.2.2.2.2.2.2.2.1 x.2.2.2.2.2.2.2.2.1 a.2.1 a.2.2.1 a.2.2.2.1 a.2.2.2.2.1 a.2.2.2.2.2}
theorem Db5:A3 Tryz.prog Bf6:=
 cgo (l:=[Z8]) (o:=[]) H0 (by simp[u7]) (by simp) Tryz.func137 rfl (by kernel_rfl) (by funext x;kernel_rfl)
noncomputable def Aq3 [LP](a b c d e f g h i j k l m n:Int):Option X0:=
 (P0 f (0:Int) (1048576:Int)).bind fun o=>
 some (o,a,b,c,d,e,f,g,h,i,j,k,l,m,n)
noncomputable def Bf7:Con:={f:=138,ps:=[.ref 0 0],boxes:=[[dI,dI,dI,dI,dI,dI,dI,dI,dI,dI,dI,dI,dI,dI]],ins:=C9,nin:=14,outs:=W9,rs:=[.dat .bool],A2:=15,F:=fun x=>let a:=x.2.2.2.2.2.2.2.2;Aq3 x.1 x.2.1 x.2.2.1 x.2.2.2.1 x.2.2.2.2.1 x.2.2.2.2.2.1 x.2.2.2.2.2.2.1 x.2.2.2.2.2.2.2.1 x.2.2.2.2.2.2.2.2.1 a.2.1 a.2.2.1 a.2.2.2.1 a.2.2.2.2.1 a.2.2.2.2.2}
theorem Db6:A3 Tryz.prog Bf7:=
 cgo (l:=[Z8]) (o:=[]) H0 (by simp[u7]) (by simp) Tryz.func138 rfl (by kernel_rfl) (by funext x;kernel_rfl)
noncomputable def Aq4 [LP](a b c d e f g h i j k l m n:Int):Option X0:=
 (P0 g (1:Int) (16777216:Int)).bind fun o=>
 (bif o then P0 h (1:Int) (1048576:Int) else some false).bind fun p=>
 let q:=(bif o then p else false)
 some (q,a,b,c,d,e,f,g,h,i,j,k,l,m,n)
noncomputable def Bf8:Con:={f:=139,ps:=[.ref 0 0],boxes:=[[dI,dI,dI,dI,dI,dI,dI,dI,dI,dI,dI,dI,dI,dI]],ins:=C9,nin:=14,outs:=W9,rs:=[.dat .bool],A2:=15,F:=fun x=>let a:=x.2.2.2.2.2.2.2.2;Aq4 x.1 x.2.1 x.2.2.1 x.2.2.2.1 x.2.2.2.2.1 x.2.2.2.2.2.1 x.2.2.2.2.2.2.1 x.2.2.2.2.2.2.2.1 x.2.2.2.2.2.2.2.2.1 a.2.1 a.2.2.1 a.2.2.2.1 a.2.2.2.2.1 a.2.2.2.2.2}
theorem Db7:A3 Tryz.prog Bf8:=
 cgo (l:=[Z8]) (o:=[]) H0 (by simp[u7]) (by simp) Tryz.func139 rfl (by kernel_rfl) (by funext x;kernel_rfl)
noncomputable def Aq5 [LP](a b c d e f g h i j k l m n:Int):Option X0:=
 let o:=IntKind.wrap .i64 (g*a)
 let p:=IntKind.wrap .i64 ((32000:Int)*b)
 some ((decide (o≤p)),a,b,c,d,e,f,g,h,i,j,k,l,m,n)
noncomputable def Bf9:Con:={f:=140,ps:=[.ref 0 0],boxes:=[[dI,dI,dI,dI,dI,dI,dI,dI,dI,dI,dI,dI,dI,dI]],ins:=C9,nin:=14,outs:=W9,rs:=[.dat .bool],A2:=15,F:=fun x=>let a:=x.2.2.2.2.2.2.2.2;Aq5 x.1 x.2.1 x.2.2.1 x.2.2.2.1 x.2.2.2.2.1 x.2.2.2.2.2.1 x.2.2.2.2.2.2.1 x.2.2.2.2.2.2.2.1 x.2.2.2.2.2.2.2.2.1 a.2.1 a.2.2.1 a.2.2.2.1 a.2.2.2.2.1 a.2.2.2.2.2}
theorem Db8:A3 Tryz.prog Bf9:=
 cgo (l:=[]) (o:=[]) H0 (by simp) (by simp) Tryz.func140 rfl (by kernel_rfl) (by funext x;kernel_rfl)
noncomputable def Aq6 [LP](a b c d e f g h i j k l m n:Int):Option X0:=
 (P0 i (0:Int) (1048576:Int)).bind fun o=>
 some (o,a,b,c,d,e,f,g,h,i,j,k,l,m,n)
noncomputable def Bg0:Con:={f:=141,ps:=[.ref 0 0],boxes:=[[dI,dI,dI,dI,dI,dI,dI,dI,dI,dI,dI,dI,dI,dI]],ins:=C9,nin:=14,outs:=W9,rs:=[.dat .bool],A2:=15,F:=fun x=>let a:=x.2.2.2.2.2.2.2.2;Aq6 x.1 x.2.1 x.2.2.1 x.2.2.2.1 x.2.2.2.2.1 x.2.2.2.2.2.1 x.2.2.2.2.2.2.1 x.2.2.2.2.2.2.2.1 x.2.2.2.2.2.2.2.2.1 a.2.1 a.2.2.1 a.2.2.2.1 a.2.2.2.2.1 a.2.2.2.2.2}
theorem Db9:A3 Tryz.prog Bg0:=
 cgo (l:=[Z8]) (o:=[]) H0 (by simp[u7]) (by simp) Tryz.func141 rfl (by kernel_rfl) (by funext x;kernel_rfl)
noncomputable def Aq7 [LP](a b c d e f g h i j k l m n:Int):Option X0:=
 (P0 j (1:Int) (1000:Int)).bind fun o=>
 (bif o then P0 m (1:Int) (1000:Int) else some false).bind fun p=>
 let q:=(bif o then p else false)
 some (q,a,b,c,d,e,f,g,h,i,j,k,l,m,n)
noncomputable def Bg1:Con:={f:=142,ps:=[.ref 0 0],boxes:=[[dI,dI,dI,dI,dI,dI,dI,dI,dI,dI,dI,dI,dI,dI]],ins:=C9,nin:=14,outs:=W9,rs:=[.dat .bool],A2:=15,F:=fun x=>let a:=x.2.2.2.2.2.2.2.2;Aq7 x.1 x.2.1 x.2.2.1 x.2.2.2.1 x.2.2.2.2.1 x.2.2.2.2.2.1 x.2.2.2.2.2.2.1 x.2.2.2.2.2.2.2.1 x.2.2.2.2.2.2.2.2.1 a.2.1 a.2.2.1 a.2.2.2.1 a.2.2.2.2.1 a.2.2.2.2.2}
theorem Dc0:A3 Tryz.prog Bg1:=
 cgo (l:=[Z8]) (o:=[]) H0 (by simp[u7]) (by simp) Tryz.func142 rfl (by kernel_rfl) (by funext x;kernel_rfl)
noncomputable def AW3 [LP](a:Int):Option Int:=
 let b:=decide (a<(0:Int))
 (bif b then
  let c:=IntKind.wrap .u64 (0-(IntKind.wrap .u64 a))
  some c
 else
  some (IntKind.wrap .u64 a))
noncomputable def Bg2:Con:={f:=191,ps:=[dI],boxes:=[],ins:=(.int .i64),nin:=1,outs:=(.int .u64),rs:=[.dat (.int .u64)],A2:=1,F:=fun x=>AW3 x}
theorem Dc1:A3 Tryz.prog Bg2:=
 cgo (l:=[]) (o:=[]) H0 (by simp) (by simp) Tryz.func191 rfl (by kernel_rfl) (by funext x;kernel_rfl)
noncomputable def AW4 [LP](a b:Int):Option (Int×Int):=
 let c:=(bits .u64 .and a (4294967295:Int))
 let d:=(bits .u64 .and b (4294967295:Int))
 let e:=IntKind.wrap .u64 (c*d)
 let f:=(IntKind.wrap .u64 ((a.fdiv (2 ^ 32))*d))
 let g:=(IntKind.wrap .u64 (f+(e.fdiv (2 ^ 32))))
 let h:=(IntKind.wrap .u64 (c*(b.fdiv (2 ^ 32))))
 let i:=(bits .u64 .and g (4294967295:Int))
 let j:=IntKind.wrap .u64 (h+i)
 let k:=(IntKind.wrap .u64 ((a.fdiv (2 ^ 32))*(b.fdiv (2 ^ 32))))
 let l:=(IntKind.wrap .u64 (k+(g.fdiv (2 ^ 32))))
 let m:=(IntKind.wrap .u64 (l+(j.fdiv (2 ^ 32))))
 let n:=IntKind.wrap .u64 (j*2 ^ 32)
 let o:=(bits .u64 .and e (4294967295:Int))
 let p:=(bits .u64 .or n o)
 let q:(Int×Int):=(m,p)
 some q
noncomputable def Aq8:Con:={f:=165,ps:=[.dat (.int .u64),.dat (.int .u64)],boxes:=[],ins:=(.pair (.int .u64) (.int .u64)),nin:=2,outs:=(.agg (.pair (.int .u64) (.int .u64))),rs:=[.dat (.agg (.pair (.int .u64) (.int .u64)))],A2:=1,F:=fun x=>AW4 x.1 x.2}
theorem BG2:A3 Tryz.prog Aq8:=
 cgo (l:=[]) (o:=[]) H0 (by simp) (by simp) Tryz.func165 rfl (by kernel_rfl) (by funext x;kernel_rfl)
noncomputable def Ac8 [LP](a:(Int×Int))(b:Int):Option (Int×Int):=
 let c:=decide (b≤(0:Int))
 (bif c then
  some a
 else
  let d:=decide ((64:Int)≤b)
  (bif d then
   let e:=IntKind.wrap .i64 (b-64)
   let f:=(IntKind.wrap .u64 e)
   chk none (decide ((0:Int)≤f))<|
   let g:=IntKind.wrap .u64 (a.2*2 ^ (min f.toNat 64))
   let h:(Int×Int):=(g,(0:Int))
   some h
  else
   chk none (decide ((0:Int)≤(IntKind.wrap .u64 b)))<|
   let i:=(IntKind.wrap .u64 (a.1*2 ^ (min (IntKind.wrap .u64 b).toNat 64)))
   let j:=IntKind.wrap .i64 ((64:Int)-b)
   let k:=(IntKind.wrap .u64 j)
   chk none (decide ((0:Int)≤k))<|
   let l:=(a.2.fdiv (2 ^ (min k.toNat 64)))
   let m:=(bits .u64 .or i l)
   chk none (decide ((0:Int)≤(IntKind.wrap .u64 b)))<|
   let n:=(IntKind.wrap .u64 (a.2*2 ^ (min (IntKind.wrap .u64 b).toNat 64)))
   let o:(Int×Int):=(m,n)
   some o))
noncomputable def Bg3:Con:={f:=209,ps:=[.dat (.agg (.pair (.int .u64) (.int .u64))),dI],boxes:=[],ins:=(.pair (.agg (.pair (.int .u64) (.int .u64))) (.int .i64)),nin:=2,outs:=(.agg (.pair (.int .u64) (.int .u64))),rs:=[.dat (.agg (.pair (.int .u64) (.int .u64)))],A2:=1,F:=fun x=>Ac8 x.1 x.2}
theorem Dc2:A3 Tryz.prog Bg3:=
 cgo (l:=[]) (o:=[]) H0 (by simp) (by simp) Tryz.func209 rfl (by kernel_rfl) (by funext x;kernel_rfl)
noncomputable def Aq9 [LP](a:(Int×Int))(b:Int):Option (Int×Int):=
 let c:=decide (b≤(0:Int))
 (bif c then
  some a
 else
  let d:=decide ((64:Int)≤b)
  (bif d then
   let e:=IntKind.wrap .i64 (b-64)
   let f:=(IntKind.wrap .u64 e)
   chk none (decide ((0:Int)≤f))<|
   let g:=(a.1.fdiv (2 ^ (min f.toNat 64)))
   let h:(Int×Int):=((0:Int),g)
   some h
  else
   chk none (decide ((0:Int)≤(IntKind.wrap .u64 b)))<|
   let i:=(a.1.fdiv (2 ^ (min (IntKind.wrap .u64 b).toNat 64)))
   chk none (decide ((0:Int)≤(IntKind.wrap .u64 b)))<|
   let j:=(a.2.fdiv (2 ^ (min (IntKind.wrap .u64 b).toNat 64)))
   let k:=IntKind.wrap .i64 ((64:Int)-b)
   let l:=(IntKind.wrap .u64 k)
   chk none (decide ((0:Int)≤l))<|
   let m:=IntKind.wrap .u64 (a.1*2 ^ (min l.toNat 64))
   let n:=(bits .u64 .or j m)
   let o:(Int×Int):=(i,n)
   some o))
noncomputable def Bg4:Con:={f:=210,ps:=[.dat (.agg (.pair (.int .u64) (.int .u64))),dI],boxes:=[],ins:=(.pair (.agg (.pair (.int .u64) (.int .u64))) (.int .i64)),nin:=2,outs:=(.agg (.pair (.int .u64) (.int .u64))),rs:=[.dat (.agg (.pair (.int .u64) (.int .u64)))],A2:=1,F:=fun x=>Aq9 x.1 x.2}
theorem Dc3:A3 Tryz.prog Bg4:=
 cgo (l:=[]) (o:=[]) H0 (by simp) (by simp) Tryz.func210 rfl (by kernel_rfl) (by funext x;kernel_rfl)
noncomputable def AN2 [LP](a b:(Int×Int)):Option Int:=
 let c:=(eqT (.agg (.pair (.int .u64) (.int .u64))) a b)
 (bif c then
  some (0:Int)
 else
  let d:=(bif (a.1==b.1) then (decide (a.2<b.2)) else false)
  let e:=(bif (decide (a.1<b.1)) then true else d)
  (bif e then
   some (-1:Int)
  else
   some (1:Int)))
noncomputable def Ac9:Con:={f:=178,ps:=[.dat (.agg (.pair (.int .u64) (.int .u64))),.dat (.agg (.pair (.int .u64) (.int .u64)))],boxes:=[],ins:=BE8,nin:=2,outs:=(.int .i64),rs:=[dI],A2:=1,F:=fun x=>AN2 x.1 x.2}
theorem Ar0:A3 Tryz.prog Ac9:=
 cgo (l:=[]) (o:=[]) H0 (by simp) (by simp) Tryz.func178 rfl (by kernel_rfl) (by funext x;kernel_rfl)
noncomputable def Ar1 [LP](a b:(Int×Int)):Option ((Int×Int)×Bool):=
 let c:=IntKind.wrap .u64 (a.1-b.1)
 let d:=IntKind.wrap .u64 (a.2-b.2)
 let e:(Int×Int):=(c,d)
 Option.bind (
  (bif (decide (a.2<b.2)) then
   let f:=IntKind.wrap .u64 (e.1-1)
   some f
  else
   some e.1)) fun g=>
 (AN2 a b).bind fun h=>
 let i:=decide (h<(0:Int))
 let j:(Int×Int):=(g,e.2)
 some (j,i)
noncomputable def Bg5:Con:={f:=211,ps:=[.dat (.agg (.pair (.int .u64) (.int .u64))),.dat (.agg (.pair (.int .u64) (.int .u64)))],boxes:=[],ins:=BE8,nin:=2,outs:=(.pair (.agg (.pair (.int .u64) (.int .u64))) .bool),rs:=[.dat (.agg (.pair (.int .u64) (.int .u64))),.dat .bool],A2:=2,F:=fun x=>Ar1 x.1 x.2}
theorem Dc4:A3 Tryz.prog Bg5:=
 cgo (l:=[Ac9]) (o:=[]) (.mk .plain [H0,(.mk .plain [H0,(.mk .plain [(.mk .plain [H0,(.mk (.join (zP [23,25,26,24]) [(.normal,[⟨.cell 3 0,(.int .u64),none⟩])]) [])])])])]) (by simp[Ar0]) (by simp) Tryz.func211 rfl (by kernel_rfl) (by funext x;kernel_rfl)
noncomputable def AN3 [LP](a:(Int×Int))(b:Int):Option CZ4:=
 (bif (b==(0:Int)) then
  let c:(Int×Int):=((0:Int),(0:Int))
  some (c,(0:Int),(21:Int))
 else
  let d:(Int×Int):=((0:Int),(0:Int))
  Option.bind (
   LP.lp (X:=CN9) (fun (e:CZ6)=>
    let f:=e.1
    let g:=e.2.1
    let h:=e.2.2.1
    let i:=e.2.2.2.1
    let j:=e.2.2.2.2
    let k:=decide ((0:Int)≤j)
    (bif k then
     (Ac8 (f,i) (1:Int)).bind fun l=>
     (Aq9 a j).bind fun m=>
     let n:=(bits .u64 .and m.2 (1:Int))
     let o:=(bits .u64 .or l.2 n)
     (Ac8 (h,g) (1:Int)).bind fun p=>
     (AN2 (l.1,o) ((0:Int),b)).bind fun q=>
     let r:=decide ((0:Int)≤q)
     Option.bind (
      (bif r then
       (Ar1 (l.1,o) ((0:Int),b)).bind fun s=>
       let t:=(bits .u64 .or p.2 (1:Int))
       some (s.1.1,t,s.1.2)
      else
       some (l.1,p.2,o))) fun u=>
     let v:=u.1
     let w:=u.2.1
     let y:=u.2.2
     let z:=IntKind.wrap .i64 (j-1)
     some (.inl (v,w,p.1,y,z))
    else
     some (.inr (f,g,h,i)))) (d.1,(0:Int),(0:Int),d.2,(127:Int))) fun a0=>
  let a1:=a0.1
  let a2:=a0.2.1
  let a3:=a0.2.2.1
  let a4:=a0.2.2.2
  let a5:(Int×Int):=(a3,a2)
  some (a5,a4,(0:Int)))
noncomputable def Bg6:Con:={f:=192,ps:=[.dat (.agg (.pair (.int .u64) (.int .u64))),.dat (.int .u64)],boxes:=[],ins:=(.pair (.agg (.pair (.int .u64) (.int .u64))) (.int .u64)),nin:=2,outs:=CZ3,rs:=[.dat (.agg (.pair (.int .u64) (.int .u64))),.dat (.int .u64),dI],A2:=3,F:=fun x=>AN3 x.1 x.2}
theorem Dc5:A3 Tryz.prog Bg6:=
 cgo (l:=[Bg3,Bg4,Ac9,Bg5]) (o:=[]) (.mk .plain [H0,(.mk .plain [H0,(.mk .plain [H0,(.mk .plain [H0,(.mk .plain [(.mk .plain [H0,(.mk .plain [(.mk (.loop [⟨.cell 3 0,(.int .u64),none⟩,⟨.cell 2 1,(.int .u64),none⟩,⟨.cell 2 0,(.int .u64),none⟩,⟨.cell 3 1,(.int .u64),none⟩,sI 9] (zP [30,36,42,39,45,14,17,23,20,26,29,35,32,38,41,44,16,19,22,28,25,31,34,40,37,43,46,15,21,18,24,27,33]) [(.exit 0,[⟨.cell 3 0,(.int .u64),none⟩,⟨.cell 2 1,(.int .u64),none⟩,⟨.cell 2 0,(.int .u64),none⟩,⟨.cell 3 1,(.int .u64),none⟩])]) [(.mk .plain [H0,(.mk .plain [(.mk .plain [(.mk .plain [H0,(.mk .plain [H0,(.mk .plain [H0,(.mk .plain [H0,(.mk (.join (zP [46,36,42,43,39,45,38,41,44,40,37]) [(.normal,[⟨.cell 3 0,(.int .u64),none⟩,⟨.cell 2 1,(.int .u64),none⟩,⟨.cell 3 1,(.int .u64),none⟩])]) [])])])])])])])])])])])])])])])]) (by simp[Dc2,Dc3,Ar0,Dc4]) (by simp) Tryz.func192 rfl (by kernel_rfl) (by funext x;kernel_rfl)
noncomputable def Ar2 [LP](a b:(Int×Int)):Option ((Int×Int)×Bool):=
 let c:=IntKind.wrap .u64 (a.2+b.2)
 let d:(Int×Int):=((0:Int),c)
 let e:=IntKind.wrap .u64 (a.1+b.1)
 Option.bind (
  (bif (decide (d.2<a.2)) then
   let f:=IntKind.wrap .u64 (e+1)
   let g:=(bif (decide (e<a.1)) then true else (f==(0:Int)))
   some (f,g)
  else
   some (e,(decide (e<a.1))))) fun h=>
 let i:=h.1
 let j:=h.2
 let k:(Int×Int):=(i,d.2)
 some (k,j)
noncomputable def Bg7:Con:={f:=193,ps:=[.dat (.agg (.pair (.int .u64) (.int .u64))),.dat (.agg (.pair (.int .u64) (.int .u64)))],boxes:=[],ins:=BE8,nin:=2,outs:=(.pair (.agg (.pair (.int .u64) (.int .u64))) .bool),rs:=[.dat (.agg (.pair (.int .u64) (.int .u64))),.dat .bool],A2:=2,F:=fun x=>Ar2 x.1 x.2}
theorem Dc6:A3 Tryz.prog Bg7:=
 cgo (l:=[]) (o:=[]) (.mk .plain [H0,(.mk .plain [H0,(.mk .plain [H0,(.mk .plain [H0,(.mk .plain [(.mk .plain [H0,(.mk (.join (zP [30,36,39,35,32,38,31,34,37,33]) [(.normal,[⟨.cell 3 0,(.int .u64),none⟩,sB 7])]) [])])])])])])]) (by simp) (by simp) Tryz.func193 rfl (by kernel_rfl) (by funext x;kernel_rfl)
noncomputable def Ar3 [LP](a:(Int×Int))(b:Bool):Option (Int×Int):=
 let c:(Int×Int):=((0:Int),(9223372036854775807:Int))
 Option.bind (
  (bif b then
   let d:=IntKind.wrap .u64 (c.2+1)
   some d
  else
   some c.2)) fun e=>
 (AN2 a (c.1,e)).bind fun f=>
 let g:=decide ((0:Int)<f)
 (bif g then
  some ((0:Int),(20:Int))
 else
  (bif b then
   let h:=IntKind.wrap .u64 (0-a.2)
   let i:=(IntKind.wrap .i64 h)
   some (i,(0:Int))
  else
   let j:=(IntKind.wrap .i64 a.2)
   some (j,(0:Int))))
noncomputable def Bg8:Con:={f:=194,ps:=[.dat (.agg (.pair (.int .u64) (.int .u64))),.dat .bool],boxes:=[],ins:=(.pair (.agg (.pair (.int .u64) (.int .u64))) .bool),nin:=2,outs:=(.pair (.int .i64) (.int .i64)),rs:=[dI,dI],A2:=2,F:=fun x=>Ar3 x.1 x.2}
theorem Dc7:A3 Tryz.prog Bg8:=
 cgo (l:=[Ac9]) (o:=[]) (.mk .plain [H0,(.mk .plain [H0,(.mk .plain [(.mk .plain [H0,(.mk (.join (zP [12,10,9,11]) [(.normal,[⟨.cell 1 1,(.int .u64),none⟩])]) [])])])])]) (by simp[Ar0]) (by simp) Tryz.func194 rfl (by kernel_rfl) (by funext x;kernel_rfl)
noncomputable def AG3 [LP](a b c:Int)(d:Bool):Option (Int×Int):=
 (bif (c==(0:Int)) then
  some ((0:Int),(21:Int))
 else
  let e:=decide (a<(0:Int))
  let f:=decide (b<(0:Int))
  let g:=decide (c<(0:Int))
  let h:=(!((!(e==f))==g))
  (AW3 a).bind fun i=>
  (AW3 b).bind fun j=>
  (AW4 i j).bind fun k=>
  (AW3 c).bind fun l=>
  (AN3 k l).bind fun m=>
  let n:=decide ((0:Int)<m.2.1)
  let o:=(bif n then (!(d==h)) else false)
  Option.bind (
   (bif o then
    (Ar2 m.1 ((0:Int),(1:Int))).bind fun p=>
    some (p.1.2,p.1.1)
   else
    some (m.1.2,m.1.1))) fun q=>
  let r:=q.1
  let s:=q.2
  (Ar3 (s,r) h).bind fun t=>
  some (t.1,t.2))
noncomputable def BG3:Con:={f:=179,ps:=[dI,dI,dI,.dat .bool],boxes:=[],ins:=BZ5,nin:=4,outs:=(.pair (.int .i64) (.int .i64)),rs:=[dI,dI],A2:=2,F:=fun x=>AG3 x.1 x.2.1 x.2.2.1 x.2.2.2}
theorem Bg9:A3 Tryz.prog BG3:=
 cgo (l:=[Bg2,Aq8,Bg6,Bg7,Bg8]) (o:=[]) (.mk .plain [H0,(.mk .plain [H0,(.mk .plain [H0,(.mk .plain [H0,(.mk .plain [(.mk .plain [H0,(.mk (.join (zP [46,45,48,47,44,43]) [(.normal,[⟨.cell 0 1,(.int .u64),none⟩,⟨.cell 0 0,(.int .u64),none⟩])]) [])])])])])])]) (by simp[Dc1,BG2,Dc5,Dc6,Dc7]) (by simp) Tryz.func179 rfl (by kernel_rfl) (by funext x;kernel_rfl)
noncomputable def AC2 [LP](a b c:Int):Option (Int×Int):=
 (AG3 a b c true).bind fun d=>
 some (d.1,d.2)
noncomputable def Ar4:Con:={f:=167,ps:=[dI,dI,dI],boxes:=[],ins:=(.pair (.int .i64) (.pair (.int .i64) (.int .i64))),nin:=3,outs:=(.pair (.int .i64) (.int .i64)),rs:=[dI,dI],A2:=2,F:=fun x=>AC2 x.1 x.2.1 x.2.2}
theorem BG4:A3 Tryz.prog Ar4:=
 cgo (l:=[BG3]) (o:=[]) H0 (by simp[Bg9]) (by simp) Tryz.func167 rfl (by kernel_rfl) (by funext x;kernel_rfl)
noncomputable def AN4 [LP](a:C8):Option Int:=
 (AC2 a.2.2.1 (1:Int) a.1).bind fun b=>
 some b.1
noncomputable def Bh0:Con:={f:=144,ps:=[.dat (.agg C9)],boxes:=[],ins:=(.agg C9),nin:=1,outs:=(.int .i64),rs:=[dI],A2:=1,F:=fun x=>AN4 x}
theorem Dc8:A3 Tryz.prog Bh0:=
 cgo (l:=[Ar4]) (o:=[]) H0 (by simp[BG4]) (by simp) Tryz.func144 rfl (by kernel_rfl) (by funext x;kernel_rfl)
noncomputable def AN5 [LP](a b c d e f g h i j k l m n:Int):Option X0:=
 let o:C8:=(a,(b,(c,(d,(e,(f,(g,(h,(i,(j,(k,(l,(m,n)))))))))))))
 (AN4 o).bind fun p=>
 let q:=IntKind.wrap .i64 ((3:Int)*d)
 let r:=(if q>p then q else p)
 (P0 k r (16777216:Int)).bind fun s=>
 some (s,a,b,c,d,e,f,g,h,i,j,k,l,m,n)
noncomputable def Bh1:Con:={f:=143,ps:=[.ref 0 0],boxes:=[[dI,dI,dI,dI,dI,dI,dI,dI,dI,dI,dI,dI,dI,dI]],ins:=C9,nin:=14,outs:=W9,rs:=[.dat .bool],A2:=15,F:=fun x=>let a:=x.2.2.2.2.2.2.2.2;AN5 x.1 x.2.1 x.2.2.1 x.2.2.2.1 x.2.2.2.2.1 x.2.2.2.2.2.1 x.2.2.2.2.2.2.1 x.2.2.2.2.2.2.2.1 x.2.2.2.2.2.2.2.2.1 a.2.1 a.2.2.1 a.2.2.2.1 a.2.2.2.2.1 a.2.2.2.2.2}
theorem Dc9:A3 Tryz.prog Bh1:=
 cgo (l:=[Bh0,Z8]) (o:=[]) H0 (by simp[Dc8,u7]) (by simp) Tryz.func143 rfl (by kernel_rfl) (by funext x;kernel_rfl)
noncomputable def Ar5 [LP](a b c d e f g h i j k l m n:Int):Option X0:=
 (P0 l (0:Int) (1073741824:Int)).bind fun o=>
 some (o,a,b,c,d,e,f,g,h,i,j,k,l,m,n)
noncomputable def Bh2:Con:={f:=145,ps:=[.ref 0 0],boxes:=[[dI,dI,dI,dI,dI,dI,dI,dI,dI,dI,dI,dI,dI,dI]],ins:=C9,nin:=14,outs:=W9,rs:=[.dat .bool],A2:=15,F:=fun x=>let a:=x.2.2.2.2.2.2.2.2;Ar5 x.1 x.2.1 x.2.2.1 x.2.2.2.1 x.2.2.2.2.1 x.2.2.2.2.2.1 x.2.2.2.2.2.2.1 x.2.2.2.2.2.2.2.1 x.2.2.2.2.2.2.2.2.1 a.2.1 a.2.2.1 a.2.2.2.1 a.2.2.2.2.1 a.2.2.2.2.2}
theorem Dd0:A3 Tryz.prog Bh2:=
 cgo (l:=[Z8]) (o:=[]) H0 (by simp[u7]) (by simp) Tryz.func145 rfl (by kernel_rfl) (by funext x;kernel_rfl)
noncomputable def Ar6 [LP](a b c d e f g h i j k l m n:Int):Option X0:=
 (P0 n (1:Int) (1048576:Int)).bind fun o=>
 some (o,a,b,c,d,e,f,g,h,i,j,k,l,m,n)
noncomputable def Bh3:Con:={f:=146,ps:=[.ref 0 0],boxes:=[[dI,dI,dI,dI,dI,dI,dI,dI,dI,dI,dI,dI,dI,dI]],ins:=C9,nin:=14,outs:=W9,rs:=[.dat .bool],A2:=15,F:=fun x=>let a:=x.2.2.2.2.2.2.2.2;Ar6 x.1 x.2.1 x.2.2.1 x.2.2.2.1 x.2.2.2.2.1 x.2.2.2.2.2.1 x.2.2.2.2.2.2.1 x.2.2.2.2.2.2.2.1 x.2.2.2.2.2.2.2.2.1 a.2.1 a.2.2.1 a.2.2.2.1 a.2.2.2.2.1 a.2.2.2.2.2}
theorem Dd1:A3 Tryz.prog Bh3:=
 cgo (l:=[Z8]) (o:=[]) H0 (by simp[u7]) (by simp) Tryz.func146 rfl (by kernel_rfl) (by funext x;kernel_rfl)
noncomputable def AN6 [LP](a:C8):Option (Int×Int):=
 (Ap7 a).bind fun b=>
 let pA:=b.2.2.2.2
 let pM:=pA.2.2.2.2
 (Ap9 b.1 b.2.1 b.2.2.1 b.2.2.2.1 pA.1 pA.2.1 pA.2.2.1 pA.2.2.2.1 pM.1 pM.2.1 pM.2.2.1 pM.2.2.2.1 pM.2.2.2.2.1 pM.2.2.2.2.2).bind fun c=>
 let pB:=c.2.2.2.2
 let pN:=pB.2.2.2.2
 let pY:=pN.2.2.2.2
 (bif (!c.1) then
  some ((50:Int),(1:Int))
 else
  (Aq0 c.2.1 c.2.2.1 c.2.2.2.1 pB.1 pB.2.1 pB.2.2.1 pB.2.2.2.1 pN.1 pN.2.1 pN.2.2.1 pN.2.2.2.1 pY.1 pY.2.1 pY.2.2).bind fun d=>
  let pC:=d.2.2.2.2
  let pO:=pC.2.2.2.2
  let pZ:=pO.2.2.2.2
  (bif (!d.1) then
   some ((50:Int),(2:Int))
  else
   (Aq1 d.2.1 d.2.2.1 d.2.2.2.1 pC.1 pC.2.1 pC.2.2.1 pC.2.2.2.1 pO.1 pO.2.1 pO.2.2.1 pO.2.2.2.1 pZ.1 pZ.2.1 pZ.2.2).bind fun e=>
   let pD:=e.2.2.2.2
   let pP:=pD.2.2.2.2
   let qA:=pP.2.2.2.2
   (bif (!e.1) then
    some ((50:Int),(3:Int))
   else
    (Aq2 e.2.1 e.2.2.1 e.2.2.2.1 pD.1 pD.2.1 pD.2.2.1 pD.2.2.2.1 pP.1 pP.2.1 pP.2.2.1 pP.2.2.2.1 qA.1 qA.2.1 qA.2.2).bind fun f=>
    let pE:=f.2.2.2.2
    let pQ:=pE.2.2.2.2
    let qB:=pQ.2.2.2.2
    (bif (!f.1) then
     some ((50:Int),(4:Int))
    else
     (Aq3 f.2.1 f.2.2.1 f.2.2.2.1 pE.1 pE.2.1 pE.2.2.1 pE.2.2.2.1 pQ.1 pQ.2.1 pQ.2.2.1 pQ.2.2.2.1 qB.1 qB.2.1 qB.2.2).bind fun g=>
     let pF:=g.2.2.2.2
     let pR:=pF.2.2.2.2
     let qC:=pR.2.2.2.2
     (bif (!g.1) then
      some ((50:Int),(5:Int))
     else
      (Aq4 g.2.1 g.2.2.1 g.2.2.2.1 pF.1 pF.2.1 pF.2.2.1 pF.2.2.2.1 pR.1 pR.2.1 pR.2.2.1 pR.2.2.2.1 qC.1 qC.2.1 qC.2.2).bind fun h=>
      let pG:=h.2.2.2.2
      let pS:=pG.2.2.2.2
      let qD:=pS.2.2.2.2
      (bif (!h.1) then
       some ((50:Int),(6:Int))
      else
       (Aq5 h.2.1 h.2.2.1 h.2.2.2.1 pG.1 pG.2.1 pG.2.2.1 pG.2.2.2.1 pS.1 pS.2.1 pS.2.2.1 pS.2.2.2.1 qD.1 qD.2.1 qD.2.2).bind fun i=>
       let pH:=i.2.2.2.2
       let pT:=pH.2.2.2.2
       let qE:=pT.2.2.2.2
       (bif (!i.1) then
        some ((50:Int),(7:Int))
       else
        (Aq6 i.2.1 i.2.2.1 i.2.2.2.1 pH.1 pH.2.1 pH.2.2.1 pH.2.2.2.1 pT.1 pT.2.1 pT.2.2.1 pT.2.2.2.1 qE.1 qE.2.1 qE.2.2).bind fun j=>
        let pI:=j.2.2.2.2
        let pU:=pI.2.2.2.2
        let qF:=pU.2.2.2.2
        (bif (!j.1) then
         some ((50:Int),(8:Int))
        else
         (Aq7 j.2.1 j.2.2.1 j.2.2.2.1 pI.1 pI.2.1 pI.2.2.1 pI.2.2.2.1 pU.1 pU.2.1 pU.2.2.1 pU.2.2.2.1 qF.1 qF.2.1 qF.2.2).bind fun k=>
         let pJ:=k.2.2.2.2
         let pV:=pJ.2.2.2.2
         let qG:=pV.2.2.2.2
         (bif (!k.1) then
          some ((50:Int),(9:Int))
         else
          (AN5 k.2.1 k.2.2.1 k.2.2.2.1 pJ.1 pJ.2.1 pJ.2.2.1 pJ.2.2.2.1 pV.1 pV.2.1 pV.2.2.1 pV.2.2.2.1 qG.1 qG.2.1 qG.2.2).bind fun l=>
          let pK:=l.2.2.2.2
          let pW:=pK.2.2.2.2
          let qH:=pW.2.2.2.2
          (bif (!l.1) then
           some ((50:Int),(10:Int))
          else
           (Ar5 l.2.1 l.2.2.1 l.2.2.2.1 pK.1 pK.2.1 pK.2.2.1 pK.2.2.2.1 pW.1 pW.2.1 pW.2.2.1 pW.2.2.2.1 qH.1 qH.2.1 qH.2.2).bind fun m=>
           let pL:=m.2.2.2.2
           let pX:=pL.2.2.2.2
           let qI:=pX.2.2.2.2
           (bif (!m.1) then
            some ((50:Int),(11:Int))
           else
            (Ar6 m.2.1 m.2.2.1 m.2.2.2.1 pL.1 pL.2.1 pL.2.2.1 pL.2.2.2.1 pX.1 pX.2.1 pX.2.2.1 pX.2.2.2.1 qI.1 qI.2.1 qI.2.2).bind fun n=>
            (bif (!n.1) then
             some ((50:Int),(12:Int))
            else
             some ((0:Int),(0:Int))))))))))))))
noncomputable def Bh4:Con:={f:=60,ps:=[.dat (.agg C9)],boxes:=[],ins:=(.agg C9),nin:=1,outs:=(.pair (.int .i64) (.int .i64)),rs:=[dI,dI],A2:=2,F:=fun x=>AN6 x}
theorem Dd2:A3 Tryz.prog Bh4:=
 cgo (l:=[Bf3,Bf4,Bf5,Bf6,Bf7,Bf8,Bf9,Bg0,Bg1,Bh1,Bh2,Bh3]) (o:=[Ap8]) (.mk .plain [H0,(.mk .plain [(.mk .plain [H0,(.mk .plain [(.mk (.AT0 13) [])])])])]) (by simp[Db2,Db3,Db4,Db5,Db6,Db7,Db8,Db9,Dc0,Dc9,Dd0,Dd1]) (by simp[Db1]) Tryz.func60 rfl (by kernel_rfl) (by funext x;kernel_rfl)
noncomputable def Ar7 [LP](a:C8)(b:Yd3):Option Int:=
 let c:=IntKind.wrap .i64 (b.2.2.2.1+a.2.2.2.2.2.2.2.2.1)
 let d:=IntKind.wrap .i64 (c+a.2.2.2.2.2.2.1)
 some d
noncomputable def Bh5:Con:={f:=61,ps:=[.dat (.agg C9),.dat (.agg Yt3)],boxes:=[],ins:=Ba6,nin:=2,outs:=(.int .i64),rs:=[dI],A2:=1,F:=fun x=>Ar7 x.1 x.2}
theorem Dd3:A3 Tryz.prog Bh5:=
 cgo (l:=[]) (o:=[]) H0 (by simp) (by simp) Tryz.func61 rfl (by kernel_rfl) (by funext x;kernel_rfl)
noncomputable def AG4 [LP](a:C8)(b:F0):Option (Int×Int):=
 (AN6 a).bind fun c=>
 (bif (c.1 != (0:Int)) then
  some (c.1,(0:Int))
 else
  (AG1 b).bind fun d=>
  (bif (d.1 != (0:Int)) then
   some ((51:Int),(0:Int))
  else
   Option.bind (α:=(Int×Int) ⊕ Unit) (
    LP.lp (X:=(Int×Int) ⊕ Unit) (fun (e:Int)=>
     let f:=decide (e<b.2.length)
     (bif f then
      chk none (decide (0≤e)&&decide (e<b.2.length))<|
      let g:Yd3:=(b.2.getD e.toNat ((0:Int),((0:Int),((0:Int),((0:Int),(0:Int))))))
      chk none (decide (0≤g.2.1)&&decide (g.2.1<b.1.length))<|
      let h:Yd1:=(b.1.getD g.2.1.toNat ((0:Int),([],[])))
      let i:=IntKind.wrap .i64 (h.1-g.2.2.1)
      (Ar7 a g).bind fun j=>
      let k:=decide (g.2.2.1<j)
      let l:=decide (i<j)
      let m:=(bif k then true else l)
      (bif m then
       some (.inr (.inl (e,(11:Int))))
      else
       let n:=IntKind.wrap .i64 (e+1)
       some (.inl n))
     else
      some (.inr (.inr ())))) (0:Int)) fun z=>match z with
   | .inl o=>
    let p:=o.1
    let q:=o.2
    some (q,p)
   | .inr _=>
    some ((0:Int),(0:Int))))
noncomputable def BG5:Con:={f:=33,ps:=[.dat (.agg C9),.dat (.agg E7)],boxes:=[],ins:=Ba4,nin:=2,outs:=(.pair (.int .i64) (.int .i64)),rs:=[dI,dI],A2:=2,F:=fun x=>AG4 x.1 x.2}
theorem Dd4:A3 Tryz.prog BG5:=
 cgo (l:=[Bh4,BG0,Bh5]) (o:=[]) (.mk .plain [H0,(.mk .plain [H0,(.mk .plain [H0,(.mk .plain [(.mk .plain [H0,(.mk .plain [(.mk (.loop [sI 32] (zP [36,42,39,45,48,54,51,57,5,11,35,38,41,47,44,50,53,59,56,4,10,13,34,40,37,43,46,52,49,55,58,12,33,60]) [(.ret,[sI 5,sI 4]),(.exit 0,[])]) [])])])])])])]) (by simp[Dd2,Bf2,Dd3]) (by simp) Tryz.func33 rfl (by kernel_rfl) (by funext x;kernel_rfl)
noncomputable def u9 [LP](a:Int):Option (Int×Int):=
 let b:(Int×Int):=(a,a)
 some b
noncomputable def AW5:Con:={f:=62,ps:=[dI],boxes:=[],ins:=(.int .i64),nin:=1,outs:=(.agg (.pair (.int .i64) (.int .i64))),rs:=[.dat (.agg (.pair (.int .i64) (.int .i64)))],A2:=1,F:=fun x=>u9 x}
theorem Ad0:A3 Tryz.prog AW5:=
 cgo (l:=[]) (o:=[]) H0 (by simp) (by simp) Tryz.func62 rfl (by kernel_rfl) (by funext x;kernel_rfl)
noncomputable def AG5 [LP](a b:(Int×Int)):Option (Int×Int):=
 (S0 a).bind fun c=>
 (bif (!c) then
  some b
 else
  (S0 b).bind fun d=>
  (bif (!d) then
   some a
  else
   let e:=(if b.1<a.1 then b.1 else a.1)
   let f:=(if b.2>a.2 then b.2 else a.2)
   let g:(Int×Int):=(e,f)
   some g))
noncomputable def AW6:Con:={f:=64,ps:=[.dat (.agg (.pair (.int .i64) (.int .i64))),.dat (.agg (.pair (.int .i64) (.int .i64)))],boxes:=[],ins:=V4,nin:=2,outs:=(.agg (.pair (.int .i64) (.int .i64))),rs:=[.dat (.agg (.pair (.int .i64) (.int .i64)))],A2:=1,F:=fun x=>AG5 x.1 x.2}
theorem Ad1:A3 Tryz.prog AW6:=
 cgo (l:=[u6]) (o:=[]) H0 (by simp[AC0]) (by simp) Tryz.func64 rfl (by kernel_rfl) (by funext x;kernel_rfl)
noncomputable def AG6 [LP](a:(List (Int×Int)))(b:(Int×Int)):Option ((Int×Int)×Bool):=
 Option.bind (
  LP.lp (X:=(Int×(Int×Bool))) (fun (c:BZ6)=>
   let d:=c.1
   let e:=c.2.1
   let f:=c.2.2.1
   let g:=c.2.2.2
   let h:=decide (e<a.length)
   (bif h then
    Option.bind (
     chk none (decide (0≤e)&&decide (e<a.length))<|
     let i:(Int×Int):=(a.getD e.toNat ((0:Int),(0:Int)))
     let j:=decide ((0:Int)<e)
     let k:=decide (b.2<i.1)
     let l:=(bif j then k else false)
     let m:=IntKind.wrap .i64 (e+1)
     let n:=decide (m<a.length)
     let o:=IntKind.wrap .i64 (e+1)
     chk none ((decide (0≤o)&&decide (o<a.length))|| !n)<|
     let p:(Int×Int):=(a.getD o.toNat ((0:Int),(0:Int)))
     let q:=decide (p.1<b.1)
     let r:=(bif n then q else false)
     let s:=(bif l then true else r)
     (bif !s then S0 b else some false).bind fun t=>
     let u:=(bif s then true else (!t))
     (bif u then
      some (d,f,g)
     else
      Option.bind (
       (bif (!g) then
        (u9 i.2).bind fun v=>
        some (true,v.2,v.1)
       else
        some (g,d,f))) fun w=>
      let y:=w.1
      let z:=w.2.1
      let a0:=w.2.2
      (u9 i.2).bind fun a1=>
      (AG5 (a0,z) a1).bind fun a2=>
      some (a2.2,a2.1,y))) fun a3=>
    let a4:=a3.1
    let a5:=a3.2.1
    let a6:=a3.2.2
    let a7:=IntKind.wrap .i64 (e+1)
    some (.inl (a4,a7,a5,a6))
   else
    some (.inr (d,f,g)))) ((0:Int),(0:Int),(0:Int),false)) fun a8=>
 let a9:=a8.1
 let b0:=a8.2.1
 let b1:=a8.2.2
 let b2:(Int×Int):=(b0,a9)
 some (b2,b1)
noncomputable def BG6:Con:={f:=63,ps:=[.dat (.slice (.agg (.pair (.int .i64) (.int .i64)))),.dat (.agg (.pair (.int .i64) (.int .i64)))],boxes:=[],ins:=CZ7,nin:=2,outs:=(.pair (.agg (.pair (.int .i64) (.int .i64))) .bool),rs:=[.dat (.agg (.pair (.int .i64) (.int .i64))),.dat .bool],A2:=2,F:=fun x=>AG6 x.1 x.2}
theorem Bh6:A3 Tryz.prog BG6:=
 cgo (l:=[u6,AW5,AW6]) (o:=[]) (.mk .plain [H0,(.mk .plain [H0,(.mk .plain [H0,(.mk .plain [(.mk .plain [H0,(.mk .plain [(.mk (.loop [kI 2 1,sI 14,kI 2 0,sB 7] (zP [30,36,42,39,45,48,54,51,57,60,63,8,11,17,23,20,26,29,35,32,38,41,47,44,50,53,59,56,62,10,16,19,22,28,25,31,34,40,37,43,46,52,49,55,61,58,9,15,21,18,24,27,33]) [(.exit 0,[kI 2 1,kI 2 0,sB 7])]) [(.mk .plain [H0,(.mk .plain [H0,(.mk .plain [(.mk (.join (zP [30,36,42,39,45,48,51,8,11,17,23,20,26,29,35,32,38,41,47,44,50,10,16,19,22,28,25,31,34,40,37,43,46,52,49,9,21,18,24,27,33,54,57,60,53,59,56,62,55,61,58]) [(.normal,[kI 2 1,kI 2 0,sB 7])]) [(.mk .plain [H0,(.mk .plain [H0,(.mk .plain [H0,(.mk .plain [H0,(.mk .plain [(.mk .plain [H0,(.mk (.join (zP [57,55,56]) [(.normal,[sB 7,kI 2 1,kI 2 0])]) [])])])])])])])])])])])])])])])])])]) (by simp[AC0,Ad0,Ad1]) (by simp) Tryz.func63 rfl (by kernel_rfl) (by funext x;kernel_rfl)
noncomputable def AG7 [LP](a:F0):Option (Int×Int):=
 chk none (true&&(decide ((0:Int)<(a.1.length:Int))))<|
 let b:Yd1:=(a.1.getD (0:Int).toNat ((0:Int),([],[])))
 chk none (true&&(decide ((0:Int)<(b.2.1.length:Int))))<|
 let c:(Int×Int):=(b.2.1.getD (0:Int).toNat ((0:Int),(0:Int)))
 (u9 c.2).bind fun d=>
 Option.bind (
  LP.lp (X:=(Int×Int)) (fun (e:(Int×(Int×Int)))=>
   let f:=e.1
   let g:=e.2.1
   let h:=e.2.2
   let i:=decide (g<a.1.length)
   (bif i then
    chk none (decide (0≤g)&&decide (g<a.1.length))<|
    let j:Yd1:=(a.1.getD g.toNat ((0:Int),([],[])))
    (AG6 j.2.1 ((0:Int),j.1)).bind fun k=>
    (AG5 (h,f) k.1).bind fun l=>
    let m:=IntKind.wrap .i64 (g+1)
    some (.inl (l.2,m,l.1))
   else
    some (.inr (f,h)))) (d.2,(0:Int),d.1)) fun n=>
 let o:=n.1
 let p:=n.2
 let q:(Int×Int):=(p,o)
 some q
noncomputable def BG7:Con:={f:=34,ps:=[.dat (.agg E7)],boxes:=[],ins:=(.agg E7),nin:=1,outs:=(.agg (.pair (.int .i64) (.int .i64))),rs:=[.dat (.agg (.pair (.int .i64) (.int .i64)))],A2:=1,F:=fun x=>AG7 x}
theorem Dd5:A3 Tryz.prog BG7:=
 cgo (l:=[AW5,BG6,AW6]) (o:=[]) (.mk .plain [H0,(.mk .plain [H0,(.mk .plain [(.mk .plain [H0,(.mk .plain [(.mk (.loop [kI 2 1,sI 20,kI 2 0] (zP [30,7,36,22,28,25,31,5,34,23,26,29,35,32,6,21,24,27,33]) [(.exit 0,[kI 2 1,kI 2 0])]) [])])])])])]) (by simp[Ad0,Bh6,Ad1]) (by simp) Tryz.func34 rfl (by kernel_rfl) (by funext x;kernel_rfl)
noncomputable def AG8 [LP](a:F0):Option (List Int):=
 chk none ((decide ((0:Int)≤(a.1.length:Int)))&&(decide ((a.1.length:Int)≤(a.1.length:Int)))&&(decide ((a.1.length:Int)*8≤(140737488355328:Int)))&&(decide ((a.1.length:Int)≤(140737488355328:Int))))<|
 Option.bind (
  LP.lp (X:=(List Int)) (fun (b:((List Int)×Int))=>
   let c:(List Int):=b.1
   let d:=b.2
   let e:=decide (d<a.1.length)
   (bif e then
    chk none (decide (0≤d)&&decide (d<a.1.length))<|
    let f:Yd1:=(a.1.getD d.toNat ((0:Int),([],[])))
    let g:=(decide ((0:Int)<(f.2.2.length:Int)))
    Option.bind (
     (bif g then
      chk none (decide (0≤d)&&decide (d<c.length))<|
      let h:(List Int):=(c.set d.toNat (-1:Int))
      some h
     else
      some c)) fun i=>
    let j:=IntKind.wrap .i64 (d+1)
    some (.inl (i,j))
   else
    some (.inr c))) ((List.replicate (a.1.length:Int).toNat 0),(0:Int))) fun k=>
 Option.bind (
  LP.lp (X:=(List Int)) (fun (l:(Int×(List Int)))=>
   let m:=l.1
   let n:(List Int):=l.2
   let o:=decide (m<a.1.length)
   (bif o then
    Option.bind (
     LP.lp (X:=(List Int)) (fun (p:(Int×(List Int)))=>
      let q:=p.1
      let r:(List Int):=p.2
      let s:=decide (q<a.1.length)
      (bif s then
       chk none (decide (0≤q)&&decide (q<a.1.length))<|
       let t:Yd1:=(a.1.getD q.toNat ((0:Int),([],[])))
       let u:=(t.2.2.length:Int)
       Option.bind (
        LP.lp (X:=(List Int)) (fun (v:(Int×(List Int)))=>
         let w:=v.1
         let y:(List Int):=v.2
         let z:=decide (w<u)
         (bif z then
          Option.bind (
           chk none (decide (0≤w)&&decide (w<t.2.2.length))<|
           let a0:=(t.2.2.getD w.toNat 0)
           chk none (decide (0≤a0)&&decide (a0<y.length))<|
           chk none (decide (0≤a0)&&decide (a0<a.1.length))<|
           let a1:Yd1:=(a.1.getD a0.toNat ((0:Int),([],[])))
           let a2:=(IntKind.wrap .i64 ((y.getD a0.toNat 0)+a1.1))
           chk none (decide (0≤a0)&&decide (a0<y.length))<|
           let a3:=((y.getD a0.toNat 0)!=(-1:Int))
           chk none ((decide (0≤q)&&decide (q<y.length))|| !a3)<|
           (bif a3 then
            let a4:=((y.getD q.toNat 0)==(-1:Int))
            chk none ((decide (0≤q)&&decide (q<y.length))|| !(!a4&&a3))<|
            (bif (!a4&&a3) then
             let a5:=(decide (a2<(y.getD q.toNat 0)))
             let a6:=(bif a4 then true else a5)
             let a7:=(bif a3 then a6 else false)
             Option.bind (
              (bif a7 then
               chk none (decide (0≤q)&&decide (q<y.length))<|
               let a8:(List Int):=(y.set q.toNat a2)
               some a8
              else
               some y)) fun a9=>
             some a9
            else
             let b0:=(decide (a2<(y.getD q.toNat 0)))
             let b1:=(bif a4 then true else b0)
             let b2:=(bif a3 then b1 else false)
             Option.bind (
              (bif b2 then
               chk none (decide (0≤q)&&decide (q<y.length))<|
               let b3:(List Int):=(y.set q.toNat a2)
               some b3
              else
               some y)) fun b4=>
             some b4)
           else
            let b5:=((y.getD q.toNat 0)==(-1:Int))
            chk none ((decide (0≤q)&&decide (q<y.length))|| !(!b5&&a3))<|
            (bif (!b5&&a3) then
             let b6:=(decide (a2<(y.getD q.toNat 0)))
             let b7:=(bif b5 then true else b6)
             let b8:=(bif a3 then b7 else false)
             Option.bind (
              (bif b8 then
               chk none (decide (0≤q)&&decide (q<y.length))<|
               let b9:(List Int):=(y.set q.toNat a2)
               some b9
              else
               some y)) fun c0=>
             some c0
            else
             let c1:=(decide (a2<(y.getD q.toNat 0)))
             let c2:=(bif b5 then true else c1)
             let c3:=(bif a3 then c2 else false)
             Option.bind (
              (bif c3 then
               chk none (decide (0≤q)&&decide (q<y.length))<|
               let c4:(List Int):=(y.set q.toNat a2)
               some c4
              else
               some y)) fun c5=>
             some c5))) fun c6=>
          let c7:=IntKind.wrap .i64 (w+1)
          some (.inl (c7,c6))
         else
          some (.inr y))) ((0:Int),r)) fun c8=>
       let c9:=IntKind.wrap .i64 (q+1)
       some (.inl (c9,c8))
      else
       some (.inr r))) ((0:Int),n)) fun d0=>
    let d1:=IntKind.wrap .i64 (m+1)
    some (.inl (d1,d0))
   else
    some (.inr n))) ((0:Int),k)) fun d2=>
 some d2
noncomputable def BG8:Con:={f:=35,ps:=[.dat (.agg E7)],boxes:=[],ins:=(.agg E7),nin:=1,outs:=(.slice (.int .i64)),rs:=[.dat (.slice (.int .i64))],A2:=1,F:=fun x=>AG8 x}
theorem Dd6:A3 Tryz.prog BG8:=
 cgo (l:=[]) (o:=[]) (.mk .plain [H0,(.mk .plain [H0,(.mk .plain [(.mk .plain [H0,(.mk .plain [(.mk (.loop [⟨.slot 3,(.slice (.int .i64)),some 1475002⟩,sI 18] (zP [30,4,19,22,28,25,5,14,23,20,26,29,21,24,27]) [(.exit 0,[⟨.slot 3,(.slice (.int .i64)),some 1475002⟩])]) [(.mk .plain [H0,(.mk .plain [H0,(.mk .plain [(.mk .plain [(.mk .plain [H0,(.mk .plain [H0,(.mk (.join (zP [14,29,27,28]) [(.normal,[⟨.slot 3,(.slice (.int .i64)),some 1475002⟩])]) [])])])])])])])])])]),(.mk .plain [(.mk .plain [H0,(.mk .plain [(.mk (.loop [sI 34,⟨.slot 3,(.slice (.int .i64)),some 1475002⟩] (zP [36,42,39,45,48,54,51,57,60,66,63,69,72,78,75,81,87,84,35,38,41,47,44,50,53,59,56,62,68,7,65,71,10,74,80,77,83,86,40,37,43,46,52,49,55,61,58,64,9,67,73,6,70,76,79,85,82,88]) [(.exit 2,[⟨.slot 3,(.slice (.int .i64)),some 1475002⟩])]) [(.mk .plain [H0,(.mk .plain [H0,(.mk .plain [(.mk .plain [(.mk .plain [H0,(.mk .plain [(.mk (.loop [sI 39,⟨.slot 3,(.slice (.int .i64)),some 1475002⟩] (zP [42,45,48,54,51,57,60,66,63,69,72,78,75,81,87,84,41,47,44,50,53,59,56,62,68,7,65,71,10,74,80,77,83,86,40,43,46,52,49,55,61,58,64,9,67,73,6,70,76,79,85,82]) [(.exit 4,[⟨.slot 3,(.slice (.int .i64)),some 1475002⟩])]) [(.mk .plain [H0,(.mk .plain [H0,(.mk .plain [(.mk .plain [(.mk .plain [H0,(.mk .plain [H0,(.mk .plain [(.mk (.loop [sI 47,⟨.slot 3,(.slice (.int .i64)),some 1475002⟩] (zP [48,54,51,57,60,66,63,69,72,78,75,81,84,50,53,59,56,62,68,65,71,10,74,80,77,83,86,52,49,55,61,58,64,9,67,73,70,76,79,85,82]) [(.exit 6,[⟨.slot 3,(.slice (.int .i64)),some 1475002⟩])]) [(.mk .plain [H0,(.mk .plain [H0,(.mk .plain [(.mk (.join (zP [54,51,57,60,66,63,69,72,78,75,81,84,50,53,59,56,62,68,65,71,10,74,80,77,83,52,49,55,61,58,64,9,67,73,70,76,79,85,82]) [(.normal,[⟨.slot 3,(.slice (.int .i64)),some 1475002⟩])]) [(.mk .plain [H0,(.mk .plain [H0,(.mk .plain [H0,(.mk (.join (zP [84,64,83,51,85,53,82,62]) [(.normal,[⟨.slot 3,(.slice (.int .i64)),some 1475002⟩])]) [])])])])])])])])])])])])])])])])])])])])])])])])])])])])])]) (by simp) (by simp) Tryz.func35 rfl (by kernel_rfl) (by funext x;kernel_rfl)
noncomputable def AN7 [LP](a:C8):Option (Int×Int):=
 let b:(Int×Int):=(a.2.1,a.2.2.1)
 some b
noncomputable def BG9:Con:={f:=36,ps:=[.dat (.agg C9)],boxes:=[],ins:=(.agg C9),nin:=1,outs:=(.agg (.pair (.int .i64) (.int .i64))),rs:=[.dat (.agg (.pair (.int .i64) (.int .i64)))],A2:=1,F:=fun x=>AN7 x}
theorem Dd7:A3 Tryz.prog BG9:=
 cgo (l:=[]) (o:=[]) H0 (by simp) (by simp) Tryz.func36 rfl (by kernel_rfl) (by funext x;kernel_rfl)
noncomputable def AW7 [LP](a:C8):Option (Int×Int):=
 let b:=IntKind.wrap .i64 (0-a.2.2.2.2.2.2.1)
 let c:(Int×Int):=(b,a.2.2.2.2.2.2.1)
 some c
noncomputable def Ar8:Con:={f:=37,ps:=[.dat (.agg C9)],boxes:=[],ins:=(.agg C9),nin:=1,outs:=(.agg (.pair (.int .i64) (.int .i64))),rs:=[.dat (.agg (.pair (.int .i64) (.int .i64)))],A2:=1,F:=fun x=>AW7 x}
theorem Bh7:A3 Tryz.prog Ar8:=
 cgo (l:=[]) (o:=[]) H0 (by simp) (by simp) Tryz.func37 rfl (by kernel_rfl) (by funext x;kernel_rfl)
noncomputable def AN8 [LP](a:C8)(b:(List Int)):Option AB9:=
 let pA:=a.2.2.2.2
 let pB:=pA.2.2.2.2
 (AG2 b).bind fun c=>
 Option.bind (
  (bif (c.2==(0:Int)) then
   (AG4 a c.1).bind fun d=>
   some d.1
  else
   some c.2)) fun e=>
 (bif (e != (0:Int)) then
  some ((0:Int),(0:Int),(0:Int),(0:Int),(0:Int),(0:Int),(0:Int),(0:Int),(0:Int),(0:Int),(0:Int),(0:Int),(0:Int),(0:Int),[],[],true,(0:Int),(0:Int),(0:Int),[],false,(0:Int),(0:Int),false,(0:Int),(0:Int),(0:Int),(0:Int),(0:Int),(0:Int),(0:Int),(0:Int),(0:Int),false,(0:Int),(0:Int),(0:Int),(0:Int),(0:Int),[],false,(0:Int),(0:Int),(0:Int),(0:Int),(0:Int),false,false,false,(0:Int),(0:Int),(0:Int),(0:Int),false)
 else
  (AG7 c.1).bind fun f=>
  (AG8 c.1).bind fun g=>
  (AN7 a).bind fun h=>
  (AN7 a).bind fun i=>
  (AW7 a).bind fun j=>
  some (a.1,a.2.1,a.2.2.1,a.2.2.2.1,pA.1,pA.2.1,pA.2.2.1,pA.2.2.2.1,pB.1,pB.2.1,pB.2.2.1,pB.2.2.2.1,pB.2.2.2.2.1,pB.2.2.2.2.2,c.1.1,c.1.2,false,(0:Int),f.1,f.2,g,false,(0:Int),(0:Int),false,(0:Int),(0:Int),(h,i).1.1,(h,i).1.2,(h,i).2.1,(h,i).2.2,j.1,j.2,(0:Int),false,(0:Int),(0:Int),(0:Int),(0:Int),(0:Int),[],false,(0:Int),(0:Int),(0:Int),(0:Int),(0:Int),false,false,false,(0:Int),(0:Int),(0:Int),(0:Int),false))
noncomputable def Ad2:J0:={f:=23,ps:=[.dat (.agg C9),.dat (.slice (.int .u8))],ins:=Cj6,nin:=2,outs:=V6,rs:=[.ref 0 0],new:=[dI,dI,dI,dI,dI,dI,dI,dI,dI,dI,dI,dI,dI,dI,.dat (.slice (.agg Yt1)),.dat (.slice (.agg Yt3)),.dat .bool,dI,dI,dI,.dat (.slice (.int .i64)),.dat .bool,.dat (.int .u16),dI,.dat .bool,.dat (.int .u16),dI,dI,dI,dI,dI,dI,dI,dI,.dat .bool,dI,dI,dI,dI,dI,.dat (.slice (.agg I4)),.dat .bool,dI,dI,dI,dI,dI,.dat .bool,.dat .bool,.dat .bool,dI,dI,dI,dI,.dat .bool],A2:=55,F:=fun x=>AN8 x.1 x.2}
def Dd8:Hint:=(.mk .plain [H0,(.mk .plain [H0,(.mk .plain [(.mk .plain [H0,(.mk (.join (zP [15,16,18,17,19,14]) [(.normal,[sI 6])]) [])])])])])
theorem Dd9:runN ⟨R7 tys,[BG1,BG5,BG7,BG8,BG9,Ar8],[],[],[]⟩ Ad2 Tryz.f23 Dd8=Ad2.F:=by
 funext x
 kernel_rfl
theorem De0:NOK Tryz.prog Ad2:=
 BY6 (Γ:=⟨R7 tys,[BG1,BG5,BG7,BG8,BG9,Ar8],[],[],[]⟩) ⟨fun T d h=>AL3 tys AW0 T d h,by simp[Da8,Dd4,Dd5,Dd6,Dd7,Bh7],by simp[],by simp[],AU1 Tryz.prog [] (by kernel_rfl)⟩ (by kernel_rfl) Tryz.func23 rfl (by kernel_rfl) Dd9
noncomputable def Ar9 [LP](a:Int):Option Int:=
 Option.bind (
  (bif (a==(1:Int)) then
   some (a==(1:Int))
  else
   Option.bind (
    (bif (a==(2:Int)) then
     some (a==(2:Int))
    else
     some (a==(5:Int)))) fun b=>
   some b)) fun c=>
 (bif c then
  some (2:Int)
 else
  Option.bind (
   (bif (a==(3:Int)) then
    some (a==(3:Int))
   else
    some (a==(4:Int)))) fun d=>
  (bif d then
   some (4:Int)
  else
   some (0:Int)))
noncomputable def Bh8:Con:={f:=147,ps:=[dI],boxes:=[],ins:=(.int .i64),nin:=1,outs:=(.int .i64),rs:=[dI],A2:=1,F:=fun x=>Ar9 x}
theorem De1:A3 Tryz.prog Bh8:=
 cgo (l:=[]) (o:=[]) (.mk .plain [H0,(.mk .plain [(.mk .plain [H0,(.mk .plain [(.mk .plain [(.mk .plain [H0,(.mk (.join [(0,7),(0,6)] [(.normal,[sB 4])]) [H0,(.mk .plain [H0,(.mk (.join [(0,7)] [(.normal,[sB 4])]) [])])])]),(.mk .plain [H0,(.mk .plain [(.mk .plain [H0,(.mk (.join [(0,10)] [(.normal,[sB 8])]) [])])])])])])])])]) (by simp) (by simp) Tryz.func147 rfl (by kernel_rfl) (by funext x;kernel_rfl)
noncomputable def BH0 [LP](a:Int):Option Bool:=
 let b:=(bif (a==(3:Int)) then true else (a==(4:Int)))
 some b
noncomputable def Bh9:Con:={f:=148,ps:=[dI],boxes:=[],ins:=(.int .i64),nin:=1,outs:=.bool,rs:=[.dat .bool],A2:=1,F:=fun x=>BH0 x}
theorem De2:A3 Tryz.prog Bh9:=
 cgo (l:=[]) (o:=[]) H0 (by simp) (by simp) Tryz.func148 rfl (by kernel_rfl) (by funext x;kernel_rfl)
noncomputable def AN9 [LP](a:(List Int)):Option Cj8:=
 let b:=(decide ((a.length:Int)<(5:Int)))
 (bif b then
  let c:(Int×(Int×Int)):=((0:Int),((0:Int),(0:Int)))
  some (c,(14:Int))
 else
  chk none (true&&(decide ((0:Int)<(a.length:Int))))<|
  let d:=(a.getD (0:Int).toNat 0)
  let e:=(IntKind.wrap .i64 d)
  (Ar9 e).bind fun f=>
  (bif (f==(0:Int)) then
   let g:(Int×(Int×Int)):=((0:Int),((0:Int),(0:Int)))
   some (g,(30:Int))
  else
   chk none (true&&(decide ((2:Int)<(a.length:Int))))<|
   let h:=(a.getD (2:Int).toNat 0)
   let i:=(IntKind.wrap .i64 h)
   let j:=IntKind.wrap .i64 ((3:Int)+f)
   let k:=IntKind.wrap .i64 (j+2)
   let l:=((a.length:Int)!=k)
   let m:=(bif (i != f) then true else l)
   (bif m then
    let n:(Int×(Int×Int)):=((0:Int),((0:Int),(0:Int)))
    some (n,(11:Int))
   else
    (AG0 a).bind fun o=>
    (bif (o != (0:Int)) then
     let p:(Int×(Int×Int)):=((0:Int),((0:Int),(0:Int)))
     some (p,(31:Int))
    else
     let q:=IntKind.wrap .i64 ((3:Int)+f)
     chk none (true&&(decide ((3:Int)≤q))&&(decide (q≤(a.length:Int))))<|
     let r:(List Int):=((a.take q.toNat).drop (3:Int).toNat)
     Option.bind (
      LP.lp (X:=Int) (fun (s:(Int×Int))=>
       let t:=s.1
       let u:=s.2
       let v:=decide (u<r.length)
       (bif v then
        chk none (decide (0≤u)&&decide (u<r.length))<|
        let w:=(r.getD u.toNat 0)
        let y:=IntKind.wrap .u32 (t*2 ^ 8)
        let z:=(IntKind.wrap .u32 w)
        let a0:=(bits .u32 .or y z)
        let a1:=IntKind.wrap .i64 (u+1)
        some (.inl (a0,a1))
       else
        some (.inr t))) ((0:Int),(0:Int))) fun a2=>
     chk none (true&&(decide ((1:Int)<(a.length:Int))))<|
     let a3:=(a.getD (1:Int).toNat 0)
     let a4:=(IntKind.wrap .i64 a3)
     let a5:(Int×(Int×Int)):=(e,(a4,(IntKind.wrap .i64 a2)))
     (BH0 e).bind fun a6=>
     Option.bind (
      (bif a6 then
       let a7:=IntKind.wrap .i64 (IntKind.wrap .i32 a2)
       some a7
      else
       some a5.2.2)) fun a8=>
     let a9:(Int×(Int×Int)):=(a5.1,(a5.2.1,a8))
     some (a9,(0:Int))))))
noncomputable def Bi0:Con:={f:=98,ps:=[.dat (.slice (.int .u8))],boxes:=[],ins:=(.slice (.int .u8)),nin:=1,outs:=Cj7,rs:=[.dat (.agg (.pair (.int .i64) (.pair (.int .i64) (.int .i64)))),dI],A2:=2,F:=fun x=>AN9 x}
theorem De3:A3 Tryz.prog Bi0:=
 cgo (l:=[Bh8,BF8,Bh9]) (o:=[]) (.mk .plain [H0,(.mk .plain [H0,(.mk .plain [H0,(.mk .plain [H0,(.mk .plain [H0,(.mk .plain [H0,(.mk .plain [(.mk .plain [H0,(.mk .plain [(.mk (.loop [⟨.slot 6,(.int .u32),none⟩,sI 50] (zP [52,55,58,54,57,51,53,59,56,8]) [(.exit 1,[⟨.slot 6,(.int .u32),none⟩])]) [])])]),(.mk .plain [H0,(.mk .plain [(.mk .plain [H0,(.mk (.join (zP [70,71,72,73]) [(.normal,[kI 1 2])]) [])])])])])])])])])])]) (by simp[De1,Bd9,De2]) (by simp) Tryz.func98 rfl (by kernel_rfl) (by funext x;kernel_rfl)
end Go.Proofs.YthfjpkdadjemcaaGreat
