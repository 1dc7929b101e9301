/- The functional reading of the code (printed). -/
import Derived.Test.YthfjpkdadjemcaaGreatTysF
import Derived.Test.YthfjpkdadjemcaaGreatFnsF0
set_option linter.unusedSimpArgs false
set_option linter.unusedVariables false
namespace Go.Proofs.YthfjpkdadjemcaaGreat
open Go
open Go.IntKind renaming wrap → FD9
open _root_.List renaming replicate → FE0
abbrev dI:PT:=.dat tI
abbrev oI:OP:=.dat tI
theorem cgo {l:List Con}{o:List J1}{c:Con}{fn:Func}{code:Code}(h:Hint)(h1:∀k∈l,M4 Tryz.prog k)(h2:∀k∈o,NOK Tryz.prog k)(hf:Tryz.prog.funcs[c.f]? = some fn)(hb:fn.body=some code)(hn:(fn.name == "runtime.NumGoroutine")=false)(hr:AC1 ⟨N8 tys,l,o,[],[]⟩ c fn h=c.F):M4 Tryz.prog c:=
 BK7 (Γ:=⟨N8 tys,l,o,[],[]⟩) ⟨fun T d h=>AF4 tys AL2 T d h,h1,h2,by simp[],AK4 Tryz.prog [] (by kernel_rfl)⟩ (by kernel_rfl) hf hb hn hr
theorem cgp {l:List Con}{c:Con}{fn:Func}{code:Code}(h:Hint)(h1:∀k∈l,M4 Tryz.prog k)(hf:Tryz.prog.funcs[c.f]? = some fn)(hb:fn.body=some code:=by rfl)(hn:(fn.name == "runtime.NumGoroutine")=false:=by kernel_rfl)(hr:AC1 ⟨N8 tys,l,[],[],[]⟩ c fn h=c.F:=by funext x;kernel_rfl):M4 Tryz.prog c:=cgo h h1 (by simp) hf hb hn hr
abbrev KO (c:Con):=M4 Tryz.prog c
abbrev sI (n:Nat):It:=⟨.slot n,.int .i64,none⟩
abbrev sB (n:Nat):It:=⟨.slot n,.bool,none⟩
abbrev kI (b n:Nat):It:=⟨.cell b n,.int .i64,none⟩
abbrev kB (b n:Nat):It:=⟨.cell b n,.bool,none⟩
abbrev zP (l:List Nat):List Pl:=l.map fun n=>(0,n)
noncomputable def S5 [LP](a:AL0)(b:K7)(c:G9):Option Int:=
 let d:=FD9 .i64 (0-a.1)
 (Aa7 c).bind fun e=>
 Option.bind (
  LP.lp (X:=Int) (fun (f:(Int×Int))=>
   let g:=f.1
   let h:=f.2
   let i:=decide (h<e.length)
   (bif i then
    chk none (decide (0≤h)&&decide (h<e.length))<|
    let j:=(e.getD h.toNat 0)
    chk none (decide (0≤j)&&decide (j<b.1.length))<|
    let k:Yd1:=(b.1.getD j.toNat ((0:Int),([],[])))
    let l:=FD9 .i64 (g+k.1)
    let m:=FD9 .i64 (h+1)
    some (.inl (l,m))
   else
    some (.inr g))) (d,(0:Int))) fun n=>
 some n
noncomputable def Aw6:Con:={f:=129,ps:=[.dat (.agg V5),.dat (.agg E1),.dat (.agg H8)],boxes:=[],ins:=Cj6,nin:=3,outs:=tI,rs:=[dI],A2:=1,F:=fun x=>S5 x.1 x.2.1 x.2.2}
theorem BM0:KO Aw6:=
 cgp (l:=[Aj4]) (.mk .plain [H0,(.mk .plain [H0,(.mk .plain [(.mk .plain [H0,(.mk .plain [(.mk (.loop [sI 7,sI 16] (zP [23,20,26,19,9,22,28,25,21,18,24,27,17]) [(.exit 0,[sI 7])]) [])])])])])]) (by simp[BL9]) Tryz.func129
noncomputable def Q7 [LP](a:(Int×Int)):Option Bool:=
 some (decide (a.1≤a.2))
noncomputable def AC6:Con:={f:=28,ps:=[.dat (.agg (.pair tI tI))],boxes:=[],ins:=(.agg (.pair tI tI)),nin:=1,outs:=.bool,rs:=[.dat .bool],A2:=1,F:=fun x=>Q7 x}
theorem AF8:KO AC6:=
 cgp (l:=[]) H0 (by simp) Tryz.func28
noncomputable def Aj5 [LP](a:K7)(b:(List ((List (List Int))×Bool))):Option Bool:=
 let c:=(decide ((50:Int)<(a.1.length:Int)))
 let d:=(decide ((60:Int)<(a.2.length:Int)))
 let e:=(bif c then true else d)
 let f:=(decide ((120:Int)<(b.length:Int)))
 let g:=(bif e then true else f)
 (bif g then
  some false
 else
  Option.bind (α:=Bool ⊕ Unit) (
   LP.lp (X:=Bool ⊕ Unit) (fun (h:Int)=>
    let i:=decide (h<a.1.length)
    (bif i then
     chk none (decide (0≤h)&&decide (h<a.1.length))<|
     let j:Yd1:=(a.1.getD h.toNat ((0:Int),([],[])))
     let k:=(decide ((70:Int)<(j.2.1.length:Int)))
     chk none ((decide (0≤h)&&decide (h<a.1.length))|| !(!k))<|
     let l:Yd1:=(a.1.getD h.toNat ((0:Int),([],[])))
     let m:=(decide ((3:Int)<(l.2.2.length:Int)))
     let n:=(bif k then true else m)
     (bif n then
      some (.inr (.inl false))
     else
      let o:=FD9 .i64 (h+1)
      some (.inl o))
    else
     some (.inr (.inr ())))) (0:Int)) fun z=>match z with
  | .inl p=>
   some p
  | .inr _=>
   Option.bind (α:=Bool ⊕ Unit) (
    LP.lp (X:=Bool ⊕ Unit) (fun (q:Int)=>
     let r:=decide (q<b.length)
     (bif r then
      chk none (decide (0≤q)&&decide (q<b.length))<|
      let s:((List (List Int))×Bool):=(b.getD q.toNat ([],false))
      let t:=(decide ((40:Int)<(s.1.length:Int)))
      (bif t then
       some (.inr (.inl false))
      else
       chk none (decide (0≤q)&&decide (q<b.length))<|
       let u:((List (List Int))×Bool):=(b.getD q.toNat ([],false))
       Option.bind (α:=Bool ⊕ Unit) (
        LP.lp (X:=Bool ⊕ Unit) (fun (v:Int)=>
         let w:=decide (v<u.1.length)
         (bif w then
          chk none (decide (0≤v)&&decide (v<u.1.length))<|
          let y:(List Int):=(u.1.getD v.toNat [])
          let a0:=(decide ((200:Int)<(y.length:Int)))
          (bif a0 then
           some (.inr (.inl false))
          else
           let a1:=FD9 .i64 (v+1)
           some (.inl a1))
         else
          some (.inr (.inr ())))) (0:Int)) fun z=>match z with
       | .inl a2=>
        some (.inr (.inl a2))
       | .inr _=>
        let a3:=FD9 .i64 (q+1)
        some (.inl a3))
     else
      some (.inr (.inr ())))) (0:Int)) fun z=>match z with
   | .inl a4=>
    some a4
   | .inr _=>
    some true)
noncomputable def BM1:Con:={f:=9,ps:=[.dat (.agg E1),.dat (.slice (.agg (.pair (.slice (.slice (.int .u8))) .bool)))],boxes:=[],ins:=Bi2,nin:=2,outs:=.bool,rs:=[.dat .bool],A2:=1,F:=fun x=>Aj5 x.1 x.2}
theorem Dl5:KO BM1:=
 cgp (l:=[]) (.mk .plain [H0,(.mk .plain [H0,(.mk .plain [(.mk .plain [H0,(.mk .plain [(.mk (.loop [sI 27] (zP [30,36,42,4,39,45,28,31,5,34,40,37,43,46,29,35,32,38,41,47,44,33,48]) [(.ret,[sB 4]),(.exit 0,[])]) [])])]),(.mk .plain [(.mk .plain [H0,(.mk .plain [(.mk (.loop [sI 51] (zP [52,4,55,58,54,6,57,60,53,59,56,68,65,71,74,66,63,69,8,72,61,64,67,73,70,62,75]) [(.ret,[sB 4]),(.exit 2,[])]) [(.mk .plain [H0,(.mk .plain [H0,(.mk .plain [(.mk .plain [(.mk .plain [H0,(.mk .plain [H0,(.mk .plain [H0,(.mk .plain [(.mk (.loop [sI 67] (zP [68,70,4,71,69,8,72,73,74]) [(.ret,[sB 4]),(.exit 4,[])]) [])])])])])])])])])])])])])])])]) (by simp) Tryz.func9
noncomputable def Aw7 [LP](a:Int):Option Int:=
 let b:BL0:=((0:Int),((2:Int),((2:Int),((4:Int),((4:Int),(2:Int))))))
 let c:=decide (a<(1:Int))
 let d:=decide ((5:Int)<a)
 let e:=(bif c then true else d)
 (bif e then
  some (0:Int)
 else
  chk none ((decide ((0:Int)≤a))&&(decide (a<(6:Int))))<|
  let f:=(List.getD [b.1,b.2.1,b.2.2.1,b.2.2.2.1,b.2.2.2.2.1,b.2.2.2.2.2] a.toNat 0)
  some f)
noncomputable def Bk5:Con:={f:=19,ps:=[dI],boxes:=[],ins:=tI,nin:=1,outs:=tI,rs:=[dI],A2:=1,F:=fun x=>Aw7 x}
theorem Dl6:KO Bk5:=
 cgp (l:=[]) H0 (by simp) Tryz.func19
noncomputable def AR6 [LP](a b:Int):Option Int:=
 Option.bind (
  LP.lp (X:=Int) (fun (c:(Int×(Int×Int)))=>
   let d:=c.1
   let e:=c.2.1
   let f:=c.2.2
   let g:=decide (d<(16:Int))
   (bif g then
    chk none (!(f==(0:Int)))<|
    let h:=FD9 .i64 (a.tdiv f)
    chk none (!(f==(0:Int)))<|
    let i:=FD9 .i64 (b.tdiv f)
    let j:=((h.tmod (2:Int))!=(i.tmod (2:Int)))
    Option.bind (
     (bif j then
      let k:=FD9 .i64 (e+f)
      some k
     else
      some e)) fun l=>
    let m:=FD9 .i64 ((2:Int)*f)
    let n:=FD9 .i64 (d+1)
    some (.inl (n,l,m))
   else
    some (.inr e))) ((0:Int),(0:Int),(1:Int))) fun o=>
 some o
noncomputable def Bk6:Con:={f:=29,ps:=[dI,dI],boxes:=[],ins:=(.pair tI tI),nin:=2,outs:=tI,rs:=[dI],A2:=1,F:=fun x=>AR6 x.1 x.2}
theorem Dl7:KO Bk6:=
 cgp (l:=[]) (.mk .plain [H0,(.mk .plain [H0,(.mk .plain [H0,(.mk .plain [(.mk .plain [H0,(.mk .plain [(.mk (.loop [sI 7,sI 5,sI 6] (zP [10,16,13,19,22,25,8,14,11,17,23,20,9,12,15,21,18,24]) [(.exit 0,[sI 5])]) [(.mk .plain [H0,(.mk .plain [(.mk .plain [(.mk .plain [(.mk .plain [H0,(.mk (.join (zP [23,21,22]) [(.normal,[sI 5])]) [])])])])])])])])])])])])]) (by simp) Tryz.func29
noncomputable def AF9 [LP](a:(List Int)):Option Int:=
 let b:=(FD9 .i64 ((8:Int)*(a.length:Int)))
 let c:=FD9 .i64 (b+16)
 Option.bind (
  LP.lp (X:=Int) (fun (d:(Int×Int))=>
   let e:=d.1
   let f:=d.2
   (bif (decide (e<c)) then
    let g:=(FD9 .i64 ((8:Int)*(a.length:Int)))
    Option.bind (
     (bif (decide (e<g)) then
      let h:=FD9 .i64 (e.tdiv (8:Int))
      chk none (decide (0≤h)&&decide (h<a.length))<|
      let i:=(a.getD h.toNat 0)
      let j:=(FD9 .i64 ((7:Int)-(e.tmod (8:Int))))
      let k:=(FD9 .u64 j)
      chk none (decide ((0:Int)≤k))<|
      let l:=(i.fdiv (2 ^ (min k.toNat 8)))
      let m:=(FD9 .i64 l)
      some (m.tmod (2:Int))
     else
      some (0:Int))) fun n=>
    let o:=decide (e<(16:Int))
    Option.bind (
     (bif o then
      let p:=FD9 .i64 ((1:Int)-n)
      some p
     else
      some n)) fun q=>
    let r:=FD9 .i64 ((2:Int)*f)
    let s:=FD9 .i64 (r+q)
    let t:=decide ((65536:Int)≤s)
    Option.bind (
     (bif t then
      let u:=FD9 .i64 (s-65536)
      (AR6 u (4129:Int)).bind fun v=>
      some v
     else
      some s)) fun w=>
    let y:=FD9 .i64 (e+1)
    some (.inl (y,w))
   else
    some (.inr f))) ((0:Int),(0:Int))) fun a0=>
 some a0
noncomputable def BM2:Con:={f:=20,ps:=[.dat (.slice (.int .u8))],boxes:=[],ins:=(.slice (.int .u8)),nin:=1,outs:=tI,rs:=[dI],A2:=1,F:=fun x=>AF9 x}
theorem Bk7:KO BM2:=
 cgp (l:=[Bk6]) (.mk .plain [H0,(.mk .plain [H0,(.mk .plain [H0,(.mk .plain [(.mk .plain [H0,(.mk .plain [(.mk (.loop [sI 5,sI 4] (zP [30,36,42,39,45,14,11,17,23,20,26,29,35,32,38,41,44,16,13,19,22,28,25,31,34,40,37,43,46,6,12,15,21,18,24,27,33]) [(.exit 0,[sI 4])]) [(.mk .plain [H0,(.mk .plain [(.mk .plain [(.mk .plain [H0,(.mk .plain [(.mk .plain [H0,(.mk (.join (zP [23,30,26,29,32,22,28,25,31,21,24,27]) [(.normal,[sI 6])]) [])]),(.mk .plain [(.mk .plain [H0,(.mk (.join [(0,35),(0,36)] [(.normal,[sI 6])]) [])]),(.mk .plain [H0,(.mk .plain [H0,(.mk (.join (zP [46,44,45,43]) [(.normal,[sI 4])]) [])])])])])])])])])])])])])])])]) (by simp[Dl7]) Tryz.func20
noncomputable def Q8 [LP](a:(Int×(Int×Int))):Option ((List Int)×Int):=
 (Aw7 a.1).bind fun b=>
 (bif (b==(0:Int)) then
  some ([],(30:Int))
 else
  Option.bind (
   (bif (b==(4:Int)) then
    some ((-2147483648:Int),(2147483647:Int))
   else
    some ((0:Int),(65535:Int)))) fun c=>
  let d:=c.1
  let e:=c.2
  let f:=decide (a.2.1<(0:Int))
  let g:=decide ((255:Int)<a.2.1)
  let h:=(bif f then true else g)
  let i:=decide (a.2.2<d)
  let j:=(bif h then true else i)
  let k:=decide (e<a.2.2)
  let l:=(bif j then true else k)
  (bif l then
   some ([],(10:Int))
  else
   let m:=decide (a.2.2<(0:Int))
   Option.bind (
    (bif m then
     let n:=FD9 .i64 (a.2.2+4294967296)
     some n
    else
     some a.2.2)) fun o=>
   let p:=(FD9 .u8 a.2.1)
   Option.bind (
    (bif (b==(4:Int)) then
     let q:=FD9 .i64 (o.tdiv (16777216:Int))
     let r:=(FD9 .u8 q)
     let s:=FD9 .i64 (o.tdiv (65536:Int))
     let t:=(s.tmod (256:Int))
     let u:=(FD9 .u8 t)
     chk none (decide ((([(FD9 .u8 a.1),p,(FD9 .u8 b)]:List Int).length+([r,u]:List Int).length)*1≤140737488355328))<|
     let v:(List Int):=(([(FD9 .u8 a.1),p,(FD9 .u8 b)]:List Int)++([r,u]:List Int))
     some v
    else
     some ([(FD9 .u8 a.1),p,(FD9 .u8 b)]:List Int))) fun w=>
   let y:=FD9 .i64 (o.tdiv (256:Int))
   let a0:=(y.tmod (256:Int))
   let a1:=(FD9 .u8 a0)
   let a2:=FD9 .u8 (o.tmod (256:Int))
   chk none (decide ((w.length+([a1,a2]:List Int).length)*1≤140737488355328))<|
   let a3:(List Int):=(w++([a1,a2]:List Int))
   (AF9 a3).bind fun a4=>
   let a5:=FD9 .i64 (a4.tdiv (256:Int))
   let a6:=(FD9 .u8 a5)
   let a7:=(a4.tmod (256:Int))
   let a8:=(FD9 .u8 a7)
   chk none (decide ((a3.length+([a6,a8]:List Int).length)*1≤140737488355328))<|
   let a9:(List Int):=(a3++([a6,a8]:List Int))
   some (a9,(0:Int))))
noncomputable def Bk8:Con:={f:=11,ps:=[.dat (.agg (.pair tI (.pair tI tI)))],boxes:=[],ins:=(.agg (.pair tI (.pair tI tI))),nin:=1,outs:=(.pair (.slice (.int .u8)) tI),rs:=[.dat (.slice (.int .u8)),dI],A2:=2,F:=fun x=>Q8 x}
theorem Dl8:KO Bk8:=
 cgp (l:=[Bk5,BM2]) (.mk .plain [H0,(.mk .plain [H0,(.mk .plain [H0,(.mk .plain [H0,(.mk .plain [H0,(.mk .plain [(.mk .plain [H0,(.mk (.join [] [(.normal,[sI 5,sI 6])]) [])]),(.mk .plain [H0,(.mk .plain [H0,(.mk .plain [(.mk .plain [H0,(.mk (.join [(0,41),(0,42)] [(.normal,[sI 7])]) [])]),(.mk .plain [H0,(.mk .plain [(.mk .plain [H0,(.mk (.join (zP [55,61,58,54,51,57,60,63,59,56,62]) [(.normal,[⟨.slot 8,(.slice (.int .u8)),some 900000005⟩])]) [])])])])])])])])])])])])]) (by simp[Dl6,Bk7]) Tryz.func11
noncomputable def AG0 [LP](a:(List T6)):Option (List ((List (List Int))×Bool)):=
 Option.bind (
  LP.lp (X:=(List ((List (List Int))×Bool))) (fun (b:(Int×(List ((List (List Int))×Bool))))=>
   let c:=b.1
   let d:(List ((List (List Int))×Bool)):=b.2
   let e:=decide (c<a.length)
   (bif e then
    chk none (decide (0≤c)&&decide (c<a.length))<|
    let f:T6:=(a.getD c.toNat (((0:Int),(0:Int)),((0:Int),((0:Int),((0:Int),((false,(false,(false,(false,false)))),false))))))
    let pA:=f.2.2.2.2
    let g:=(FD9 .i64 f.1.1)
    let h:=(FD9 .i64 f.1.2)
    let i:=(FD9 .i64 f.2.1)
    let j:=(FD9 .i64 f.2.2.1)
    let k:=(FD9 .i64 f.2.2.2.1)
    let l:Yd3:=(g,(h,(i,(j,k))))
    let m:(Int×(Int×Int)):=((1:Int),((c.tmod (256:Int)),l.1))
    (Q8 m).bind fun n=>
    let o:=(bif pA.1.1 then (n.2==(0:Int)) else false)
    Option.bind (
     (bif o then
      chk none (decide ((([]:List (List Int)).length+([n.1]:List (List Int)).length)*24≤140737488355328))<|
      let p:(List (List Int)):=([n.1]:List (List Int))
      some p
     else
      some ([]))) fun q=>
    let r:(Int×(Int×Int)):=((2:Int),((c.tmod (256:Int)),l.2.1))
    (Q8 r).bind fun s=>
    let t:=(bif pA.1.2.1 then (s.2==(0:Int)) else false)
    Option.bind (
     (bif t then
      chk none (decide ((q.length+([s.1]:List (List Int)).length)*24≤140737488355328))<|
      let u:(List (List Int)):=(q++([s.1]:List (List Int)))
      some u
     else
      some q)) fun v=>
    let w:(Int×(Int×Int)):=((3:Int),((c.tmod (256:Int)),l.2.2.1))
    (Q8 w).bind fun y=>
    let a0:=(bif pA.1.2.2.1 then (y.2==(0:Int)) else false)
    Option.bind (
     (bif a0 then
      chk none (decide ((v.length+([y.1]:List (List Int)).length)*24≤140737488355328))<|
      let a1:(List (List Int)):=(v++([y.1]:List (List Int)))
      some a1
     else
      some v)) fun a2=>
    let a3:(Int×(Int×Int)):=((4:Int),((c.tmod (256:Int)),l.2.2.2.1))
    (Q8 a3).bind fun a4=>
    let a5:=(bif pA.1.2.2.2.1 then (a4.2==(0:Int)) else false)
    Option.bind (
     (bif a5 then
      chk none (decide ((a2.length+([a4.1]:List (List Int)).length)*24≤140737488355328))<|
      let a6:(List (List Int)):=(a2++([a4.1]:List (List Int)))
      some a6
     else
      some a2)) fun a7=>
    let a8:(Int×(Int×Int)):=((5:Int),((c.tmod (256:Int)),l.2.2.2.2))
    (Q8 a8).bind fun a9=>
    let b0:=(bif pA.1.2.2.2.2 then (a9.2==(0:Int)) else false)
    Option.bind (
     (bif b0 then
      chk none (decide ((a7.length+([a9.1]:List (List Int)).length)*24≤140737488355328))<|
      let b1:(List (List Int)):=(a7++([a9.1]:List (List Int)))
      some b1
     else
      some a7)) fun b2=>
    let b3:(List ((List (List Int))×Bool)):=([(b2,pA.2)]:List ((List (List Int))×Bool))
    chk none (decide ((d.length+b3.length)*32≤140737488355328))<|
    let b4:(List ((List (List Int))×Bool)):=(d++b3)
    let b5:=FD9 .i64 (c+1)
    some (.inl (b5,b4))
   else
    some (.inr d))) ((0:Int),[])) fun b6=>
 some b6
noncomputable def Aw8:Con:={f:=14,ps:=[.dat (.slice (.agg AK9))],boxes:=[],ins:=(.slice (.agg AK9)),nin:=1,outs:=(.slice (.agg (.pair (.slice (.slice (.int .u8))) .bool))),rs:=[.dat (.slice (.agg (.pair (.slice (.slice (.int .u8))) .bool)))],A2:=1,F:=fun x=>AG0 x}
theorem Bk9:KO Aw8:=
 cgp (l:=[Bk8]) (.mk .plain [H0,(.mk .plain [H0,(.mk .plain [(.mk .plain [H0,(.mk .plain [(.mk (.loop [sI 13,⟨.slot 3,(.slice (.agg (.pair (.slice (.slice (.int .u8))) .bool))),some 7100033⟩] (zP [36,45,54,51,60,5,69,14,23,20,29,38,47,44,53,62,7,4,16,71,22,31,40,37,46,55,64,9,6,70,15,24,33,30,42,39,48,57,66,63,8,72,17,26,35,32,41,50,59,56,68,65,10,19,28,25,34,43,52,49,61,58,67,21,18,27]) [(.exit 0,[⟨.slot 3,(.slice (.agg (.pair (.slice (.slice (.int .u8))) .bool))),some 7100033⟩])]) [(.mk .plain [H0,(.mk .plain [H0,(.mk .plain [(.mk .plain [(.mk .plain [H0,(.mk .plain [H0,(.mk .plain [(.mk .plain [H0,(.mk .plain [(.mk (.AY1 6) [(.mk .plain [H0,(.mk .plain [H0,(.mk .plain [(.mk .plain [(.mk .plain [H0,(.mk .plain [H0,(.mk .plain [H0,(.mk (.join (zP [65,66,61,63,64,62]) [(.normal,[⟨.cell 1 0,(.slice (.slice (.int .u8))),some 6500034⟩])]) [])])])])])])])])])])])])])])])])])])])])])])])]) (by simp[Dl8]) Tryz.func14
noncomputable def Aw9 [LP](a b:Int):Option Int:=
 let c:=FD9 .i64 (a+b)
 let d:=FD9 .i64 (c-1)
 chk none (!(b==(0:Int)))<|
 let e:=FD9 .i64 (d.tdiv b)
 some e
noncomputable def Bl0:Con:={f:=51,ps:=[dI,dI],boxes:=[],ins:=(.pair tI tI),nin:=2,outs:=tI,rs:=[dI],A2:=1,F:=fun x=>Aw9 x.1 x.2}
theorem Dl9:KO Bl0:=
 cgp (l:=[]) H0 (by simp) Tryz.func51
noncomputable def Ax0 [LP](a:F2):Option Int:=
 let pA:=a.2.2.2.2
 let pB:=pA.2.2.2.2
 let pC:=pB.2.2.2.2
 let b:=decide (a.1<(1:Int))
 let c:=decide ((1024:Int)<a.1)
 let d:=(bif b then true else c)
 (bif d then
  some (1:Int)
 else
  let e:=decide (a.2.1<(131072:Int))
  let f:=decide ((8388608:Int)<a.2.1)
  let g:=(bif e then true else f)
  let h:=decide (a.2.2.1<a.2.1)
  let i:=(bif g then true else h)
  let j:=decide ((8388608:Int)<a.2.2.1)
  let k:=(bif i then true else j)
  (bif k then
   some (2:Int)
  else
   let l:=FD9 .i64 (a.2.2.1-a.2.1)
   let m:=FD9 .i64 (l*16)
   let n:=decide (a.2.1<m)
   (bif n then
    some (3:Int)
   else
    let o:=decide (a.2.2.2.1<(0:Int))
    let p:=decide ((1048576:Int)<a.2.2.2.1)
    let q:=(bif o then true else p)
    let r:=decide (pA.1<(0:Int))
    let s:=(bif q then true else r)
    let t:=decide ((65536:Int)<pA.1)
    let u:=(bif s then true else t)
    (bif u then
     some (4:Int)
    else
     let v:=decide (pA.2.1<(0:Int))
     let w:=decide ((1048576:Int)<pA.2.1)
     let y:=(bif v then true else w)
     (bif y then
      some (5:Int)
     else
      let a0:=decide (pA.2.2.1<(1:Int))
      let a1:=decide ((16777216:Int)<pA.2.2.1)
      let a2:=(bif a0 then true else a1)
      let a3:=decide (pA.2.2.2.1<(1:Int))
      let a4:=(bif a2 then true else a3)
      let a5:=decide ((1048576:Int)<pA.2.2.2.1)
      let a6:=(bif a4 then true else a5)
      (bif a6 then
       some (6:Int)
      else
       let a7:=FD9 .i64 (pA.2.2.1*a.1)
       let a8:=FD9 .i64 ((32000:Int)*a.2.1)
       let a9:=decide (a8<a7)
       (bif a9 then
        some (7:Int)
       else
        let b0:=decide (pB.1<(0:Int))
        let b1:=decide ((1048576:Int)<pB.1)
        let b2:=(bif b0 then true else b1)
        (bif b2 then
         some (8:Int)
        else
         let b3:=decide (pB.2.1<(1:Int))
         let b4:=decide ((1000:Int)<pB.2.1)
         let b5:=(bif b3 then true else b4)
         let b6:=pC.1
         let b7:=decide (b6<(1:Int))
         let b8:=(bif b5 then true else b7)
         let b9:=pC.1
         let c0:=decide ((1000:Int)<b9)
         let c1:=(bif b8 then true else c0)
         (bif c1 then
          some (9:Int)
         else
          let c2:=pB.2.2.1
          (Aw9 a.2.2.1 a.1).bind fun c3=>
          let c4:=decide (c2<c3)
          let c5:=pB.2.2.1
          let c6:=FD9 .i64 ((3:Int)*a.2.2.2.1)
          let c7:=decide (c5<c6)
          let c8:=(bif c4 then true else c7)
          let c9:=pB.2.2.1
          let d0:=decide ((16777216:Int)<c9)
          let d1:=(bif c8 then true else d0)
          (bif d1 then
           some (10:Int)
          else
           let d2:=pB.2.2.2.1
           let d3:=decide (d2<(0:Int))
           let d4:=pB.2.2.2.1
           let d5:=decide ((1073741824:Int)<d4)
           let d6:=(bif d3 then true else d5)
           (bif d6 then
            some (11:Int)
           else
            let d7:=pC.2
            let d8:=decide (d7<(1:Int))
            let d9:=pC.2
            let e0:=decide ((1048576:Int)<d9)
            let e1:=(bif d8 then true else e0)
            (bif e1 then
             some (12:Int)
            else
             some (0:Int)))))))))))))
noncomputable def Bl1:Con:={f:=30,ps:=[.dat (.agg C4)],boxes:=[],ins:=(.agg C4),nin:=1,outs:=tI,rs:=[dI],A2:=1,F:=fun x=>Ax0 x}
theorem Dm0:KO Bl1:=
 cgp (l:=[Bl0]) H0 (by simp[Dl9]) Tryz.func30
noncomputable def AR7 [LP](a:(List (Int×Int)))(b:Int):Option Bool:=
 let c:=(decide ((a.length:Int)<(1:Int)))
 let d:=(decide ((64:Int)<(a.length:Int)))
 let e:=(bif c then true else d)
 chk none ((true&&(decide ((0:Int)<(a.length:Int))))|| !(!e))<|
 let f:(Int×Int):=(a.getD (0:Int).toNat ((0:Int),(0:Int)))
 let g:=(bif e then true else (f.1 != (0:Int)))
 (bif g then
  some false
 else
  Option.bind (α:=Bool ⊕ Unit) (
   LP.lp (X:=Bool ⊕ Unit) (fun (h:Int)=>
    let i:=decide (h<a.length)
    (bif i then
     chk none (decide (0≤h)&&decide (h<a.length))<|
     let j:(Int×Int):=(a.getD h.toNat ((0:Int),(0:Int)))
     let k:=decide (j.2<(-1048576:Int))
     chk none ((decide (0≤h)&&decide (h<a.length))|| !(!k))<|
     let l:(Int×Int):=(a.getD h.toNat ((0:Int),(0:Int)))
     let m:=decide ((1048576:Int)<l.2)
     let n:=(bif k then true else m)
     chk none ((decide (0≤h)&&decide (h<a.length))|| !(!n))<|
     let o:(Int×Int):=(a.getD h.toNat ((0:Int),(0:Int)))
     let p:=decide (b≤o.1)
     let q:=(bif n then true else p)
     (bif q then
      some (.inr (.inl false))
     else
      let r:=decide ((0:Int)<h)
      chk none ((decide (0≤h)&&decide (h<a.length))|| !r)<|
      let s:(Int×Int):=(a.getD h.toNat ((0:Int),(0:Int)))
      let t:=FD9 .i64 (h-1)
      chk none ((decide (0≤t)&&decide (t<a.length))|| !r)<|
      let u:(Int×Int):=(a.getD t.toNat ((0:Int),(0:Int)))
      let v:=decide (s.1≤u.1)
      let w:=(bif r then v else false)
      (bif w then
       some (.inr (.inl false))
      else
       let y:=FD9 .i64 (h+1)
       some (.inl y)))
    else
     some (.inr (.inr ())))) (0:Int)) fun z=>match z with
  | .inl a0=>
   some a0
  | .inr _=>
   some true)
noncomputable def Bl2:Con:={f:=88,ps:=[.dat (.slice (.agg (.pair tI tI))),dI],boxes:=[],ins:=(.pair (.slice (.agg (.pair tI tI))) tI),nin:=2,outs:=.bool,rs:=[.dat .bool],A2:=1,F:=fun x=>AR7 x.1 x.2}
theorem Dm1:KO Bl2:=
 cgp (l:=[]) (.mk .plain [H0,(.mk .plain [H0,(.mk .plain [(.mk .plain [H0,(.mk .plain [(.mk (.loop [sI 5] (zP [30,36,42,4,39,45,48,22,28,31,34,40,37,43,46,23,49,29,35,32,38,41,47,44,21,24,27,33,54,51,57,60,63,26,50,53,59,56,62,65,25,52,55,61,58,64]) [(.ret,[sB 4]),(.exit 0,[])]) [])])])])])]) (by simp) Tryz.func88
noncomputable def AR8 [LP](a:Yd1)(b:Int):Option Bool:=
 let c:=decide (a.1<(1:Int))
 let d:=decide ((1099511627776:Int)<a.1)
 let e:=(bif c then true else d)
 (bif !e then AR7 a.2.1 a.1 else some false).bind fun f=>
 let g:=(bif e then true else (!f))
 let h:=(decide ((2:Int)<(a.2.2.length:Int)))
 let i:=(bif g then true else h)
 (bif i then
  some false
 else
  Option.bind (α:=Bool ⊕ Unit) (
   LP.lp (X:=Bool ⊕ Unit) (fun (j:Int)=>
    let k:=decide (j<a.2.2.length)
    (bif k then
     chk none (decide (0≤j)&&decide (j<a.2.2.length))<|
     let l:=(a.2.2.getD j.toNat 0)
     let m:=decide (l<(0:Int))
     chk none ((decide (0≤j)&&decide (j<a.2.2.length))|| !(!m))<|
     let n:=(a.2.2.getD j.toNat 0)
     let o:=decide (b≤n)
     let p:=(bif m then true else o)
     (bif p then
      some (.inr (.inl false))
     else
      let q:=FD9 .i64 (j+1)
      some (.inl q))
    else
     some (.inr (.inr ())))) (0:Int)) fun z=>match z with
  | .inl r=>
   some r
  | .inr _=>
   let s:=(decide ((a.2.2.length:Int)<(2:Int)))
   chk none ((true&&(decide ((0:Int)<(a.2.2.length:Int))))|| !(!s))<|
   let t:=(a.2.2.getD (0:Int).toNat 0)
   chk none ((true&&(decide ((1:Int)<(a.2.2.length:Int))))|| !(!s))<|
   let u:=(a.2.2.getD (1:Int).toNat 0)
   let v:=decide (t<u)
   let w:=(bif s then true else v)
   some w)
noncomputable def Bl3:Con:={f:=52,ps:=[.dat (.agg Yt1),dI],boxes:=[],ins:=Cj9,nin:=2,outs:=.bool,rs:=[.dat .bool],A2:=1,F:=fun x=>AR8 x.1 x.2}
theorem Dm2:KO Bl3:=
 cgp (l:=[Bl2]) (.mk .plain [H0,(.mk .plain [H0,(.mk .plain [(.mk .plain [H0,(.mk .plain [(.mk (.loop [sI 5] (zP [30,36,42,4,39,45,48,28,31,40,37,43,46,49,29,35,32,38,41,47,44,34,33]) [(.ret,[sB 4]),(.exit 0,[])]) [])])])])])]) (by simp[Dm1]) Tryz.func52
noncomputable def AR9 [LP](a:K7):Option (Int×Int):=
 let b:=(decide ((a.1.length:Int)<(1:Int)))
 let c:=(decide ((200:Int)<(a.1.length:Int)))
 let d:=(bif b then true else c)
 let e:=(decide ((400:Int)<(a.2.length:Int)))
 let f:=(bif d then true else e)
 (bif f then
  some ((13:Int),(0:Int))
 else
  Option.bind (α:=(Int×Int) ⊕ Unit) (
   LP.lp (X:=(Int×Int) ⊕ Unit) (fun (g:Int)=>
    let h:=decide (g<a.1.length)
    (bif h then
     chk none (decide (0≤g)&&decide (g<a.1.length))<|
     let i:Yd1:=(a.1.getD g.toNat ((0:Int),([],[])))
     (AR8 i (a.1.length:Int)).bind fun j=>
     (bif (!j) then
      some (.inr (.inl (g,(11:Int))))
     else
      let k:=FD9 .i64 (g+1)
      some (.inl k))
    else
     some (.inr (.inr ())))) (0:Int)) fun z=>match z with
  | .inl l=>
   let m:=l.1
   let n:=l.2
   some (n,m)
  | .inr _=>
   Option.bind (α:=(Int×Int) ⊕ Unit) (
    LP.lp (X:=(Int×Int) ⊕ Unit) (fun (o:(Int×Int))=>
     let p:=o.1
     let q:=o.2
     let r:=decide (q<a.2.length)
     (bif r then
      chk none (decide (0≤q)&&decide (q<a.2.length))<|
      let s:Yd3:=(a.2.getD q.toNat ((0:Int),((0:Int),((0:Int),((0:Int),(0:Int))))))
      let t:=decide (s.1≤p)
      let u:=decide ((65535:Int)<s.1)
      let v:=(bif t then true else u)
      let w:=decide (s.2.1<(0:Int))
      let y:=(bif v then true else w)
      let a0:=decide ((a.1.length:Int)≤s.2.1)
      let a1:=(bif y then true else a0)
      (bif a1 then
       some (.inr (.inl ((16:Int),q)))
      else
       let a2:=decide (s.2.2.1<(0:Int))
       chk none ((decide (0≤s.2.1)&&decide (s.2.1<a.1.length))|| !(!a2))<|
       let a3:Yd1:=(a.1.getD s.2.1.toNat ((0:Int),([],[])))
       let a4:=decide (a3.1<s.2.2.1)
       let a5:=(bif a2 then true else a4)
       let a6:=decide (s.2.2.2.1<(0:Int))
       let a7:=(bif a5 then true else a6)
       let a8:=decide ((1048576:Int)<s.2.2.2.1)
       let a9:=(bif a7 then true else a8)
       let b0:=decide (s.2.2.2.2<(0:Int))
       let b1:=(bif a9 then true else b0)
       let b2:=decide ((16777216:Int)<s.2.2.2.2)
       let b3:=(bif b1 then true else b2)
       (bif b3 then
        some (.inr (.inl ((16:Int),q)))
       else
        let b4:=FD9 .i64 (q+1)
        some (.inl (s.1,b4))))
     else
      some (.inr (.inr ())))) ((0:Int),(0:Int))) fun z=>match z with
   | .inl b5=>
    let b6:=b5.1
    let b7:=b5.2
    some (b6,b7)
   | .inr _=>
    some ((0:Int),(0:Int)))
noncomputable def Bl4:Con:={f:=31,ps:=[.dat (.agg E1)],boxes:=[],ins:=(.agg E1),nin:=1,outs:=(.pair tI tI),rs:=[dI,dI],A2:=2,F:=fun x=>AR9 x}
theorem Dm3:KO Bl4:=
 cgp (l:=[Bl3]) (.mk .plain [H0,(.mk .plain [H0,(.mk .plain [(.mk .plain [H0,(.mk .plain [(.mk (.loop [sI 4] (zP [36,26,39,35,3,32,38,28,41,2,31,25,34,40,24,37,27,33,30,29]) [(.ret,[sI 3,sI 2]),(.exit 0,[])]) [])])]),(.mk .plain [H0,(.mk .plain [(.mk .plain [H0,(.mk .plain [(.mk (.loop [sI 5,sI 6] (zP [42,45,54,51,57,2,60,66,63,69,72,75,44,50,53,59,56,62,68,7,65,71,74,43,46,52,49,55,61,58,64,3,67,73,70,76,91,100,109,78,87,84,93,102,111,108,80,77,86,95,104,101,110,79,88,97,94,106,103,112,81,90,99,96,105,83,92,89,98,107,85,82,47,113,48,114]) [(.ret,[sI 2,sI 3]),(.exit 2,[])]) [])])])])])])])]) (by simp[Dm2]) Tryz.func31
noncomputable def AG1 [LP](a:F2)(b:K7):Option (Int×Int):=
 (Ax0 a).bind fun c=>
 (bif (c != (0:Int)) then
  some ((50:Int),(0:Int))
 else
  (AR9 b).bind fun d=>
  (bif (d.1 != (0:Int)) then
   some ((51:Int),(0:Int))
  else
   Option.bind (α:=(Int×Int) ⊕ Unit) (
    LP.lp (X:=(Int×Int) ⊕ Unit) (fun (e:Int)=>
     let f:=decide (e<b.2.length)
     (bif f then
      chk none (decide (0≤e)&&decide (e<b.2.length))<|
      let g:Yd3:=(b.2.getD e.toNat ((0:Int),((0:Int),((0:Int),((0:Int),(0:Int))))))
      let h:=FD9 .i64 (g.2.2.2.1+a.2.2.2.2.2.2.2.2.1)
      let i:=FD9 .i64 (h+a.2.2.2.2.2.2.1)
      let j:=decide (g.2.2.1<i)
      chk none ((decide (0≤g.2.1)&&decide (g.2.1<b.1.length))|| !(!j))<|
      let k:Yd1:=(b.1.getD g.2.1.toNat ((0:Int),([],[])))
      let l:=FD9 .i64 (k.1-g.2.2.1)
      let m:=decide (l<i)
      let n:=(bif j then true else m)
      (bif n then
       some (.inr (.inl (e,(11:Int))))
      else
       let o:=FD9 .i64 (e+1)
       some (.inl o))
     else
      some (.inr (.inr ())))) (0:Int)) fun z=>match z with
   | .inl p=>
    let q:=p.1
    let r:=p.2
    some (r,q)
   | .inr _=>
    some ((0:Int),(0:Int))))
noncomputable def Aj6:Con:={f:=22,ps:=[.dat (.agg C4),.dat (.agg E1)],boxes:=[],ins:=Bi3,nin:=2,outs:=(.pair tI tI),rs:=[dI,dI],A2:=2,F:=fun x=>AG1 x.1 x.2}
theorem Bl5:KO Aj6:=
 cgp (l:=[Bl1,Bl4]) (.mk .plain [H0,(.mk .plain [H0,(.mk .plain [H0,(.mk .plain [H0,(.mk .plain [(.mk .plain [H0,(.mk .plain [(.mk (.loop [sI 8] (zP [30,36,42,39,45,48,54,51,57,5,23,29,35,32,38,41,47,44,50,53,59,56,4,10,22,28,25,31,34,40,37,43,46,52,49,55,58,9,21,24,33,26,27]) [(.ret,[sI 5,sI 4]),(.exit 0,[])]) [])])])])])])])]) (by simp[Dm0,Dm3]) Tryz.func22
noncomputable def T8 [LP](a b:Int):Option (List Int):=
 chk none ((decide ((0:Int)≤b))&&(decide (b≤b))&&(decide (b*1≤(140737488355328:Int)))&&(decide (b≤(140737488355328:Int))))<|
 let c:=decide (a<(0:Int))
 (bif c then
  let d:=FD9 .i64 ((-1:Int)-a)
  let e:=FD9 .i64 (b-1)
  Option.bind (
   LP.lp (X:=(List Int)) (fun (f:(Int×((List Int)×Int)))=>
    let g:=f.1
    let h:(List Int):=f.2.1
    let i:=f.2.2
    let j:=decide ((0:Int)≤g)
    (bif j then
     let k:=(FD9 .i64 ((255:Int)-(i.tmod (256:Int))))
     let l:=(FD9 .u8 k)
     chk none (decide (0≤g)&&decide (g<h.length))<|
     let m:(List Int):=(h.set g.toNat l)
     let n:=FD9 .i64 (i.tdiv (256:Int))
     let o:=FD9 .i64 (g-1)
     some (.inl (o,m,n))
    else
     some (.inr h))) (e,(FE0 b.toNat 0),d)) fun p=>
  some p
 else
  let q:=FD9 .i64 (b-1)
  Option.bind (
   LP.lp (X:=(List Int)) (fun (r:((List Int)×(Int×Int)))=>
    let s:(List Int):=r.1
    let t:=r.2.1
    let u:=r.2.2
    let v:=decide ((0:Int)≤t)
    (bif v then
     let w:=FD9 .u8 (u.tmod (256:Int))
     chk none (decide (0≤t)&&decide (t<s.length))<|
     let y:(List Int):=(s.set t.toNat w)
     let a0:=FD9 .i64 (u.tdiv (256:Int))
     let a1:=FD9 .i64 (t-1)
     some (.inl (y,a1,a0))
    else
     some (.inr s))) ((FE0 b.toNat 0),q,a)) fun a2=>
  some a2)
noncomputable def Bl6:Con:={f:=38,ps:=[dI,dI],boxes:=[],ins:=(.pair tI tI),nin:=2,outs:=(.slice (.int .u8)),rs:=[.dat (.slice (.int .u8))],A2:=1,F:=fun x=>T8 x.1 x.2}
theorem Dm4:KO Bl6:=
 cgp (l:=[]) (.mk .plain [H0,(.mk .plain [H0,(.mk .plain [(.mk .plain [H0,(.mk .plain [(.mk .plain [H0,(.mk .plain [(.mk .plain [H0,(.mk .plain [(.mk (.loop [sI 7,⟨.slot 5,(.slice (.int .u8)),some 1075005⟩,sI 6] (zP [10,19,22,28,25,17,23,20,26,29,21,18,24,27]) [(.exit 0,[⟨.slot 5,(.slice (.int .u8)),some 1075005⟩])]) [])])])])])])]),(.mk .plain [(.mk .plain [H0,(.mk .plain [(.mk (.loop [⟨.slot 5,(.slice (.int .u8)),some 1075005⟩,sI 8,sI 0] (zP [36,42,10,39,34,40,37,43,35,38,41,44,33]) [(.exit 2,[⟨.slot 5,(.slice (.int .u8)),some 1075005⟩])]) [])])])])])])]) (by simp) Tryz.func38
noncomputable def AG2 [LP](a:K7):Option (List Int):=
 (T8 (a.1.length:Int) (2:Int)).bind fun b=>
 chk none (decide ((([(79:Int),(68:Int),(79:Int),(49:Int)]:List Int).length+b.length)*1≤140737488355328))<|
 let c:(List Int):=(([(79:Int),(68:Int),(79:Int),(49:Int)]:List Int)++b)
 Option.bind (
  LP.lp (X:=(List Int)) (fun (d:(Int×(List Int)))=>
   let e:=d.1
   let f:(List Int):=d.2
   let g:=decide (e<a.1.length)
   (bif g then
    chk none (decide (0≤e)&&decide (e<a.1.length))<|
    let h:Yd1:=(a.1.getD e.toNat ((0:Int),([],[])))
    (T8 h.1 (8:Int)).bind fun i=>
    chk none (decide ((f.length+i.length)*1≤140737488355328))<|
    let j:(List Int):=(f++i)
    let k:=FD9 .u8 (h.2.1.length:Int)
    chk none (decide ((j.length+([k]:List Int).length)*1≤140737488355328))<|
    let l:(List Int):=(j++([k]:List Int))
    Option.bind (
     LP.lp (X:=(List Int)) (fun (m:((List Int)×Int))=>
      let n:(List Int):=m.1
      let o:=m.2
      let p:=decide (o<h.2.1.length)
      (bif p then
       chk none (decide (0≤o)&&decide (o<h.2.1.length))<|
       let q:(Int×Int):=(h.2.1.getD o.toNat ((0:Int),(0:Int)))
       (T8 q.1 (8:Int)).bind fun r=>
       chk none (decide ((n.length+r.length)*1≤140737488355328))<|
       let s:(List Int):=(n++r)
       chk none (decide (0≤o)&&decide (o<h.2.1.length))<|
       let t:(Int×Int):=(h.2.1.getD o.toNat ((0:Int),(0:Int)))
       (T8 t.2 (4:Int)).bind fun u=>
       chk none (decide ((s.length+u.length)*1≤140737488355328))<|
       let v:(List Int):=(s++u)
       let w:=FD9 .i64 (o+1)
       some (.inl (v,w))
      else
       some (.inr n))) (l,(0:Int))) fun y=>
    let a0:=FD9 .u8 (h.2.2.length:Int)
    chk none (decide ((y.length+([a0]:List Int).length)*1≤140737488355328))<|
    let a1:(List Int):=(y++([a0]:List Int))
    Option.bind (
     LP.lp (X:=(List Int)) (fun (a2:(Int×(List Int)))=>
      let a3:=a2.1
      let a4:(List Int):=a2.2
      let a5:=decide (a3<h.2.2.length)
      (bif a5 then
       chk none (decide (0≤a3)&&decide (a3<h.2.2.length))<|
       let a6:=(h.2.2.getD a3.toNat 0)
       let a7:=(FD9 .u8 a6)
       chk none (decide ((a4.length+([a7]:List Int).length)*1≤140737488355328))<|
       let a8:(List Int):=(a4++([a7]:List Int))
       let a9:=FD9 .i64 (a3+1)
       some (.inl (a9,a8))
      else
       some (.inr a4))) ((0:Int),a1)) fun b0=>
    let b1:=FD9 .i64 (e+1)
    some (.inl (b1,b0))
   else
    some (.inr f))) ((0:Int),c)) fun b2=>
 (T8 (a.2.length:Int) (2:Int)).bind fun b3=>
 chk none (decide ((b2.length+b3.length)*1≤140737488355328))<|
 let b4:(List Int):=(b2++b3)
 Option.bind (
  LP.lp (X:=(List Int)) (fun (b5:(Int×(List Int)))=>
   let b6:=b5.1
   let b7:(List Int):=b5.2
   let b8:=decide (b6<a.2.length)
   (bif b8 then
    chk none (decide (0≤b6)&&decide (b6<a.2.length))<|
    let b9:Yd3:=(a.2.getD b6.toNat ((0:Int),((0:Int),((0:Int),((0:Int),(0:Int))))))
    (T8 b9.1 (2:Int)).bind fun c0=>
    chk none (decide ((b7.length+c0.length)*1≤140737488355328))<|
    let c1:(List Int):=(b7++c0)
    let c2:=(FD9 .u8 b9.2.1)
    chk none (decide ((c1.length+([c2]:List Int).length)*1≤140737488355328))<|
    let c3:(List Int):=(c1++([c2]:List Int))
    (T8 b9.2.2.1 (8:Int)).bind fun c4=>
    chk none (decide ((c3.length+c4.length)*1≤140737488355328))<|
    let c5:(List Int):=(c3++c4)
    (T8 b9.2.2.2.1 (4:Int)).bind fun c6=>
    chk none (decide ((c5.length+c6.length)*1≤140737488355328))<|
    let c7:(List Int):=(c5++c6)
    (T8 b9.2.2.2.2 (4:Int)).bind fun c8=>
    chk none (decide ((c7.length+c8.length)*1≤140737488355328))<|
    let c9:(List Int):=(c7++c8)
    let d0:=FD9 .i64 (b6+1)
    some (.inl (d0,c9))
   else
    some (.inr b7))) ((0:Int),b4)) fun d1=>
 (AF9 d1).bind fun d2=>
 let d3:=FD9 .i64 (d2.tdiv (256:Int))
 let d4:=(FD9 .u8 d3)
 let d5:=(d2.tmod (256:Int))
 let d6:=(FD9 .u8 d5)
 chk none (decide ((d1.length+([d4,d6]:List Int).length)*1≤140737488355328))<|
 let d7:(List Int):=(d1++([d4,d6]:List Int))
 some d7
noncomputable def Aj7:Con:={f:=24,ps:=[.dat (.agg E1)],boxes:=[],ins:=(.agg E1),nin:=1,outs:=(.slice (.int .u8)),rs:=[.dat (.slice (.int .u8))],A2:=1,F:=fun x=>AG2 x}
theorem Bl7:KO Aj7:=
 cgp (l:=[Bl6,BM2]) (.mk .plain [H0,(.mk .plain [H0,(.mk .plain [H0,(.mk .plain [(.mk .plain [H0,(.mk .plain [(.mk (.loop [sI 4,⟨.slot 3,(.slice (.int .u8)),some 900000005⟩] (zP [36,45,54,51,60,5,69,78,23,75,87,20,84,29,38,18,47,44,53,62,7,71,80,77,22,86,31,40,37,46,55,64,73,6,70,79,24,88,33,30,42,39,48,57,66,63,72,17,81,26,35,32,41,50,59,56,68,65,74,19,83,28,25,89,34,43,52,49,61,58,67,76,21,85,82,27]) [(.exit 0,[⟨.slot 3,(.slice (.int .u8)),some 900000005⟩])]) [(.mk .plain [H0,(.mk .plain [(.mk .plain [(.mk .plain [H0,(.mk .plain [H0,(.mk .plain [H0,(.mk .plain [(.mk .plain [H0,(.mk .plain [(.mk (.loop [⟨.slot 3,(.slice (.int .u8)),some 900000005⟩,sI 6] (zP [65,42,45,48,54,51,57,60,66,63,43,46,52,49,55,61,58,64,41,47,44,50,53,59,56,62]) [(.exit 2,[⟨.slot 3,(.slice (.int .u8)),some 900000005⟩])]) [])])]),(.mk .plain [H0,(.mk .plain [H0,(.mk .plain [(.mk (.loop [sI 7,⟨.slot 3,(.slice (.int .u8)),some 900000005⟩] (zP [74,80,77,83,86,89,78,75,81,87,84,73,76,79,85,82,88]) [(.exit 4,[⟨.slot 3,(.slice (.int .u8)),some 900000005⟩])]) [])])])])])])])])])])])])])]),(.mk .plain [H0,(.mk .plain [(.mk .plain [H0,(.mk .plain [(.mk (.loop [sI 8,⟨.slot 3,(.slice (.int .u8)),some 900000005⟩] (zP [97,100,106,103,109,112,118,115,121,124,130,127,133,99,96,102,105,111,108,114,117,123,120,126,132,129,95,98,104,101,107,113,110,116,119,125,9,122,128,131]) [(.exit 6,[⟨.slot 3,(.slice (.int .u8)),some 900000005⟩])]) [])])])])])])])])]) (by simp[Dm4,Bk7]) Tryz.func24
noncomputable def AS0 [LP](a b:Int):Option Int:=
 let c:=FD9 .u16 ((FD9 .u16 b)*2 ^ 8)
 let d:=(bits .u16 .xor a c)
 Option.bind (
  LP.lp (X:=Int) (fun (e:(Int×Int))=>
   let f:=e.1
   let g:=e.2
   let h:=decide (f<(8:Int))
   (bif h then
    let i:=(bits .u16 .and g (32768:Int))
    Option.bind (
     (bif (i != (0:Int)) then
      let j:=FD9 .u16 (g*2 ^ 1)
      let k:=(bits .u16 .xor j (4129:Int))
      some k
     else
      let l:=FD9 .u16 (g*2 ^ 1)
      some l)) fun m=>
    let n:=FD9 .i64 (f+1)
    some (.inl (n,m))
   else
    some (.inr g))) ((0:Int),d)) fun o=>
 some o
noncomputable def Bl8:Con:={f:=131,ps:=[.dat (.int .u16),.dat (.int .u8)],boxes:=[],ins:=(.pair (.int .u16) (.int .u8)),nin:=2,outs:=(.int .u16),rs:=[.dat (.int .u16)],A2:=1,F:=fun x=>AS0 x.1 x.2}
theorem Dm5:KO Bl8:=
 cgp (l:=[]) (.mk .plain [H0,(.mk .plain [H0,(.mk .plain [(.mk .plain [H0,(.mk .plain [(.mk (.loop [sI 10,⟨.slot 0,(.int .u16),none⟩] (zP [20,16,13,19,12,15,18,14,11,17]) [(.exit 0,[⟨.slot 0,(.int .u16),none⟩])]) [(.mk .plain [H0,(.mk .plain [H0,(.mk .plain [(.mk .plain [(.mk .plain [H0,(.mk (.join (zP [15,16,17,18,19]) [(.normal,[⟨.slot 0,(.int .u16),none⟩])]) [])])])])])])])])])])])]) (by simp) Tryz.func131
noncomputable def AS1 [LP](a:Int)(b:(List Int)):Option Int:=
 Option.bind (
  LP.lp (X:=Int) (fun (c:(Int×Int))=>
   let d:=c.1
   let e:=c.2
   let f:=decide (e<b.length)
   (bif f then
    chk none (decide (0≤e)&&decide (e<b.length))<|
    let g:=(b.getD e.toNat 0)
    (AS0 d g).bind fun h=>
    let i:=FD9 .i64 (e+1)
    some (.inl (h,i))
   else
    some (.inr d))) (a,(0:Int))) fun j=>
 some j
noncomputable def Bl9:Con:={f:=89,ps:=[.dat (.int .u16),.dat (.slice (.int .u8))],boxes:=[],ins:=(.pair (.int .u16) (.slice (.int .u8))),nin:=2,outs:=(.int .u16),rs:=[.dat (.int .u16)],A2:=1,F:=fun x=>AS1 x.1 x.2}
theorem Dm6:KO Bl9:=
 cgp (l:=[Bl8]) (.mk .plain [H0,(.mk .plain [(.mk .plain [H0,(.mk .plain [(.mk (.loop [⟨.slot 0,(.int .u16),none⟩,sI 9] (zP [10,16,13,6,12,15,14,11]) [(.exit 0,[⟨.slot 0,(.int .u16),none⟩])]) [])])])])]) (by simp[Dm5]) Tryz.func89
noncomputable def AL3 [LP](a:(List Int)):Option Int:=
 (AS1 (65535:Int) a).bind fun b=>
 some b
noncomputable def BM3:Con:={f:=53,ps:=[.dat (.slice (.int .u8))],boxes:=[],ins:=(.slice (.int .u8)),nin:=1,outs:=(.int .u16),rs:=[.dat (.int .u16)],A2:=1,F:=fun x=>AL3 x}
theorem Bm0:KO BM3:=
 cgp (l:=[Bl9]) H0 (by simp[Dm6]) Tryz.func53
noncomputable def M9 [LP](a:Int)(b:(List Int))(c:Bool):Option (Int×((List Int)×Bool)):=
 let d:=decide ((b.length:Int)<a)
 let e:=(bif c then true else d)
 (bif e then
  some ((0:Int),b,e)
 else
  chk none (true&&(decide ((0:Int)≤a))&&(decide (a≤(b.length:Int))))<|
  let f:(List Int):=((b.take a.toNat).drop (0:Int).toNat)
  Option.bind (
   LP.lp (X:=Int) (fun (g:(Int×Int))=>
    let h:=g.1
    let i:=g.2
    let j:=decide (h<f.length)
    (bif j then
     chk none (decide (0≤h)&&decide (h<f.length))<|
     let k:=(f.getD h.toNat 0)
     let l:=FD9 .u64 (i*2 ^ 8)
     let m:=(FD9 .u64 k)
     let n:=(bits .u64 .or l m)
     let o:=FD9 .i64 (h+1)
     some (.inl (o,n))
    else
     some (.inr i))) ((0:Int),(0:Int))) fun p=>
  chk none ((decide ((0:Int)≤a))&&(decide (a≤(b.length:Int)))&&(decide ((b.length:Int)≤(b.length:Int))))<|
  let q:(List Int):=((b.take (b.length:Int).toNat).drop a.toNat)
  some ((FD9 .i64 p),q,e))
noncomputable def Aa8:Con:={f:=90,ps:=[.ref 0 0,dI],boxes:=[[.dat (.slice (.int .u8)),.dat .bool]],ins:=(.pair tI (.pair (.slice (.int .u8)) .bool)),nin:=3,outs:=(.pair tI (.pair (.slice (.int .u8)) .bool)),rs:=[dI],A2:=3,F:=fun x=>M9 x.1 x.2.1 x.2.2}
theorem Aj8:KO Aa8:=
 cgp (l:=[]) (.mk .plain [H0,(.mk .plain [H0,(.mk .plain [H0,(.mk .plain [(.mk .plain [H0,(.mk .plain [(.mk (.loop [sI 35,⟨.slot 5,(.int .u64),none⟩] (zP [7,36,42,39,38,41,44,40,37,43]) [(.exit 0,[⟨.slot 5,(.int .u64),none⟩])]) [])])])])])])]) (by simp) Tryz.func90
noncomputable def Z8 [LP](a b:Int)(c:(List Int))(d:Bool):Option (Int×((List Int)×Bool)):=
 (M9 a c d).bind fun e=>
 let f:=decide (b<e.1)
 (bif f then
  some ((0:Int),e.2.1,true)
 else
  some (e.1,e.2.1,e.2.2))
noncomputable def BM4:Con:={f:=55,ps:=[.ref 0 0,dI,dI],boxes:=[[.dat (.slice (.int .u8)),.dat .bool]],ins:=Ck0,nin:=4,outs:=(.pair tI (.pair (.slice (.int .u8)) .bool)),rs:=[dI],A2:=3,F:=fun x=>Z8 x.1 x.2.1 x.2.2.1 x.2.2.2}
theorem Bm1:KO BM4:=
 cgp (l:=[Aa8]) H0 (by simp[Aj8]) Tryz.func55
noncomputable def AS2 [LP](a:(List Int))(b:Bool):Option Ck2:=
 (M9 (8:Int) a b).bind fun c=>
 (M9 (4:Int) c.2.1 c.2.2).bind fun d=>
 let e:=(FD9 .i32 d.1)
 let f:(Int×Int):=(c.1,(FD9 .i64 e))
 some (f,d.2.1,d.2.2)
noncomputable def Bm2:Con:={f:=92,ps:=[.ref 0 0],boxes:=[[.dat (.slice (.int .u8)),.dat .bool]],ins:=(.pair (.slice (.int .u8)) .bool),nin:=2,outs:=Ck1,rs:=[.dat (.agg (.pair tI tI))],A2:=3,F:=fun x=>AS2 x.1 x.2}
theorem Dm7:KO Bm2:=
 cgp (l:=[Aa8]) H0 (by simp[Aj8]) Tryz.func92
noncomputable def AS3 [LP](a:Int)(b:(List Int))(c:Bool):Option Ck4:=
 Option.bind (
  LP.lp (X:=Ca7) (fun (d:Ck6)=>
   let e:=d.1
   let f:=d.2.1
   let g:(List (Int×Int)):=d.2.2.1
   let h:(List Int):=d.2.2.2
   (bif (decide (e<a)) then
    (AS2 h f).bind fun i=>
    let j:(List (Int×Int)):=([i.1]:List (Int×Int))
    chk none (decide ((g.length+j.length)*16≤140737488355328))<|
    let k:(List (Int×Int)):=(g++j)
    let l:=FD9 .i64 (e+1)
    some (.inl (l,i.2.2,k,i.2.1))
   else
    some (.inr (f,h,g)))) ((0:Int),c,[],b)) fun m=>
 let n:=m.1
 let o:(List Int):=m.2.1
 let p:(List (Int×Int)):=m.2.2
 some (p,o,n)
noncomputable def Bm3:Con:={f:=91,ps:=[dI,.clo 92 [.ref 0 0] []],boxes:=[[.dat (.slice (.int .u8)),.dat .bool]],ins:=(.pair tI (.pair (.slice (.int .u8)) .bool)),nin:=3,outs:=Ck3,rs:=[.dat (.slice (.agg (.pair tI tI)))],A2:=3,F:=fun x=>AS3 x.1 x.2.1 x.2.2}
theorem Dm8:KO Bm3:=
 cgp (l:=[Bm2]) (.mk .plain [H0,(.mk .plain [H0,(.mk .plain [(.mk .plain [H0,(.mk .plain [(.mk (.loop [sI 7,kB 0 1,⟨.slot 5,(.slice (.agg (.pair tI tI))),some 1300165⟩,⟨.cell 0 0,(.slice (.int .u8)),none⟩] (zP [10,13,9,12,8,14,11]) [(.exit 0,[kB 0 1,⟨.cell 0 0,(.slice (.int .u8)),none⟩,⟨.slot 5,(.slice (.agg (.pair tI tI))),some 1300165⟩])]) [])])])])])]) (by simp[Dm7]) Tryz.func91
noncomputable def AS4 [LP](a:(List Int))(b:Bool):Option (Int×((List Int)×Bool)):=
 (M9 (1:Int) a b).bind fun c=>
 some (c.1,c.2.1,c.2.2)
noncomputable def Bm4:Con:={f:=94,ps:=[.ref 0 0],boxes:=[[.dat (.slice (.int .u8)),.dat .bool]],ins:=(.pair (.slice (.int .u8)) .bool),nin:=2,outs:=(.pair tI (.pair (.slice (.int .u8)) .bool)),rs:=[dI],A2:=3,F:=fun x=>AS4 x.1 x.2}
theorem Dm9:KO Bm4:=
 cgp (l:=[Aa8]) H0 (by simp[Aj8]) Tryz.func94
noncomputable def AS5 [LP](a:Int)(b:(List Int))(c:Bool):Option ((List Int)×((List Int)×Bool)):=
 Option.bind (
  LP.lp (X:=(Bool×((List Int)×(List Int)))) (fun (d:Ck7)=>
   let e:=d.1
   let f:=d.2.1
   let g:(List Int):=d.2.2.1
   let h:(List Int):=d.2.2.2
   (bif (decide (e<a)) then
    (AS4 h f).bind fun i=>
    chk none (decide ((g.length+([i.1]:List Int).length)*8≤140737488355328))<|
    let j:(List Int):=(g++([i.1]:List Int))
    let k:=FD9 .i64 (e+1)
    some (.inl (k,i.2.2,j,i.2.1))
   else
    some (.inr (f,h,g)))) ((0:Int),c,[],b)) fun l=>
 let m:=l.1
 let n:(List Int):=l.2.1
 let o:(List Int):=l.2.2
 some (o,n,m)
noncomputable def Bm5:Con:={f:=93,ps:=[dI,.clo 94 [.ref 0 0] []],boxes:=[[.dat (.slice (.int .u8)),.dat .bool]],ins:=(.pair tI (.pair (.slice (.int .u8)) .bool)),nin:=3,outs:=(.pair (.slice tI) (.pair (.slice (.int .u8)) .bool)),rs:=[.dat (.slice tI)],A2:=3,F:=fun x=>AS5 x.1 x.2.1 x.2.2}
theorem Dn0:KO Bm5:=
 cgp (l:=[Bm4]) (.mk .plain [H0,(.mk .plain [H0,(.mk .plain [(.mk .plain [H0,(.mk .plain [(.mk (.loop [sI 7,kB 0 1,⟨.slot 5,(.slice tI),some 1300003⟩,⟨.cell 0 0,(.slice (.int .u8)),none⟩] (zP [10,13,9,12,8,14,11]) [(.exit 0,[kB 0 1,⟨.cell 0 0,(.slice (.int .u8)),none⟩,⟨.slot 5,(.slice tI),some 1300003⟩])]) [])])])])])]) (by simp[Dm9]) Tryz.func93
noncomputable def AS6 [LP](a:(List Int))(b:Bool):Option Ck9:=
 (M9 (8:Int) a b).bind fun c=>
 (Z8 (1:Int) (64:Int) c.2.1 c.2.2).bind fun d=>
 (AS3 d.1 d.2.1 d.2.2).bind fun e=>
 (Z8 (1:Int) (2:Int) e.2.1 e.2.2).bind fun f=>
 (AS5 f.1 f.2.1 f.2.2).bind fun g=>
 let h:Yd1:=(c.1,(e.1,g.1))
 some (h,g.2.1,g.2.2)
noncomputable def Bm6:Con:={f:=56,ps:=[.ref 0 0],boxes:=[[.dat (.slice (.int .u8)),.dat .bool]],ins:=(.pair (.slice (.int .u8)) .bool),nin:=2,outs:=Ck8,rs:=[.dat (.agg Yt1)],A2:=3,F:=fun x=>AS6 x.1 x.2}
theorem Dn1:KO Bm6:=
 cgp (l:=[Aa8,BM4,Bm3,Bm5]) H0 (by simp[Aj8,Bm1,Dm8,Dn0]) Tryz.func56
noncomputable def AS7 [LP](a:Int)(b:(List Int))(c:Bool):Option Cl1:=
 Option.bind (
  LP.lp (X:=Ca9) (fun (d:Cl4)=>
   let e:=d.1
   let f:=d.2.1
   let g:(List Yd1):=d.2.2.1
   let h:(List Int):=d.2.2.2
   (bif (decide (e<a)) then
    (AS6 h f).bind fun i=>
    chk none (decide ((g.length+([i.1]:List Yd1).length)*56≤140737488355328))<|
    let j:(List Yd1):=(g++([i.1]:List Yd1))
    let k:=FD9 .i64 (e+1)
    some (.inl (k,i.2.2,j,i.2.1))
   else
    some (.inr (f,h,g)))) ((0:Int),c,[],b)) fun l=>
 let m:=l.1
 let n:(List Int):=l.2.1
 let o:(List Yd1):=l.2.2
 some (o,n,m)
noncomputable def Bm7:Con:={f:=54,ps:=[dI,.clo 56 [.ref 0 0] []],boxes:=[[.dat (.slice (.int .u8)),.dat .bool]],ins:=(.pair tI (.pair (.slice (.int .u8)) .bool)),nin:=3,outs:=Cl0,rs:=[.dat (.slice (.agg Yt1))],A2:=3,F:=fun x=>AS7 x.1 x.2.1 x.2.2}
theorem Dn2:KO Bm7:=
 cgp (l:=[Bm6]) (.mk .plain [H0,(.mk .plain [H0,(.mk .plain [(.mk .plain [H0,(.mk .plain [(.mk (.loop [sI 7,kB 0 1,⟨.slot 5,(.slice (.agg Yt1)),some 1300157⟩,⟨.cell 0 0,(.slice (.int .u8)),none⟩] (zP [10,13,9,12,8,14,11]) [(.exit 0,[kB 0 1,⟨.cell 0 0,(.slice (.int .u8)),none⟩,⟨.slot 5,(.slice (.agg Yt1)),some 1300157⟩])]) [])])])])])]) (by simp[Dn1]) Tryz.func54
noncomputable def AS8 [LP](a:(List Int))(b:Bool):Option Cl6:=
 (M9 (2:Int) a b).bind fun c=>
 (M9 (1:Int) c.2.1 c.2.2).bind fun d=>
 let e:Yd3:=(c.1,(d.1,((0:Int),((0:Int),(0:Int)))))
 (M9 (8:Int) d.2.1 d.2.2).bind fun f=>
 (M9 (4:Int) f.2.1 f.2.2).bind fun g=>
 (M9 (4:Int) g.2.1 g.2.2).bind fun h=>
 let i:Yd3:=(e.1,(e.2.1,(f.1,(g.1,h.1))))
 some (i,h.2.1,h.2.2)
noncomputable def Bm8:Con:={f:=58,ps:=[.ref 0 0],boxes:=[[.dat (.slice (.int .u8)),.dat .bool]],ins:=(.pair (.slice (.int .u8)) .bool),nin:=2,outs:=Cl5,rs:=[.dat (.agg Yt3)],A2:=3,F:=fun x=>AS8 x.1 x.2}
theorem Dn3:KO Bm8:=
 cgp (l:=[Aa8]) H0 (by simp[Aj8]) Tryz.func58
noncomputable def AS9 [LP](a:Int)(b:(List Int))(c:Bool):Option Cl8:=
 Option.bind (
  LP.lp (X:=Cb1) (fun (d:Cm1)=>
   let e:=d.1
   let f:=d.2.1
   let g:(List Yd3):=d.2.2.1
   let h:(List Int):=d.2.2.2
   (bif (decide (e<a)) then
    (AS8 h f).bind fun i=>
    chk none (decide ((g.length+([i.1]:List Yd3).length)*40≤140737488355328))<|
    let j:(List Yd3):=(g++([i.1]:List Yd3))
    let k:=FD9 .i64 (e+1)
    some (.inl (k,i.2.2,j,i.2.1))
   else
    some (.inr (f,h,g)))) ((0:Int),c,[],b)) fun l=>
 let m:=l.1
 let n:(List Int):=l.2.1
 let o:(List Yd3):=l.2.2
 some (o,n,m)
noncomputable def Bm9:Con:={f:=57,ps:=[dI,.clo 58 [.ref 0 0] []],boxes:=[[.dat (.slice (.int .u8)),.dat .bool]],ins:=(.pair tI (.pair (.slice (.int .u8)) .bool)),nin:=3,outs:=Cl7,rs:=[.dat (.slice (.agg Yt3))],A2:=3,F:=fun x=>AS9 x.1 x.2.1 x.2.2}
theorem Dn4:KO Bm9:=
 cgp (l:=[Bm8]) (.mk .plain [H0,(.mk .plain [H0,(.mk .plain [(.mk .plain [H0,(.mk .plain [(.mk (.loop [sI 7,kB 0 1,⟨.slot 5,(.slice (.agg Yt3)),some 1300160⟩,⟨.cell 0 0,(.slice (.int .u8)),none⟩] (zP [10,13,9,12,8,14,11]) [(.exit 0,[kB 0 1,⟨.cell 0 0,(.slice (.int .u8)),none⟩,⟨.slot 5,(.slice (.agg Yt3)),some 1300160⟩])]) [])])])])])]) (by simp[Dn3]) Tryz.func57
noncomputable def AT0 [LP](a:(List (Int×Int)))(b:Int):Option Int:=
 let c:=((a.length:Int)==(0:Int))
 let d:=(decide ((64:Int)<(a.length:Int)))
 let e:=(bif c then true else d)
 chk none ((true&&(decide ((0:Int)<(a.length:Int))))|| !(!e))<|
 let f:(Int×Int):=(a.getD (0:Int).toNat ((0:Int),(0:Int)))
 let g:=(bif e then true else (f.1 != (0:Int)))
 (bif g then
  some (11:Int)
 else
  Option.bind (α:=Int ⊕ Unit) (
   LP.lp (X:=Int ⊕ Unit) (fun (h:Int)=>
    let i:=decide (h<a.length)
    (bif i then
     chk none (decide (0≤h)&&decide (h<a.length))<|
     let j:(Int×Int):=(a.getD h.toNat ((0:Int),(0:Int)))
     let k:=decide (j.2<(-1048576:Int))
     let l:=decide ((1048576:Int)<j.2)
     let m:=(bif k then true else l)
     let n:=decide (b≤j.1)
     let o:=(bif m then true else n)
     let p:=decide ((0:Int)<h)
     let q:=FD9 .i64 (h-1)
     chk none ((decide (0≤q)&&decide (q<a.length))|| !(p&& !o))<|
     let r:(Int×Int):=(a.getD q.toNat ((0:Int),(0:Int)))
     let s:=decide (j.1≤r.1)
     let t:=(bif p then s else false)
     let u:=(bif o then true else t)
     (bif u then
      some (.inr (.inl (11:Int)))
     else
      let v:=FD9 .i64 (h+1)
      some (.inl v))
    else
     some (.inr (.inr ())))) (0:Int)) fun z=>match z with
  | .inl w=>
   some w
  | .inr _=>
   some (0:Int))
noncomputable def Bn0:Con:={f:=132,ps:=[.dat (.slice (.agg (.pair tI tI))),dI],boxes:=[],ins:=(.pair (.slice (.agg (.pair tI tI))) tI),nin:=2,outs:=tI,rs:=[dI],A2:=1,F:=fun x=>AT0 x.1 x.2}
theorem Dn5:KO Bn0:=
 cgp (l:=[]) (.mk .plain [H0,(.mk .plain [H0,(.mk .plain [(.mk .plain [H0,(.mk .plain [(.mk (.loop [sI 24] (zP [30,36,42,39,45,48,54,51,57,5,26,29,35,32,38,41,47,44,50,53,56,4,28,25,31,34,40,37,43,46,52,49,55,6,27,33,58]) [(.ret,[sI 4]),(.exit 0,[])]) [])])])])])]) (by simp) Tryz.func132
noncomputable def AT1 [LP](a:K7)(b:Yd1):Option Bool:=
 let c:=decide (b.1<(1:Int))
 let d:=decide ((1099511627776:Int)<b.1)
 let e:=(bif c then true else d)
 (bif !e then AT0 b.2.1 b.1 else some (0:Int)).bind fun f=>
 let g:=(bif e then true else (f != (0:Int)))
 let h:=(decide ((2:Int)<(b.2.2.length:Int)))
 let i:=(bif g then true else h)
 (bif i then
  some false
 else
  Option.bind (α:=Bool ⊕ Unit) (
   LP.lp (X:=Bool ⊕ Unit) (fun (j:Int)=>
    let k:=decide (j<b.2.2.length)
    (bif k then
     chk none (decide (0≤j)&&decide (j<b.2.2.length))<|
     let l:=(b.2.2.getD j.toNat 0)
     let m:=decide (l<(0:Int))
     let n:=decide ((a.1.length:Int)≤l)
     let o:=(bif m then true else n)
     let p:=decide ((0:Int)<j)
     let q:=FD9 .i64 (j-1)
     chk none ((decide (0≤q)&&decide (q<b.2.2.length))|| !(p&& !o))<|
     let r:=(b.2.2.getD q.toNat 0)
     let s:=decide (l≤r)
     let t:=(bif p then s else false)
     let u:=(bif o then true else t)
     (bif u then
      some (.inr (.inl false))
     else
      let v:=FD9 .i64 (j+1)
      some (.inl v))
    else
     some (.inr (.inr ())))) (0:Int)) fun z=>match z with
  | .inl w=>
   some w
  | .inr _=>
   some true)
noncomputable def Bn1:Con:={f:=95,ps:=[.dat (.agg E1),.dat (.agg Yt1)],boxes:=[],ins:=Cm2,nin:=2,outs:=.bool,rs:=[.dat .bool],A2:=1,F:=fun x=>AT1 x.1 x.2}
theorem Dn6:KO Bn1:=
 cgp (l:=[Bn0]) (.mk .plain [H0,(.mk .plain [H0,(.mk .plain [(.mk .plain [H0,(.mk .plain [(.mk (.loop [sI 32] (zP [36,42,4,39,45,48,54,51,57,5,34,40,37,43,46,52,49,55,35,58,38,6,41,47,33,44,50,53,59,56,60]) [(.ret,[sB 4]),(.exit 0,[])]) [])])])])])]) (by simp[Dn5]) Tryz.func95
noncomputable def Ax1 [LP](a:K7)(b:Int)(c:Yd3):Option Bool:=
 let d:=decide (c.1<(1:Int))
 let e:=decide ((65535:Int)<c.1)
 let f:=(bif d then true else e)
 let g:=decide ((0:Int)<b)
 let h:=FD9 .i64 (b-1)
 chk none ((decide (0≤h)&&decide (h<a.2.length))|| !(g&& !f))<|
 let i:Yd3:=(a.2.getD h.toNat ((0:Int),((0:Int),((0:Int),((0:Int),(0:Int))))))
 let j:=(bif g then (decide (c.1≤i.1)) else false)
 let k:=(bif f then true else j)
 let l:=decide (c.2.1<(0:Int))
 let m:=(bif k then true else l)
 let n:=decide ((a.1.length:Int)≤c.2.1)
 let o:=(bif m then true else n)
 (bif o then
  some false
 else
  let p:=decide ((0:Int)≤c.2.2.1)
  chk none ((decide (0≤c.2.1)&&decide (c.2.1<a.1.length))|| !p)<|
  let q:Yd1:=(a.1.getD c.2.1.toNat ((0:Int),([],[])))
  let r:=decide (c.2.2.1≤q.1)
  let s:=(bif p then r else false)
  let t:=decide ((0:Int)≤c.2.2.2.1)
  let u:=(bif s then t else false)
  let v:=decide (c.2.2.2.1≤(1048576:Int))
  let w:=(bif u then v else false)
  let y:=decide ((0:Int)≤c.2.2.2.2)
  let a0:=(bif w then y else false)
  let a1:=decide (c.2.2.2.2≤(16777216:Int))
  let a2:=(bif a0 then a1 else false)
  some a2)
noncomputable def Bn2:Con:={f:=96,ps:=[.dat (.agg E1),dI,.dat (.agg Yt3)],boxes:=[],ins:=Cm4,nin:=3,outs:=.bool,rs:=[.dat .bool],A2:=1,F:=fun x=>Ax1 x.1 x.2.1 x.2.2}
theorem Dn7:KO Bn2:=
 cgp (l:=[]) H0 (by simp) Tryz.func96
noncomputable def AL4 [LP](a:K7):Option (Int×Int):=
 let b:=((a.1.length:Int)==(0:Int))
 let c:=(decide ((200:Int)<(a.1.length:Int)))
 let d:=(bif b then true else c)
 let e:=(decide ((400:Int)<(a.2.length:Int)))
 let f:=(bif d then true else e)
 (bif f then
  some ((13:Int),(0:Int))
 else
  Option.bind (α:=(Int×Int) ⊕ Unit) (
   LP.lp (X:=(Int×Int) ⊕ Unit) (fun (g:Int)=>
    let h:=decide (g<a.1.length)
    (bif h then
     chk none (decide (0≤g)&&decide (g<a.1.length))<|
     let i:Yd1:=(a.1.getD g.toNat ((0:Int),([],[])))
     (AT1 a i).bind fun j=>
     (bif (!j) then
      some (.inr (.inl (g,(11:Int))))
     else
      let k:=FD9 .i64 (g+1)
      some (.inl k))
    else
     some (.inr (.inr ())))) (0:Int)) fun z=>match z with
  | .inl l=>
   let m:=l.1
   let n:=l.2
   some (n,m)
  | .inr _=>
   Option.bind (α:=(Int×Int) ⊕ Unit) (
    LP.lp (X:=(Int×Int) ⊕ Unit) (fun (o:Int)=>
     let p:=decide (o<a.2.length)
     (bif p then
      chk none (decide (0≤o)&&decide (o<a.2.length))<|
      let q:Yd3:=(a.2.getD o.toNat ((0:Int),((0:Int),((0:Int),((0:Int),(0:Int))))))
      (Ax1 a o q).bind fun r=>
      (bif (!r) then
       some (.inr (.inl ((16:Int),o)))
      else
       let s:=FD9 .i64 (o+1)
       some (.inl s))
     else
      some (.inr (.inr ())))) (0:Int)) fun z=>match z with
   | .inl t=>
    let u:=t.1
    let v:=t.2
    some (u,v)
   | .inr _=>
    some ((0:Int),(0:Int)))
noncomputable def BM5:Con:={f:=59,ps:=[.dat (.agg E1)],boxes:=[],ins:=(.agg E1),nin:=1,outs:=(.pair tI tI),rs:=[dI,dI],A2:=2,F:=fun x=>AL4 x}
theorem Bn3:KO BM5:=
 cgp (l:=[Bn1,Bn2]) (.mk .plain [H0,(.mk .plain [H0,(.mk .plain [(.mk .plain [H0,(.mk .plain [(.mk (.loop [sI 27] (zP [30,36,4,29,35,3,32,28,2,31,5,34,33,37]) [(.ret,[sI 3,sI 2]),(.exit 0,[])]) [])])]),(.mk .plain [(.mk .plain [H0,(.mk .plain [(.mk (.loop [sI 41] (zP [7,42,45,48,51,2,43,46,49,3,6,47,44,50,52]) [(.ret,[sI 2,sI 3]),(.exit 2,[])]) [])])])])])])]) (by simp[Dn6,Dn7]) Tryz.func59
noncomputable def AL5 [LP](a:(List Int)):Option Cm5:=
 let b:=(decide ((1048576:Int)<(a.length:Int)))
 (bif b then
  some (([],[]),(15:Int))
 else
  let c:=(decide ((a.length:Int)<(6:Int)))
  chk none ((true&&true&&(decide ((4:Int)≤(a.length:Int))))|| !(!c))<|
  let d:(List Int):=((a.take (4:Int).toNat).drop (0:Int).toNat)
  let e:=(!((bytesOf d).toList==(⟨#[79,68,79,49]⟩:ByteArray).toList))
  let f:=(bif c then true else e)
  (bif f then
   some (([],[]),(11:Int))
  else
   (AL3 a).bind fun g=>
   (bif (g != (0:Int)) then
    some (([],[]),(31:Int))
   else
    let h:=(FD9 .i64 ((a.length:Int)-(2:Int)))
    chk none (true&&(decide ((4:Int)≤h))&&(decide (h≤(a.length:Int))))<|
    let i:(List Int):=((a.take h.toNat).drop (4:Int).toNat)
    (Z8 (2:Int) (200:Int) ((i,false).1) ((i,false).2)).bind fun j=>
    (AS7 j.1 j.2.1 j.2.2).bind fun k=>
    (Z8 (2:Int) (400:Int) k.2.1 k.2.2).bind fun l=>
    (AS9 l.1 l.2.1 l.2.2).bind fun m=>
    let n:=(m.2.1.length:Int)
    let o:=decide ((0:Int)<n)
    let p:=(bif m.2.2 then true else o)
    (bif p then
     some (([],[]),(14:Int))
    else
     (AL4 (k.1,m.1)).bind fun q=>
     (bif (q.1 != (0:Int)) then
      some (([],[]),(51:Int))
     else
      let r:K7:=(k.1,m.1)
      some (r,(0:Int)))))))
noncomputable def BM6:Con:={f:=32,ps:=[.dat (.slice (.int .u8))],boxes:=[],ins:=(.slice (.int .u8)),nin:=1,outs:=Bi4,rs:=[.dat (.agg E1),dI],A2:=2,F:=fun x=>AL5 x}
theorem Dn8:KO BM6:=
 cgp (l:=[BM3,BM4,Bm7,Bm9,BM5]) H0 (by simp[Bm0,Bm1,Dn2,Dn4,Bn3]) Tryz.func32
noncomputable def Aj9 [LP](a:F2):Option F2:=
 let pA:=a.2.2.2.2
 let pB:=pA.2.2.2.2
 some (a.1,a.2.1,a.2.2.1,a.2.2.2.1,pA.1,pA.2.1,pA.2.2.1,pA.2.2.2.1,pB.1,pB.2.1,pB.2.2.1,pB.2.2.2.1,pB.2.2.2.2.1,pB.2.2.2.2.2)
noncomputable def Ax2:J1:={f:=97,ps:=[.dat (.agg C4)],ins:=(.agg C4),nin:=1,outs:=C4,rs:=[.sl [.clo 133 [] [.ref 0 0],.clo 135 [] [.ref 0 0],.clo 136 [] [.ref 0 0],.clo 137 [] [.ref 0 0],.clo 138 [] [.ref 0 0],.clo 139 [] [.ref 0 0],.clo 140 [] [.ref 0 0],.clo 141 [] [.ref 0 0],.clo 142 [] [.ref 0 0],.clo 143 [] [.ref 0 0],.clo 145 [] [.ref 0 0],.clo 146 [] [.ref 0 0]]],new:=[dI,dI,dI,dI,dI,dI,dI,dI,dI,dI,dI,dI,dI,dI],A2:=14,F:=fun x=>Aj9 x}
def Dn9:Hint:=H0
theorem Do0:runN ⟨N8 tys,[],[],[],[]⟩ Ax2 Tryz.f97 Dn9=Ax2.F:=by
 funext x
 kernel_rfl
theorem Do1:NOK Tryz.prog Ax2:=
 Bg4 (Γ:=⟨N8 tys,[],[],[],[]⟩) ⟨fun T d h=>AF4 tys AL2 T d h,by simp[],by simp[],by simp[],AK4 Tryz.prog [] (by kernel_rfl)⟩ (by kernel_rfl) Tryz.func97 rfl (by kernel_rfl) Do0
noncomputable def Q3 [LP](a b c:Int):Option Bool:=
 let d:=(bif (decide (b≤a)) then (decide (a≤c)) else false)
 some d
noncomputable def AA4:Con:={f:=134,ps:=[dI,dI,dI],boxes:=[],ins:=(.pair tI (.pair tI tI)),nin:=3,outs:=.bool,rs:=[.dat .bool],A2:=1,F:=fun x=>Q3 x.1 x.2.1 x.2.2}
theorem AC7:KO AA4:=
 cgp (l:=[]) H0 (by simp) Tryz.func134
noncomputable def Ak0 [LP](a b c d e f g h i j k l m n:Int):Option Z5:=
 (Q3 a (1:Int) (1024:Int)).bind fun o=>
 some (o,a,b,c,d,e,f,g,h,i,j,k,l,m,n)
noncomputable def Bn4:Con:={f:=133,ps:=[.ref 0 0],boxes:=[[dI,dI,dI,dI,dI,dI,dI,dI,dI,dI,dI,dI,dI,dI]],ins:=C4,nin:=14,outs:=Z4,rs:=[.dat .bool],A2:=15,F:=fun x=>let a:=x.2.2.2.2.2.2.2.2;Ak0 x.1 x.2.1 x.2.2.1 x.2.2.2.1 x.2.2.2.2.1 x.2.2.2.2.2.1 x.2.2.2.2.2.2.1 x.2.2.2.2.2.2.2.1 x.2.2.2.2.2.2.2.2.1 a.2.1 a.2.2.1 a.2.2.2.1 a.2.2.2.2.1 a.2.2.2.2.2}
theorem Do2:KO Bn4:=
 cgp (l:=[AA4]) H0 (by simp[AC7]) Tryz.func133
noncomputable def Ak1 [LP](a b c d e f g h i j k l m n:Int):Option Z5:=
 (Q3 b (131072:Int) (8388608:Int)).bind fun o=>
 (bif o then Q3 c b (8388608:Int) else some false).bind fun p=>
 let q:=(bif o then p else false)
 some (q,a,b,c,d,e,f,g,h,i,j,k,l,m,n)
noncomputable def Bn5:Con:={f:=135,ps:=[.ref 0 0],boxes:=[[dI,dI,dI,dI,dI,dI,dI,dI,dI,dI,dI,dI,dI,dI]],ins:=C4,nin:=14,outs:=Z4,rs:=[.dat .bool],A2:=15,F:=fun x=>let a:=x.2.2.2.2.2.2.2.2;Ak1 x.1 x.2.1 x.2.2.1 x.2.2.2.1 x.2.2.2.2.1 x.2.2.2.2.2.1 x.2.2.2.2.2.2.1 x.2.2.2.2.2.2.2.1 x.2.2.2.2.2.2.2.2.1 a.2.1 a.2.2.1 a.2.2.2.1 a.2.2.2.2.1 a.2.2.2.2.2}
theorem Do3:KO Bn5:=
 cgp (l:=[AA4]) H0 (by simp[AC7]) Tryz.func135
noncomputable def Ak2 [LP](a b c d e f g h i j k l m n:Int):Option Z5:=
 let o:=FD9 .i64 (c-b)
 let p:=FD9 .i64 ((16:Int)*o)
 some ((decide (p≤b)),a,b,c,d,e,f,g,h,i,j,k,l,m,n)
noncomputable def Bn6:Con:={f:=136,ps:=[.ref 0 0],boxes:=[[dI,dI,dI,dI,dI,dI,dI,dI,dI,dI,dI,dI,dI,dI]],ins:=C4,nin:=14,outs:=Z4,rs:=[.dat .bool],A2:=15,F:=fun x=>let a:=x.2.2.2.2.2.2.2.2;Ak2 x.1 x.2.1 x.2.2.1 x.2.2.2.1 x.2.2.2.2.1 x.2.2.2.2.2.1 x.2.2.2.2.2.2.1 x.2.2.2.2.2.2.2.1 x.2.2.2.2.2.2.2.2.1 a.2.1 a.2.2.1 a.2.2.2.1 a.2.2.2.2.1 a.2.2.2.2.2}
theorem Do4:KO Bn6:=
 cgp (l:=[]) H0 (by simp) Tryz.func136
noncomputable def Ak3 [LP](a b c d e f g h i j k l m n:Int):Option Z5:=
 (Q3 d (0:Int) (1048576:Int)).bind fun o=>
 (bif o then Q3 e (0:Int) (65536:Int) else some false).bind fun p=>
 let q:=(bif o then p else false)
 some (q,a,b,c,d,e,f,g,h,i,j,k,l,m,n)
noncomputable def Bn7:Con:={f:=137,ps:=[.ref 0 0],boxes:=[[dI,dI,dI,dI,dI,dI,dI,dI,dI,dI,dI,dI,dI,dI]],ins:=C4,nin:=14,outs:=Z4,rs:=[.dat .bool],A2:=15,F:=fun x=>let a:=x.2.2.2.2.2.2.2.2;Ak3 x.1 x.2.1 x.2.2.1 x.2.2.2.1 x.2.2.2.2.1 x.2.2.2.2.2.1 x.2.2.2.2.2.2.1 x.2.2.2.2.2.2.2.1 x.2.2.2.2.2.2.2.2.1 a.2.1 a.2.2.1 a.2.2.2.1 a.2.2.2.2.1 a.2.2.2.2.2}
theorem Do5:KO Bn7:=
 cgp (l:=[AA4]) H0 (by simp[AC7]) Tryz.func137
noncomputable def Ak4 [LP](a b c d e f g h i j k l m n:Int):Option Z5:=
 (Q3 f (0:Int) (1048576:Int)).bind fun o=>
 some (o,a,b,c,d,e,f,g,h,i,j,k,l,m,n)
noncomputable def Bn8:Con:={f:=138,ps:=[.ref 0 0],boxes:=[[dI,dI,dI,dI,dI,dI,dI,dI,dI,dI,dI,dI,dI,dI]],ins:=C4,nin:=14,outs:=Z4,rs:=[.dat .bool],A2:=15,F:=fun x=>let a:=x.2.2.2.2.2.2.2.2;Ak4 x.1 x.2.1 x.2.2.1 x.2.2.2.1 x.2.2.2.2.1 x.2.2.2.2.2.1 x.2.2.2.2.2.2.1 x.2.2.2.2.2.2.2.1 x.2.2.2.2.2.2.2.2.1 a.2.1 a.2.2.1 a.2.2.2.1 a.2.2.2.2.1 a.2.2.2.2.2}
theorem Do6:KO Bn8:=
 cgp (l:=[AA4]) H0 (by simp[AC7]) Tryz.func138
noncomputable def Ak5 [LP](a b c d e f g h i j k l m n:Int):Option Z5:=
 (Q3 g (1:Int) (16777216:Int)).bind fun o=>
 (bif o then Q3 h (1:Int) (1048576:Int) else some false).bind fun p=>
 let q:=(bif o then p else false)
 some (q,a,b,c,d,e,f,g,h,i,j,k,l,m,n)
noncomputable def Bn9:Con:={f:=139,ps:=[.ref 0 0],boxes:=[[dI,dI,dI,dI,dI,dI,dI,dI,dI,dI,dI,dI,dI,dI]],ins:=C4,nin:=14,outs:=Z4,rs:=[.dat .bool],A2:=15,F:=fun x=>let a:=x.2.2.2.2.2.2.2.2;Ak5 x.1 x.2.1 x.2.2.1 x.2.2.2.1 x.2.2.2.2.1 x.2.2.2.2.2.1 x.2.2.2.2.2.2.1 x.2.2.2.2.2.2.2.1 x.2.2.2.2.2.2.2.2.1 a.2.1 a.2.2.1 a.2.2.2.1 a.2.2.2.2.1 a.2.2.2.2.2}
theorem Do7:KO Bn9:=
 cgp (l:=[AA4]) H0 (by simp[AC7]) Tryz.func139
noncomputable def Ak6 [LP](a b c d e f g h i j k l m n:Int):Option Z5:=
 let o:=FD9 .i64 (g*a)
 let p:=FD9 .i64 ((32000:Int)*b)
 some ((decide (o≤p)),a,b,c,d,e,f,g,h,i,j,k,l,m,n)
noncomputable def Bo0:Con:={f:=140,ps:=[.ref 0 0],boxes:=[[dI,dI,dI,dI,dI,dI,dI,dI,dI,dI,dI,dI,dI,dI]],ins:=C4,nin:=14,outs:=Z4,rs:=[.dat .bool],A2:=15,F:=fun x=>let a:=x.2.2.2.2.2.2.2.2;Ak6 x.1 x.2.1 x.2.2.1 x.2.2.2.1 x.2.2.2.2.1 x.2.2.2.2.2.1 x.2.2.2.2.2.2.1 x.2.2.2.2.2.2.2.1 x.2.2.2.2.2.2.2.2.1 a.2.1 a.2.2.1 a.2.2.2.1 a.2.2.2.2.1 a.2.2.2.2.2}
theorem Do8:KO Bo0:=
 cgp (l:=[]) H0 (by simp) Tryz.func140
noncomputable def Ak7 [LP](a b c d e f g h i j k l m n:Int):Option Z5:=
 (Q3 i (0:Int) (1048576:Int)).bind fun o=>
 some (o,a,b,c,d,e,f,g,h,i,j,k,l,m,n)
noncomputable def Bo1:Con:={f:=141,ps:=[.ref 0 0],boxes:=[[dI,dI,dI,dI,dI,dI,dI,dI,dI,dI,dI,dI,dI,dI]],ins:=C4,nin:=14,outs:=Z4,rs:=[.dat .bool],A2:=15,F:=fun x=>let a:=x.2.2.2.2.2.2.2.2;Ak7 x.1 x.2.1 x.2.2.1 x.2.2.2.1 x.2.2.2.2.1 x.2.2.2.2.2.1 x.2.2.2.2.2.2.1 x.2.2.2.2.2.2.2.1 x.2.2.2.2.2.2.2.2.1 a.2.1 a.2.2.1 a.2.2.2.1 a.2.2.2.2.1 a.2.2.2.2.2}
theorem Do9:KO Bo1:=
 cgp (l:=[AA4]) H0 (by simp[AC7]) Tryz.func141
noncomputable def Ak8 [LP](a b c d e f g h i j k l m n:Int):Option Z5:=
 (Q3 j (1:Int) (1000:Int)).bind fun o=>
 (bif o then Q3 m (1:Int) (1000:Int) else some false).bind fun p=>
 let q:=(bif o then p else false)
 some (q,a,b,c,d,e,f,g,h,i,j,k,l,m,n)
noncomputable def Bo2:Con:={f:=142,ps:=[.ref 0 0],boxes:=[[dI,dI,dI,dI,dI,dI,dI,dI,dI,dI,dI,dI,dI,dI]],ins:=C4,nin:=14,outs:=Z4,rs:=[.dat .bool],A2:=15,F:=fun x=>let a:=x.2.2.2.2.2.2.2.2;Ak8 x.1 x.2.1 x.2.2.1 x.2.2.2.1 x.2.2.2.2.1 x.2.2.2.2.2.1 x.2.2.2.2.2.2.1 x.2.2.2.2.2.2.2.1 x.2.2.2.2.2.2.2.2.1 a.2.1 a.2.2.1 a.2.2.2.1 a.2.2.2.2.1 a.2.2.2.2.2}
theorem Dp0:KO Bo2:=
 cgp (l:=[AA4]) H0 (by simp[AC7]) Tryz.func142
noncomputable def AT2 [LP](a:Int):Option Int:=
 let b:=decide (a<(0:Int))
 (bif b then
  let c:=FD9 .u64 (0-(FD9 .u64 a))
  some c
 else
  some (FD9 .u64 a))
noncomputable def Bo3:Con:={f:=191,ps:=[dI],boxes:=[],ins:=tI,nin:=1,outs:=(.int .u64),rs:=[.dat (.int .u64)],A2:=1,F:=fun x=>AT2 x}
theorem Dp1:KO Bo3:=
 cgp (l:=[]) H0 (by simp) Tryz.func191
noncomputable def AT3 [LP](a b:Int):Option (Int×Int):=
 let c:=(bits .u64 .and a (4294967295:Int))
 let d:=(bits .u64 .and b (4294967295:Int))
 let e:=FD9 .u64 (c*d)
 let f:=(FD9 .u64 ((a.fdiv (2 ^ 32))*d))
 let g:=(FD9 .u64 (f+(e.fdiv (2 ^ 32))))
 let h:=(FD9 .u64 (c*(b.fdiv (2 ^ 32))))
 let i:=(bits .u64 .and g (4294967295:Int))
 let j:=FD9 .u64 (h+i)
 let k:=(FD9 .u64 ((a.fdiv (2 ^ 32))*(b.fdiv (2 ^ 32))))
 let l:=(FD9 .u64 (k+(g.fdiv (2 ^ 32))))
 let m:=(FD9 .u64 (l+(j.fdiv (2 ^ 32))))
 let n:=FD9 .u64 (j*2 ^ 32)
 let o:=(bits .u64 .and e (4294967295:Int))
 let p:=(bits .u64 .or n o)
 let q:(Int×Int):=(m,p)
 some q
noncomputable def Ax3:Con:={f:=165,ps:=[.dat (.int .u64),.dat (.int .u64)],boxes:=[],ins:=(.pair (.int .u64) (.int .u64)),nin:=2,outs:=(.agg (.pair (.int .u64) (.int .u64))),rs:=[.dat (.agg (.pair (.int .u64) (.int .u64)))],A2:=1,F:=fun x=>AT3 x.1 x.2}
theorem BM7:KO Ax3:=
 cgp (l:=[]) H0 (by simp) Tryz.func165
noncomputable def Aa9 [LP](a:(Int×Int))(b:Int):Option (Int×Int):=
 let c:=decide (b≤(0:Int))
 (bif c then
  some a
 else
  let d:=decide ((64:Int)≤b)
  (bif d then
   let e:=FD9 .i64 (b-64)
   let f:=(FD9 .u64 e)
   chk none (decide ((0:Int)≤f))<|
   let g:=FD9 .u64 (a.2*2 ^ (min f.toNat 64))
   let h:(Int×Int):=(g,(0:Int))
   some h
  else
   chk none (decide ((0:Int)≤(FD9 .u64 b)))<|
   let i:=(FD9 .u64 (a.1*2 ^ (min (FD9 .u64 b).toNat 64)))
   let j:=FD9 .i64 ((64:Int)-b)
   let k:=(FD9 .u64 j)
   chk none (decide ((0:Int)≤k))<|
   let l:=(a.2.fdiv (2 ^ (min k.toNat 64)))
   let m:=(bits .u64 .or i l)
   chk none (decide ((0:Int)≤(FD9 .u64 b)))<|
   let n:=(FD9 .u64 (a.2*2 ^ (min (FD9 .u64 b).toNat 64)))
   let o:(Int×Int):=(m,n)
   some o))
noncomputable def Bo4:Con:={f:=209,ps:=[.dat (.agg (.pair (.int .u64) (.int .u64))),dI],boxes:=[],ins:=(.pair (.agg (.pair (.int .u64) (.int .u64))) tI),nin:=2,outs:=(.agg (.pair (.int .u64) (.int .u64))),rs:=[.dat (.agg (.pair (.int .u64) (.int .u64)))],A2:=1,F:=fun x=>Aa9 x.1 x.2}
theorem Dp2:KO Bo4:=
 cgp (l:=[]) H0 (by simp) Tryz.func209
noncomputable def Ak9 [LP](a:(Int×Int))(b:Int):Option (Int×Int):=
 let c:=decide (b≤(0:Int))
 (bif c then
  some a
 else
  let d:=decide ((64:Int)≤b)
  (bif d then
   let e:=FD9 .i64 (b-64)
   let f:=(FD9 .u64 e)
   chk none (decide ((0:Int)≤f))<|
   let g:=(a.1.fdiv (2 ^ (min f.toNat 64)))
   let h:(Int×Int):=((0:Int),g)
   some h
  else
   chk none (decide ((0:Int)≤(FD9 .u64 b)))<|
   let i:=(a.1.fdiv (2 ^ (min (FD9 .u64 b).toNat 64)))
   chk none (decide ((0:Int)≤(FD9 .u64 b)))<|
   let j:=(a.2.fdiv (2 ^ (min (FD9 .u64 b).toNat 64)))
   let k:=FD9 .i64 ((64:Int)-b)
   let l:=(FD9 .u64 k)
   chk none (decide ((0:Int)≤l))<|
   let m:=FD9 .u64 (a.1*2 ^ (min l.toNat 64))
   let n:=(bits .u64 .or j m)
   let o:(Int×Int):=(i,n)
   some o))
noncomputable def Bo5:Con:={f:=210,ps:=[.dat (.agg (.pair (.int .u64) (.int .u64))),dI],boxes:=[],ins:=(.pair (.agg (.pair (.int .u64) (.int .u64))) tI),nin:=2,outs:=(.agg (.pair (.int .u64) (.int .u64))),rs:=[.dat (.agg (.pair (.int .u64) (.int .u64)))],A2:=1,F:=fun x=>Ak9 x.1 x.2}
theorem Dp3:KO Bo5:=
 cgp (l:=[]) H0 (by simp) Tryz.func210
noncomputable def AL6 [LP](a b:(Int×Int)):Option Int:=
 let c:=(eqT (.agg (.pair (.int .u64) (.int .u64))) a b)
 (bif c then
  some (0:Int)
 else
  let d:=(bif (a.1==b.1) then (decide (a.2<b.2)) else false)
  let e:=(bif (decide (a.1<b.1)) then true else d)
  (bif e then
   some (-1:Int)
  else
   some (1:Int)))
noncomputable def Al0:Con:={f:=178,ps:=[.dat (.agg (.pair (.int .u64) (.int .u64))),.dat (.agg (.pair (.int .u64) (.int .u64)))],boxes:=[],ins:=BL2,nin:=2,outs:=tI,rs:=[dI],A2:=1,F:=fun x=>AL6 x.1 x.2}
theorem Ax4:KO Al0:=
 cgp (l:=[]) H0 (by simp) Tryz.func178
noncomputable def Al1 [LP](a b:(Int×Int)):Option ((Int×Int)×Bool):=
 let c:=FD9 .u64 (a.1-b.1)
 let d:=FD9 .u64 (a.2-b.2)
 let e:(Int×Int):=(c,d)
 Option.bind (
  (bif (decide (a.2<b.2)) then
   let f:=FD9 .u64 (e.1-1)
   some f
  else
   some e.1)) fun g=>
 (AL6 a b).bind fun h=>
 let i:=decide (h<(0:Int))
 let j:(Int×Int):=(g,e.2)
 some (j,i)
noncomputable def Bo6:Con:={f:=211,ps:=[.dat (.agg (.pair (.int .u64) (.int .u64))),.dat (.agg (.pair (.int .u64) (.int .u64)))],boxes:=[],ins:=BL2,nin:=2,outs:=(.pair (.agg (.pair (.int .u64) (.int .u64))) .bool),rs:=[.dat (.agg (.pair (.int .u64) (.int .u64))),.dat .bool],A2:=2,F:=fun x=>Al1 x.1 x.2}
theorem Dp4:KO Bo6:=
 cgp (l:=[Al0]) (.mk .plain [H0,(.mk .plain [H0,(.mk .plain [(.mk .plain [H0,(.mk (.join (zP [23,25,26,24]) [(.normal,[⟨.cell 3 0,(.int .u64),none⟩])]) [])])])])]) (by simp[Ax4]) Tryz.func211
noncomputable def AL7 [LP](a:(Int×Int))(b:Int):Option Cm7:=
 (bif (b==(0:Int)) then
  let c:(Int×Int):=((0:Int),(0:Int))
  some (c,(0:Int),(21:Int))
 else
  let d:(Int×Int):=((0:Int),(0:Int))
  Option.bind (
   LP.lp (X:=Cb2) (fun (e:Cm9)=>
    let f:=e.1
    let g:=e.2.1
    let h:=e.2.2.1
    let i:=e.2.2.2.1
    let j:=e.2.2.2.2
    let k:=decide ((0:Int)≤j)
    (bif k then
     (Aa9 (f,i) (1:Int)).bind fun l=>
     (Ak9 a j).bind fun m=>
     let n:=(bits .u64 .and m.2 (1:Int))
     let o:=(bits .u64 .or l.2 n)
     (Aa9 (h,g) (1:Int)).bind fun p=>
     (AL6 (l.1,o) ((0:Int),b)).bind fun q=>
     let r:=decide ((0:Int)≤q)
     Option.bind (
      (bif r then
       (Al1 (l.1,o) ((0:Int),b)).bind fun s=>
       let t:=(bits .u64 .or p.2 (1:Int))
       some (s.1.1,t,s.1.2)
      else
       some (l.1,p.2,o))) fun u=>
     let v:=u.1
     let w:=u.2.1
     let y:=u.2.2
     let a0:=FD9 .i64 (j-1)
     some (.inl (v,w,p.1,y,a0))
    else
     some (.inr (f,g,h,i)))) (d.1,(0:Int),(0:Int),d.2,(127:Int))) fun a1=>
  let a2:=a1.1
  let a3:=a1.2.1
  let a4:=a1.2.2.1
  let a5:=a1.2.2.2
  let a6:(Int×Int):=(a4,a3)
  some (a6,a5,(0:Int)))
noncomputable def Bo7:Con:={f:=192,ps:=[.dat (.agg (.pair (.int .u64) (.int .u64))),.dat (.int .u64)],boxes:=[],ins:=(.pair (.agg (.pair (.int .u64) (.int .u64))) (.int .u64)),nin:=2,outs:=Cm6,rs:=[.dat (.agg (.pair (.int .u64) (.int .u64))),.dat (.int .u64),dI],A2:=3,F:=fun x=>AL7 x.1 x.2}
theorem Dp5:KO Bo7:=
 cgp (l:=[Bo4,Bo5,Al0,Bo6]) (.mk .plain [H0,(.mk .plain [H0,(.mk .plain [H0,(.mk .plain [H0,(.mk .plain [(.mk .plain [H0,(.mk .plain [(.mk (.loop [⟨.cell 3 0,(.int .u64),none⟩,⟨.cell 2 1,(.int .u64),none⟩,⟨.cell 2 0,(.int .u64),none⟩,⟨.cell 3 1,(.int .u64),none⟩,sI 9] (zP [30,36,42,39,45,14,17,23,20,26,29,35,32,38,41,44,16,19,22,28,25,31,34,40,37,43,46,15,21,18,24,27,33]) [(.exit 0,[⟨.cell 3 0,(.int .u64),none⟩,⟨.cell 2 1,(.int .u64),none⟩,⟨.cell 2 0,(.int .u64),none⟩,⟨.cell 3 1,(.int .u64),none⟩])]) [(.mk .plain [H0,(.mk .plain [(.mk .plain [(.mk .plain [H0,(.mk .plain [H0,(.mk .plain [H0,(.mk .plain [H0,(.mk (.join (zP [46,36,42,43,39,45,38,41,44,40,37]) [(.normal,[⟨.cell 3 0,(.int .u64),none⟩,⟨.cell 2 1,(.int .u64),none⟩,⟨.cell 3 1,(.int .u64),none⟩])]) [])])])])])])])])])])])])])])])]) (by simp[Dp2,Dp3,Ax4,Dp4]) Tryz.func192
noncomputable def Al2 [LP](a b:(Int×Int)):Option ((Int×Int)×Bool):=
 let c:=FD9 .u64 (a.2+b.2)
 let d:(Int×Int):=((0:Int),c)
 let e:=FD9 .u64 (a.1+b.1)
 Option.bind (
  (bif (decide (d.2<a.2)) then
   let f:=FD9 .u64 (e+1)
   let g:=(bif (decide (e<a.1)) then true else (f==(0:Int)))
   some (f,g)
  else
   some (e,(decide (e<a.1))))) fun h=>
 let i:=h.1
 let j:=h.2
 let k:(Int×Int):=(i,d.2)
 some (k,j)
noncomputable def Bo8:Con:={f:=193,ps:=[.dat (.agg (.pair (.int .u64) (.int .u64))),.dat (.agg (.pair (.int .u64) (.int .u64)))],boxes:=[],ins:=BL2,nin:=2,outs:=(.pair (.agg (.pair (.int .u64) (.int .u64))) .bool),rs:=[.dat (.agg (.pair (.int .u64) (.int .u64))),.dat .bool],A2:=2,F:=fun x=>Al2 x.1 x.2}
theorem Dp6:KO Bo8:=
 cgp (l:=[]) (.mk .plain [H0,(.mk .plain [H0,(.mk .plain [H0,(.mk .plain [H0,(.mk .plain [(.mk .plain [H0,(.mk (.join (zP [30,36,39,35,32,38,31,34,37,33]) [(.normal,[⟨.cell 3 0,(.int .u64),none⟩,sB 7])]) [])])])])])])]) (by simp) Tryz.func193
noncomputable def Al3 [LP](a:(Int×Int))(b:Bool):Option (Int×Int):=
 let c:(Int×Int):=((0:Int),(9223372036854775807:Int))
 Option.bind (
  (bif b then
   let d:=FD9 .u64 (c.2+1)
   some d
  else
   some c.2)) fun e=>
 (AL6 a (c.1,e)).bind fun f=>
 let g:=decide ((0:Int)<f)
 (bif g then
  some ((0:Int),(20:Int))
 else
  (bif b then
   let h:=FD9 .u64 (0-a.2)
   let i:=(FD9 .i64 h)
   some (i,(0:Int))
  else
   let j:=(FD9 .i64 a.2)
   some (j,(0:Int))))
noncomputable def Bo9:Con:={f:=194,ps:=[.dat (.agg (.pair (.int .u64) (.int .u64))),.dat .bool],boxes:=[],ins:=(.pair (.agg (.pair (.int .u64) (.int .u64))) .bool),nin:=2,outs:=(.pair tI tI),rs:=[dI,dI],A2:=2,F:=fun x=>Al3 x.1 x.2}
theorem Dp7:KO Bo9:=
 cgp (l:=[Al0]) (.mk .plain [H0,(.mk .plain [H0,(.mk .plain [(.mk .plain [H0,(.mk (.join (zP [12,10,9,11]) [(.normal,[⟨.cell 1 1,(.int .u64),none⟩])]) [])])])])]) (by simp[Ax4]) Tryz.func194
noncomputable def AG3 [LP](a b c:Int)(d:Bool):Option (Int×Int):=
 (bif (c==(0:Int)) then
  some ((0:Int),(21:Int))
 else
  let e:=decide (a<(0:Int))
  let f:=decide (b<(0:Int))
  let g:=decide (c<(0:Int))
  let h:=(!((!(e==f))==g))
  (AT2 a).bind fun i=>
  (AT2 b).bind fun j=>
  (AT3 i j).bind fun k=>
  (AT2 c).bind fun l=>
  (AL7 k l).bind fun m=>
  let n:=decide ((0:Int)<m.2.1)
  let o:=(bif n then (!(d==h)) else false)
  Option.bind (
   (bif o then
    (Al2 m.1 ((0:Int),(1:Int))).bind fun p=>
    some (p.1.2,p.1.1)
   else
    some (m.1.2,m.1.1))) fun q=>
  let r:=q.1
  let s:=q.2
  (Al3 (s,r) h).bind fun t=>
  some (t.1,t.2))
noncomputable def BM8:Con:={f:=179,ps:=[dI,dI,dI,.dat .bool],boxes:=[],ins:=Bh4,nin:=4,outs:=(.pair tI tI),rs:=[dI,dI],A2:=2,F:=fun x=>AG3 x.1 x.2.1 x.2.2.1 x.2.2.2}
theorem Bp0:KO BM8:=
 cgp (l:=[Bo3,Ax3,Bo7,Bo8,Bo9]) (.mk .plain [H0,(.mk .plain [H0,(.mk .plain [H0,(.mk .plain [H0,(.mk .plain [(.mk .plain [H0,(.mk (.join (zP [46,45,48,47,44,43]) [(.normal,[⟨.cell 0 1,(.int .u64),none⟩,⟨.cell 0 0,(.int .u64),none⟩])]) [])])])])])])]) (by simp[Dp1,BM7,Dp5,Dp6,Dp7]) Tryz.func179
noncomputable def AC8 [LP](a b c:Int):Option (Int×Int):=
 (AG3 a b c true).bind fun d=>
 some (d.1,d.2)
noncomputable def Ax5:Con:={f:=167,ps:=[dI,dI,dI],boxes:=[],ins:=(.pair tI (.pair tI tI)),nin:=3,outs:=(.pair tI tI),rs:=[dI,dI],A2:=2,F:=fun x=>AC8 x.1 x.2.1 x.2.2}
theorem BM9:KO Ax5:=
 cgp (l:=[BM8]) H0 (by simp[Bp0]) Tryz.func167
noncomputable def AL8 [LP](a:F2):Option Int:=
 (AC8 a.2.2.1 (1:Int) a.1).bind fun b=>
 some b.1
noncomputable def Bp1:Con:={f:=144,ps:=[.dat (.agg C4)],boxes:=[],ins:=(.agg C4),nin:=1,outs:=tI,rs:=[dI],A2:=1,F:=fun x=>AL8 x}
theorem Dp8:KO Bp1:=
 cgp (l:=[Ax5]) H0 (by simp[BM9]) Tryz.func144
noncomputable def AL9 [LP](a b c d e f g h i j k l m n:Int):Option Z5:=
 let o:F2:=(a,(b,(c,(d,(e,(f,(g,(h,(i,(j,(k,(l,(m,n)))))))))))))
 (AL8 o).bind fun p=>
 let q:=FD9 .i64 ((3:Int)*d)
 let r:=(if q>p then q else p)
 (Q3 k r (16777216:Int)).bind fun s=>
 some (s,a,b,c,d,e,f,g,h,i,j,k,l,m,n)
noncomputable def Bp2:Con:={f:=143,ps:=[.ref 0 0],boxes:=[[dI,dI,dI,dI,dI,dI,dI,dI,dI,dI,dI,dI,dI,dI]],ins:=C4,nin:=14,outs:=Z4,rs:=[.dat .bool],A2:=15,F:=fun x=>let a:=x.2.2.2.2.2.2.2.2;AL9 x.1 x.2.1 x.2.2.1 x.2.2.2.1 x.2.2.2.2.1 x.2.2.2.2.2.1 x.2.2.2.2.2.2.1 x.2.2.2.2.2.2.2.1 x.2.2.2.2.2.2.2.2.1 a.2.1 a.2.2.1 a.2.2.2.1 a.2.2.2.2.1 a.2.2.2.2.2}
theorem Dp9:KO Bp2:=
 cgp (l:=[Bp1,AA4]) H0 (by simp[Dp8,AC7]) Tryz.func143
noncomputable def Al4 [LP](a b c d e f g h i j k l m n:Int):Option Z5:=
 (Q3 l (0:Int) (1073741824:Int)).bind fun o=>
 some (o,a,b,c,d,e,f,g,h,i,j,k,l,m,n)
noncomputable def Bp3:Con:={f:=145,ps:=[.ref 0 0],boxes:=[[dI,dI,dI,dI,dI,dI,dI,dI,dI,dI,dI,dI,dI,dI]],ins:=C4,nin:=14,outs:=Z4,rs:=[.dat .bool],A2:=15,F:=fun x=>let a:=x.2.2.2.2.2.2.2.2;Al4 x.1 x.2.1 x.2.2.1 x.2.2.2.1 x.2.2.2.2.1 x.2.2.2.2.2.1 x.2.2.2.2.2.2.1 x.2.2.2.2.2.2.2.1 x.2.2.2.2.2.2.2.2.1 a.2.1 a.2.2.1 a.2.2.2.1 a.2.2.2.2.1 a.2.2.2.2.2}
theorem Dq0:KO Bp3:=
 cgp (l:=[AA4]) H0 (by simp[AC7]) Tryz.func145
noncomputable def Al5 [LP](a b c d e f g h i j k l m n:Int):Option Z5:=
 (Q3 n (1:Int) (1048576:Int)).bind fun o=>
 some (o,a,b,c,d,e,f,g,h,i,j,k,l,m,n)
noncomputable def Bp4:Con:={f:=146,ps:=[.ref 0 0],boxes:=[[dI,dI,dI,dI,dI,dI,dI,dI,dI,dI,dI,dI,dI,dI]],ins:=C4,nin:=14,outs:=Z4,rs:=[.dat .bool],A2:=15,F:=fun x=>let a:=x.2.2.2.2.2.2.2.2;Al5 x.1 x.2.1 x.2.2.1 x.2.2.2.1 x.2.2.2.2.1 x.2.2.2.2.2.1 x.2.2.2.2.2.2.1 x.2.2.2.2.2.2.2.1 x.2.2.2.2.2.2.2.2.1 a.2.1 a.2.2.1 a.2.2.2.1 a.2.2.2.2.1 a.2.2.2.2.2}
theorem Dq1:KO Bp4:=
 cgp (l:=[AA4]) H0 (by simp[AC7]) Tryz.func146
noncomputable def AT4 [LP](a:F2):Option (Int×Int):=
 (Aj9 a).bind fun b=>
 let pA:=b.2.2.2.2
 let pM:=pA.2.2.2.2
 (Ak0 b.1 b.2.1 b.2.2.1 b.2.2.2.1 pA.1 pA.2.1 pA.2.2.1 pA.2.2.2.1 pM.1 pM.2.1 pM.2.2.1 pM.2.2.2.1 pM.2.2.2.2.1 pM.2.2.2.2.2).bind fun c=>
 let pB:=c.2.2.2.2
 let pN:=pB.2.2.2.2
 let pY:=pN.2.2.2.2
 (bif (!c.1) then
  some ((50:Int),(1:Int))
 else
  (Ak1 c.2.1 c.2.2.1 c.2.2.2.1 pB.1 pB.2.1 pB.2.2.1 pB.2.2.2.1 pN.1 pN.2.1 pN.2.2.1 pN.2.2.2.1 pY.1 pY.2.1 pY.2.2).bind fun d=>
  let pC:=d.2.2.2.2
  let pO:=pC.2.2.2.2
  let pZ:=pO.2.2.2.2
  (bif (!d.1) then
   some ((50:Int),(2:Int))
  else
   (Ak2 d.2.1 d.2.2.1 d.2.2.2.1 pC.1 pC.2.1 pC.2.2.1 pC.2.2.2.1 pO.1 pO.2.1 pO.2.2.1 pO.2.2.2.1 pZ.1 pZ.2.1 pZ.2.2).bind fun e=>
   let pD:=e.2.2.2.2
   let pP:=pD.2.2.2.2
   let qA:=pP.2.2.2.2
   (bif (!e.1) then
    some ((50:Int),(3:Int))
   else
    (Ak3 e.2.1 e.2.2.1 e.2.2.2.1 pD.1 pD.2.1 pD.2.2.1 pD.2.2.2.1 pP.1 pP.2.1 pP.2.2.1 pP.2.2.2.1 qA.1 qA.2.1 qA.2.2).bind fun f=>
    let pE:=f.2.2.2.2
    let pQ:=pE.2.2.2.2
    let qB:=pQ.2.2.2.2
    (bif (!f.1) then
     some ((50:Int),(4:Int))
    else
     (Ak4 f.2.1 f.2.2.1 f.2.2.2.1 pE.1 pE.2.1 pE.2.2.1 pE.2.2.2.1 pQ.1 pQ.2.1 pQ.2.2.1 pQ.2.2.2.1 qB.1 qB.2.1 qB.2.2).bind fun g=>
     let pF:=g.2.2.2.2
     let pR:=pF.2.2.2.2
     let qC:=pR.2.2.2.2
     (bif (!g.1) then
      some ((50:Int),(5:Int))
     else
      (Ak5 g.2.1 g.2.2.1 g.2.2.2.1 pF.1 pF.2.1 pF.2.2.1 pF.2.2.2.1 pR.1 pR.2.1 pR.2.2.1 pR.2.2.2.1 qC.1 qC.2.1 qC.2.2).bind fun h=>
      let pG:=h.2.2.2.2
      let pS:=pG.2.2.2.2
      let qD:=pS.2.2.2.2
      (bif (!h.1) then
       some ((50:Int),(6:Int))
      else
       (Ak6 h.2.1 h.2.2.1 h.2.2.2.1 pG.1 pG.2.1 pG.2.2.1 pG.2.2.2.1 pS.1 pS.2.1 pS.2.2.1 pS.2.2.2.1 qD.1 qD.2.1 qD.2.2).bind fun i=>
       let pH:=i.2.2.2.2
       let pT:=pH.2.2.2.2
       let qE:=pT.2.2.2.2
       (bif (!i.1) then
        some ((50:Int),(7:Int))
       else
        (Ak7 i.2.1 i.2.2.1 i.2.2.2.1 pH.1 pH.2.1 pH.2.2.1 pH.2.2.2.1 pT.1 pT.2.1 pT.2.2.1 pT.2.2.2.1 qE.1 qE.2.1 qE.2.2).bind fun j=>
        let pI:=j.2.2.2.2
        let pU:=pI.2.2.2.2
        let qF:=pU.2.2.2.2
        (bif (!j.1) then
         some ((50:Int),(8:Int))
        else
         (Ak8 j.2.1 j.2.2.1 j.2.2.2.1 pI.1 pI.2.1 pI.2.2.1 pI.2.2.2.1 pU.1 pU.2.1 pU.2.2.1 pU.2.2.2.1 qF.1 qF.2.1 qF.2.2).bind fun k=>
         let pJ:=k.2.2.2.2
         let pV:=pJ.2.2.2.2
         let qG:=pV.2.2.2.2
         (bif (!k.1) then
          some ((50:Int),(9:Int))
         else
          (AL9 k.2.1 k.2.2.1 k.2.2.2.1 pJ.1 pJ.2.1 pJ.2.2.1 pJ.2.2.2.1 pV.1 pV.2.1 pV.2.2.1 pV.2.2.2.1 qG.1 qG.2.1 qG.2.2).bind fun l=>
          let pK:=l.2.2.2.2
          let pW:=pK.2.2.2.2
          let qH:=pW.2.2.2.2
          (bif (!l.1) then
           some ((50:Int),(10:Int))
          else
           (Al4 l.2.1 l.2.2.1 l.2.2.2.1 pK.1 pK.2.1 pK.2.2.1 pK.2.2.2.1 pW.1 pW.2.1 pW.2.2.1 pW.2.2.2.1 qH.1 qH.2.1 qH.2.2).bind fun m=>
           let pL:=m.2.2.2.2
           let pX:=pL.2.2.2.2
           let qI:=pX.2.2.2.2
           (bif (!m.1) then
            some ((50:Int),(11:Int))
           else
            (Al5 m.2.1 m.2.2.1 m.2.2.2.1 pL.1 pL.2.1 pL.2.2.1 pL.2.2.2.1 pX.1 pX.2.1 pX.2.2.1 pX.2.2.2.1 qI.1 qI.2.1 qI.2.2).bind fun n=>
            (bif (!n.1) then
             some ((50:Int),(12:Int))
            else
             some ((0:Int),(0:Int))))))))))))))
noncomputable def Bp5:Con:={f:=60,ps:=[.dat (.agg C4)],boxes:=[],ins:=(.agg C4),nin:=1,outs:=(.pair tI tI),rs:=[dI,dI],A2:=2,F:=fun x=>AT4 x}
theorem Dq2:KO Bp5:=
 cgo (l:=[Bn4,Bn5,Bn6,Bn7,Bn8,Bn9,Bo0,Bo1,Bo2,Bp2,Bp3,Bp4]) (o:=[Ax2]) (.mk .plain [H0,(.mk .plain [(.mk .plain [H0,(.mk .plain [(.mk (.AY1 13) [])])])])]) (by simp[Do2,Do3,Do4,Do5,Do6,Do7,Do8,Do9,Dp0,Dp9,Dq0,Dq1]) (by simp[Do1]) Tryz.func60 rfl (by kernel_rfl) (by funext x;kernel_rfl)
noncomputable def Al6 [LP](a:F2)(b:Yd3):Option Int:=
 let c:=FD9 .i64 (b.2.2.2.1+a.2.2.2.2.2.2.2.2.1)
 let d:=FD9 .i64 (c+a.2.2.2.2.2.2.1)
 some d
noncomputable def Bp6:Con:={f:=61,ps:=[.dat (.agg C4),.dat (.agg Yt3)],boxes:=[],ins:=Bi5,nin:=2,outs:=tI,rs:=[dI],A2:=1,F:=fun x=>Al6 x.1 x.2}
theorem Dq3:KO Bp6:=
 cgp (l:=[]) H0 (by simp) Tryz.func61
noncomputable def AM0 [LP](a:F2)(b:K7):Option (Int×Int):=
 (AT4 a).bind fun c=>
 (bif (c.1 != (0:Int)) then
  some (c.1,(0:Int))
 else
  (AL4 b).bind fun d=>
  (bif (d.1 != (0:Int)) then
   some ((51:Int),(0:Int))
  else
   Option.bind (α:=(Int×Int) ⊕ Unit) (
    LP.lp (X:=(Int×Int) ⊕ Unit) (fun (e:Int)=>
     let f:=decide (e<b.2.length)
     (bif f then
      chk none (decide (0≤e)&&decide (e<b.2.length))<|
      let g:Yd3:=(b.2.getD e.toNat ((0:Int),((0:Int),((0:Int),((0:Int),(0:Int))))))
      chk none (decide (0≤g.2.1)&&decide (g.2.1<b.1.length))<|
      let h:Yd1:=(b.1.getD g.2.1.toNat ((0:Int),([],[])))
      let i:=FD9 .i64 (h.1-g.2.2.1)
      (Al6 a g).bind fun j=>
      let k:=decide (g.2.2.1<j)
      let l:=decide (i<j)
      let m:=(bif k then true else l)
      (bif m then
       some (.inr (.inl (e,(11:Int))))
      else
       let n:=FD9 .i64 (e+1)
       some (.inl n))
     else
      some (.inr (.inr ())))) (0:Int)) fun z=>match z with
   | .inl o=>
    let p:=o.1
    let q:=o.2
    some (q,p)
   | .inr _=>
    some ((0:Int),(0:Int))))
noncomputable def BN0:Con:={f:=33,ps:=[.dat (.agg C4),.dat (.agg E1)],boxes:=[],ins:=Bi3,nin:=2,outs:=(.pair tI tI),rs:=[dI,dI],A2:=2,F:=fun x=>AM0 x.1 x.2}
theorem Dq4:KO BN0:=
 cgp (l:=[Bp5,BM5,Bp6]) (.mk .plain [H0,(.mk .plain [H0,(.mk .plain [H0,(.mk .plain [(.mk .plain [H0,(.mk .plain [(.mk (.loop [sI 32] (zP [36,42,39,45,48,54,51,57,5,11,35,38,41,47,44,50,53,59,56,4,10,13,34,40,37,43,46,52,49,55,58,12,33,60]) [(.ret,[sI 5,sI 4]),(.exit 0,[])]) [])])])])])])]) (by simp[Dq2,Bn3,Dq3]) Tryz.func33
noncomputable def AA5 [LP](a:Int):Option (Int×Int):=
 let b:(Int×Int):=(a,a)
 some b
noncomputable def Ab0:Con:={f:=62,ps:=[dI],boxes:=[],ins:=tI,nin:=1,outs:=(.agg (.pair tI tI)),rs:=[.dat (.agg (.pair tI tI))],A2:=1,F:=fun x=>AA5 x}
theorem Al7:KO Ab0:=
 cgp (l:=[]) H0 (by simp) Tryz.func62
noncomputable def X7 [LP](a b:(Int×Int)):Option (Int×Int):=
 (Q7 a).bind fun c=>
 (bif (!c) then
  some b
 else
  (Q7 b).bind fun d=>
  (bif (!d) then
   some a
  else
   let e:=(if b.1<a.1 then b.1 else a.1)
   let f:=(if b.2>a.2 then b.2 else a.2)
   let g:(Int×Int):=(e,f)
   some g))
noncomputable def Ab1:Con:={f:=64,ps:=[.dat (.agg (.pair tI tI)),.dat (.agg (.pair tI tI))],boxes:=[],ins:=X4,nin:=2,outs:=(.agg (.pair tI tI)),rs:=[.dat (.agg (.pair tI tI))],A2:=1,F:=fun x=>X7 x.1 x.2}
theorem Al8:KO Ab1:=
 cgp (l:=[AC6]) H0 (by simp[AF8]) Tryz.func64
noncomputable def AM1 [LP](a:(List (Int×Int)))(b:(Int×Int)):Option ((Int×Int)×Bool):=
 Option.bind (
  LP.lp (X:=(Int×(Int×Bool))) (fun (c:Bh5)=>
   let d:=c.1
   let e:=c.2.1
   let f:=c.2.2.1
   let g:=c.2.2.2
   let h:=decide (e<a.length)
   (bif h then
    Option.bind (
     chk none (decide (0≤e)&&decide (e<a.length))<|
     let i:(Int×Int):=(a.getD e.toNat ((0:Int),(0:Int)))
     let j:=decide ((0:Int)<e)
     let k:=decide (b.2<i.1)
     let l:=(bif j then k else false)
     let m:=FD9 .i64 (e+1)
     let n:=decide (m<a.length)
     let o:=FD9 .i64 (e+1)
     chk none ((decide (0≤o)&&decide (o<a.length))|| !n)<|
     let p:(Int×Int):=(a.getD o.toNat ((0:Int),(0:Int)))
     let q:=decide (p.1<b.1)
     let r:=(bif n then q else false)
     let s:=(bif l then true else r)
     (bif !s then Q7 b else some false).bind fun t=>
     let u:=(bif s then true else (!t))
     (bif u then
      some (d,f,g)
     else
      Option.bind (
       (bif (!g) then
        (AA5 i.2).bind fun v=>
        some (true,v.2,v.1)
       else
        some (g,d,f))) fun w=>
      let y:=w.1
      let a0:=w.2.1
      let a1:=w.2.2
      (AA5 i.2).bind fun a2=>
      (X7 (a1,a0) a2).bind fun a3=>
      some (a3.2,a3.1,y))) fun a4=>
    let a5:=a4.1
    let a6:=a4.2.1
    let a7:=a4.2.2
    let a8:=FD9 .i64 (e+1)
    some (.inl (a5,a8,a6,a7))
   else
    some (.inr (d,f,g)))) ((0:Int),(0:Int),(0:Int),false)) fun a9=>
 let b0:=a9.1
 let b1:=a9.2.1
 let b2:=a9.2.2
 let b3:(Int×Int):=(b1,b0)
 some (b3,b2)
noncomputable def BN1:Con:={f:=63,ps:=[.dat (.slice (.agg (.pair tI tI))),.dat (.agg (.pair tI tI))],boxes:=[],ins:=Cn0,nin:=2,outs:=(.pair (.agg (.pair tI tI)) .bool),rs:=[.dat (.agg (.pair tI tI)),.dat .bool],A2:=2,F:=fun x=>AM1 x.1 x.2}
theorem Bp7:KO BN1:=
 cgp (l:=[AC6,Ab0,Ab1]) (.mk .plain [H0,(.mk .plain [H0,(.mk .plain [H0,(.mk .plain [(.mk .plain [H0,(.mk .plain [(.mk (.loop [kI 2 1,sI 14,kI 2 0,sB 7] (zP [30,36,42,39,45,48,54,51,57,60,63,8,11,17,23,20,26,29,35,32,38,41,47,44,50,53,59,56,62,10,16,19,22,28,25,31,34,40,37,43,46,52,49,55,61,58,9,15,21,18,24,27,33]) [(.exit 0,[kI 2 1,kI 2 0,sB 7])]) [(.mk .plain [H0,(.mk .plain [H0,(.mk .plain [(.mk (.join (zP [30,36,42,39,45,48,51,8,11,17,23,20,26,29,35,32,38,41,47,44,50,10,16,19,22,28,25,31,34,40,37,43,46,52,49,9,21,18,24,27,33,54,57,60,53,59,56,62,55,61,58]) [(.normal,[kI 2 1,kI 2 0,sB 7])]) [(.mk .plain [H0,(.mk .plain [H0,(.mk .plain [H0,(.mk .plain [H0,(.mk .plain [(.mk .plain [H0,(.mk (.join (zP [57,55,56]) [(.normal,[sB 7,kI 2 1,kI 2 0])]) [])])])])])])])])])])])])])])])])])]) (by simp[AF8,Al7,Al8]) Tryz.func63
noncomputable def AM2 [LP](a:K7):Option (Int×Int):=
 chk none (true&&(decide ((0:Int)<(a.1.length:Int))))<|
 let b:Yd1:=(a.1.getD (0:Int).toNat ((0:Int),([],[])))
 chk none (true&&(decide ((0:Int)<(b.2.1.length:Int))))<|
 let c:(Int×Int):=(b.2.1.getD (0:Int).toNat ((0:Int),(0:Int)))
 (AA5 c.2).bind fun d=>
 Option.bind (
  LP.lp (X:=(Int×Int)) (fun (e:(Int×(Int×Int)))=>
   let f:=e.1
   let g:=e.2.1
   let h:=e.2.2
   let i:=decide (g<a.1.length)
   (bif i then
    chk none (decide (0≤g)&&decide (g<a.1.length))<|
    let j:Yd1:=(a.1.getD g.toNat ((0:Int),([],[])))
    (AM1 j.2.1 ((0:Int),j.1)).bind fun k=>
    (X7 (h,f) k.1).bind fun l=>
    let m:=FD9 .i64 (g+1)
    some (.inl (l.2,m,l.1))
   else
    some (.inr (f,h)))) (d.2,(0:Int),d.1)) fun n=>
 let o:=n.1
 let p:=n.2
 let q:(Int×Int):=(p,o)
 some q
noncomputable def BN2:Con:={f:=34,ps:=[.dat (.agg E1)],boxes:=[],ins:=(.agg E1),nin:=1,outs:=(.agg (.pair tI tI)),rs:=[.dat (.agg (.pair tI tI))],A2:=1,F:=fun x=>AM2 x}
theorem Dq5:KO BN2:=
 cgp (l:=[Ab0,BN1,Ab1]) (.mk .plain [H0,(.mk .plain [H0,(.mk .plain [(.mk .plain [H0,(.mk .plain [(.mk (.loop [kI 2 1,sI 20,kI 2 0] (zP [30,7,36,22,28,25,31,5,34,23,26,29,35,32,6,21,24,27,33]) [(.exit 0,[kI 2 1,kI 2 0])]) [])])])])])]) (by simp[Al7,Bp7,Al8]) Tryz.func34
noncomputable def AM3 [LP](a:K7):Option (List Int):=
 chk none ((decide ((0:Int)≤(a.1.length:Int)))&&(decide ((a.1.length:Int)≤(a.1.length:Int)))&&(decide ((a.1.length:Int)*8≤(140737488355328:Int)))&&(decide ((a.1.length:Int)≤(140737488355328:Int))))<|
 Option.bind (
  LP.lp (X:=(List Int)) (fun (b:((List Int)×Int))=>
   let c:(List Int):=b.1
   let d:=b.2
   let e:=decide (d<a.1.length)
   (bif e then
    chk none (decide (0≤d)&&decide (d<a.1.length))<|
    let f:Yd1:=(a.1.getD d.toNat ((0:Int),([],[])))
    let g:=(decide ((0:Int)<(f.2.2.length:Int)))
    Option.bind (
     (bif g then
      chk none (decide (0≤d)&&decide (d<c.length))<|
      let h:(List Int):=(c.set d.toNat (-1:Int))
      some h
     else
      some c)) fun i=>
    let j:=FD9 .i64 (d+1)
    some (.inl (i,j))
   else
    some (.inr c))) ((FE0 (a.1.length:Int).toNat 0),(0:Int))) fun k=>
 Option.bind (
  LP.lp (X:=(List Int)) (fun (l:(Int×(List Int)))=>
   let m:=l.1
   let n:(List Int):=l.2
   let o:=decide (m<a.1.length)
   (bif o then
    Option.bind (
     LP.lp (X:=(List Int)) (fun (p:(Int×(List Int)))=>
      let q:=p.1
      let r:(List Int):=p.2
      let s:=decide (q<a.1.length)
      (bif s then
       chk none (decide (0≤q)&&decide (q<a.1.length))<|
       let t:Yd1:=(a.1.getD q.toNat ((0:Int),([],[])))
       let u:=(t.2.2.length:Int)
       Option.bind (
        LP.lp (X:=(List Int)) (fun (v:(Int×(List Int)))=>
         let w:=v.1
         let y:(List Int):=v.2
         let a0:=decide (w<u)
         (bif a0 then
          Option.bind (
           chk none (decide (0≤w)&&decide (w<t.2.2.length))<|
           let a1:=(t.2.2.getD w.toNat 0)
           chk none (decide (0≤a1)&&decide (a1<y.length))<|
           chk none (decide (0≤a1)&&decide (a1<a.1.length))<|
           let a2:Yd1:=(a.1.getD a1.toNat ((0:Int),([],[])))
           let a3:=(FD9 .i64 ((y.getD a1.toNat 0)+a2.1))
           chk none (decide (0≤a1)&&decide (a1<y.length))<|
           let a4:=((y.getD a1.toNat 0)!=(-1:Int))
           chk none ((decide (0≤q)&&decide (q<y.length))|| !a4)<|
           (bif a4 then
            let a5:=((y.getD q.toNat 0)==(-1:Int))
            chk none ((decide (0≤q)&&decide (q<y.length))|| !(!a5&&a4))<|
            (bif (!a5&&a4) then
             let a6:=(decide (a3<(y.getD q.toNat 0)))
             let a7:=(bif a5 then true else a6)
             let a8:=(bif a4 then a7 else false)
             Option.bind (
              (bif a8 then
               chk none (decide (0≤q)&&decide (q<y.length))<|
               let a9:(List Int):=(y.set q.toNat a3)
               some a9
              else
               some y)) fun b0=>
             some b0
            else
             let b1:=(decide (a3<(y.getD q.toNat 0)))
             let b2:=(bif a5 then true else b1)
             let b3:=(bif a4 then b2 else false)
             Option.bind (
              (bif b3 then
               chk none (decide (0≤q)&&decide (q<y.length))<|
               let b4:(List Int):=(y.set q.toNat a3)
               some b4
              else
               some y)) fun b5=>
             some b5)
           else
            let b6:=((y.getD q.toNat 0)==(-1:Int))
            chk none ((decide (0≤q)&&decide (q<y.length))|| !(!b6&&a4))<|
            (bif (!b6&&a4) then
             let b7:=(decide (a3<(y.getD q.toNat 0)))
             let b8:=(bif b6 then true else b7)
             let b9:=(bif a4 then b8 else false)
             Option.bind (
              (bif b9 then
               chk none (decide (0≤q)&&decide (q<y.length))<|
               let c0:(List Int):=(y.set q.toNat a3)
               some c0
              else
               some y)) fun c1=>
             some c1
            else
             let c2:=(decide (a3<(y.getD q.toNat 0)))
             let c3:=(bif b6 then true else c2)
             let c4:=(bif a4 then c3 else false)
             Option.bind (
              (bif c4 then
               chk none (decide (0≤q)&&decide (q<y.length))<|
               let c5:(List Int):=(y.set q.toNat a3)
               some c5
              else
               some y)) fun c6=>
             some c6))) fun c7=>
          let c8:=FD9 .i64 (w+1)
          some (.inl (c8,c7))
         else
          some (.inr y))) ((0:Int),r)) fun c9=>
       let d0:=FD9 .i64 (q+1)
       some (.inl (d0,c9))
      else
       some (.inr r))) ((0:Int),n)) fun d1=>
    let d2:=FD9 .i64 (m+1)
    some (.inl (d2,d1))
   else
    some (.inr n))) ((0:Int),k)) fun d3=>
 some d3
noncomputable def BN3:Con:={f:=35,ps:=[.dat (.agg E1)],boxes:=[],ins:=(.agg E1),nin:=1,outs:=(.slice tI),rs:=[.dat (.slice tI)],A2:=1,F:=fun x=>AM3 x}
theorem Dq6:KO BN3:=
 cgp (l:=[]) (.mk .plain [H0,(.mk .plain [H0,(.mk .plain [(.mk .plain [H0,(.mk .plain [(.mk (.loop [⟨.slot 3,(.slice tI),some 1475002⟩,sI 18] (zP [30,4,19,22,28,25,5,14,23,20,26,29,21,24,27]) [(.exit 0,[⟨.slot 3,(.slice tI),some 1475002⟩])]) [(.mk .plain [H0,(.mk .plain [H0,(.mk .plain [(.mk .plain [(.mk .plain [H0,(.mk .plain [H0,(.mk (.join (zP [14,29,27,28]) [(.normal,[⟨.slot 3,(.slice tI),some 1475002⟩])]) [])])])])])])])])])]),(.mk .plain [(.mk .plain [H0,(.mk .plain [(.mk (.loop [sI 34,⟨.slot 3,(.slice tI),some 1475002⟩] (zP [36,42,39,45,48,54,51,57,60,66,63,69,72,78,75,81,87,84,35,38,41,47,44,50,53,59,56,62,68,7,65,71,10,74,80,77,83,86,40,37,43,46,52,49,55,61,58,64,9,67,73,6,70,76,79,85,82,88]) [(.exit 2,[⟨.slot 3,(.slice tI),some 1475002⟩])]) [(.mk .plain [H0,(.mk .plain [H0,(.mk .plain [(.mk .plain [(.mk .plain [H0,(.mk .plain [(.mk (.loop [sI 39,⟨.slot 3,(.slice tI),some 1475002⟩] (zP [42,45,48,54,51,57,60,66,63,69,72,78,75,81,87,84,41,47,44,50,53,59,56,62,68,7,65,71,10,74,80,77,83,86,40,43,46,52,49,55,61,58,64,9,67,73,6,70,76,79,85,82]) [(.exit 4,[⟨.slot 3,(.slice tI),some 1475002⟩])]) [(.mk .plain [H0,(.mk .plain [H0,(.mk .plain [(.mk .plain [(.mk .plain [H0,(.mk .plain [H0,(.mk .plain [(.mk (.loop [sI 47,⟨.slot 3,(.slice tI),some 1475002⟩] (zP [48,54,51,57,60,66,63,69,72,78,75,81,84,50,53,59,56,62,68,65,71,10,74,80,77,83,86,52,49,55,61,58,64,9,67,73,70,76,79,85,82]) [(.exit 6,[⟨.slot 3,(.slice tI),some 1475002⟩])]) [(.mk .plain [H0,(.mk .plain [H0,(.mk .plain [(.mk (.join (zP [54,51,57,60,66,63,69,72,78,75,81,84,50,53,59,56,62,68,65,71,10,74,80,77,83,52,49,55,61,58,64,9,67,73,70,76,79,85,82]) [(.normal,[⟨.slot 3,(.slice tI),some 1475002⟩])]) [(.mk .plain [H0,(.mk .plain [H0,(.mk .plain [H0,(.mk (.join (zP [84,64,83,51,85,53,82,62]) [(.normal,[⟨.slot 3,(.slice tI),some 1475002⟩])]) [])])])])])])])])])])])])])])])])])])])])])])])])])])])])])]) (by simp) Tryz.func35
noncomputable def AM4 [LP](a:F2):Option (Int×Int):=
 let b:(Int×Int):=(a.2.1,a.2.2.1)
 some b
noncomputable def BN4:Con:={f:=36,ps:=[.dat (.agg C4)],boxes:=[],ins:=(.agg C4),nin:=1,outs:=(.agg (.pair tI tI)),rs:=[.dat (.agg (.pair tI tI))],A2:=1,F:=fun x=>AM4 x}
theorem Dq7:KO BN4:=
 cgp (l:=[]) H0 (by simp) Tryz.func36
noncomputable def AT5 [LP](a:F2):Option (Int×Int):=
 let b:=FD9 .i64 (0-a.2.2.2.2.2.2.1)
 let c:(Int×Int):=(b,a.2.2.2.2.2.2.1)
 some c
noncomputable def Ax6:Con:={f:=37,ps:=[.dat (.agg C4)],boxes:=[],ins:=(.agg C4),nin:=1,outs:=(.agg (.pair tI tI)),rs:=[.dat (.agg (.pair tI tI))],A2:=1,F:=fun x=>AT5 x}
theorem Bp8:KO Ax6:=
 cgp (l:=[]) H0 (by simp) Tryz.func37
noncomputable def AM5 [LP](a:F2)(b:(List Int)):Option AF5:=
 let pA:=a.2.2.2.2
 let pB:=pA.2.2.2.2
 (AL5 b).bind fun c=>
 Option.bind (
  (bif (c.2==(0:Int)) then
   (AM0 a c.1).bind fun d=>
   some d.1
  else
   some c.2)) fun e=>
 (bif (e != (0:Int)) then
  some ((0:Int),(0:Int),(0:Int),(0:Int),(0:Int),(0:Int),(0:Int),(0:Int),(0:Int),(0:Int),(0:Int),(0:Int),(0:Int),(0:Int),[],[],true,(0:Int),(0:Int),(0:Int),[],false,(0:Int),(0:Int),false,(0:Int),(0:Int),(0:Int),(0:Int),(0:Int),(0:Int),(0:Int),(0:Int),(0:Int),false,(0:Int),(0:Int),(0:Int),(0:Int),(0:Int),[],false,(0:Int),(0:Int),(0:Int),(0:Int),(0:Int),false,false,false,(0:Int),(0:Int),(0:Int),(0:Int),false)
 else
  (AM2 c.1).bind fun f=>
  (AM3 c.1).bind fun g=>
  (AM4 a).bind fun h=>
  (AM4 a).bind fun i=>
  (AT5 a).bind fun j=>
  some (a.1,a.2.1,a.2.2.1,a.2.2.2.1,pA.1,pA.2.1,pA.2.2.1,pA.2.2.2.1,pB.1,pB.2.1,pB.2.2.1,pB.2.2.2.1,pB.2.2.2.2.1,pB.2.2.2.2.2,c.1.1,c.1.2,false,(0:Int),f.1,f.2,g,false,(0:Int),(0:Int),false,(0:Int),(0:Int),(h,i).1.1,(h,i).1.2,(h,i).2.1,(h,i).2.2,j.1,j.2,(0:Int),false,(0:Int),(0:Int),(0:Int),(0:Int),(0:Int),[],false,(0:Int),(0:Int),(0:Int),(0:Int),(0:Int),false,false,false,(0:Int),(0:Int),(0:Int),(0:Int),false))
noncomputable def AT6:J1:={f:=23,ps:=[.dat (.agg C4),.dat (.slice (.int .u8))],ins:=Cw9,nin:=2,outs:=X5,rs:=[.ref 0 0],new:=[dI,dI,dI,dI,dI,dI,dI,dI,dI,dI,dI,dI,dI,dI,.dat (.slice (.agg Yt1)),.dat (.slice (.agg Yt3)),.dat .bool,dI,dI,dI,.dat (.slice tI),.dat .bool,.dat (.int .u16),dI,.dat .bool,.dat (.int .u16),dI,dI,dI,dI,dI,dI,dI,dI,.dat .bool,dI,dI,dI,dI,dI,.dat (.slice (.agg H8)),.dat .bool,dI,dI,dI,dI,dI,.dat .bool,.dat .bool,.dat .bool,dI,dI,dI,dI,.dat .bool],A2:=55,F:=fun x=>AM5 x.1 x.2}
def Dq8:Hint:=(.mk .plain [H0,(.mk .plain [H0,(.mk .plain [(.mk .plain [H0,(.mk (.join (zP [15,16,18,17,19,14]) [(.normal,[sI 6])]) [])])])])])
theorem Dq9:runN ⟨N8 tys,[BM6,BN0,BN2,BN3,BN4,Ax6],[],[],[]⟩ AT6 Tryz.f23 Dq8=AT6.F:=by
 funext x
 kernel_rfl
theorem Bp9:NOK Tryz.prog AT6:=
 Bg4 (Γ:=⟨N8 tys,[BM6,BN0,BN2,BN3,BN4,Ax6],[],[],[]⟩) ⟨fun T d h=>AF4 tys AL2 T d h,by simp[Dn8,Dq4,Dq5,Dq6,Dq7,Bp8],by simp[],by simp[],AK4 Tryz.prog [] (by kernel_rfl)⟩ (by kernel_rfl) Tryz.func23 rfl (by kernel_rfl) Dq9
noncomputable def Ax7 [LP](a:Int):Option Int:=
 Option.bind (
  (bif (a==(1:Int)) then
   some (a==(1:Int))
  else
   Option.bind (
    (bif (a==(2:Int)) then
     some (a==(2:Int))
    else
     some (a==(5:Int)))) fun b=>
   some b)) fun c=>
 (bif c then
  some (2:Int)
 else
  Option.bind (
   (bif (a==(3:Int)) then
    some (a==(3:Int))
   else
    some (a==(4:Int)))) fun d=>
  (bif d then
   some (4:Int)
  else
   some (0:Int)))
noncomputable def Bq0:Con:={f:=147,ps:=[dI],boxes:=[],ins:=tI,nin:=1,outs:=tI,rs:=[dI],A2:=1,F:=fun x=>Ax7 x}
theorem Dr0:KO Bq0:=
 cgp (l:=[]) (.mk .plain [H0,(.mk .plain [(.mk .plain [H0,(.mk .plain [(.mk .plain [(.mk .plain [H0,(.mk (.join [(0,7),(0,6)] [(.normal,[sB 4])]) [H0,(.mk .plain [H0,(.mk (.join [(0,7)] [(.normal,[sB 4])]) [])])])]),(.mk .plain [H0,(.mk .plain [(.mk .plain [H0,(.mk (.join [(0,10)] [(.normal,[sB 8])]) [])])])])])])])])]) (by simp) Tryz.func147
noncomputable def BN5 [LP](a:Int):Option Bool:=
 let b:=(bif (a==(3:Int)) then true else (a==(4:Int)))
 some b
noncomputable def Bq1:Con:={f:=148,ps:=[dI],boxes:=[],ins:=tI,nin:=1,outs:=.bool,rs:=[.dat .bool],A2:=1,F:=fun x=>BN5 x}
theorem Dr1:KO Bq1:=
 cgp (l:=[]) H0 (by simp) Tryz.func148
noncomputable def AT7 [LP](a:(List Int)):Option Cx1:=
 let b:=(decide ((a.length:Int)<(5:Int)))
 (bif b then
  let c:(Int×(Int×Int)):=((0:Int),((0:Int),(0:Int)))
  some (c,(14:Int))
 else
  chk none (true&&(decide ((0:Int)<(a.length:Int))))<|
  let d:=(a.getD (0:Int).toNat 0)
  let e:=(FD9 .i64 d)
  (Ax7 e).bind fun f=>
  (bif (f==(0:Int)) then
   let g:(Int×(Int×Int)):=((0:Int),((0:Int),(0:Int)))
   some (g,(30:Int))
  else
   chk none (true&&(decide ((2:Int)<(a.length:Int))))<|
   let h:=(a.getD (2:Int).toNat 0)
   let i:=(FD9 .i64 h)
   let j:=FD9 .i64 ((3:Int)+f)
   let k:=FD9 .i64 (j+2)
   let l:=((a.length:Int)!=k)
   let m:=(bif (i != f) then true else l)
   (bif m then
    let n:(Int×(Int×Int)):=((0:Int),((0:Int),(0:Int)))
    some (n,(11:Int))
   else
    (AL3 a).bind fun o=>
    (bif (o != (0:Int)) then
     let p:(Int×(Int×Int)):=((0:Int),((0:Int),(0:Int)))
     some (p,(31:Int))
    else
     let q:=FD9 .i64 ((3:Int)+f)
     chk none (true&&(decide ((3:Int)≤q))&&(decide (q≤(a.length:Int))))<|
     let r:(List Int):=((a.take q.toNat).drop (3:Int).toNat)
     Option.bind (
      LP.lp (X:=Int) (fun (s:(Int×Int))=>
       let t:=s.1
       let u:=s.2
       let v:=decide (u<r.length)
       (bif v then
        chk none (decide (0≤u)&&decide (u<r.length))<|
        let w:=(r.getD u.toNat 0)
        let y:=FD9 .u32 (t*2 ^ 8)
        let a0:=(FD9 .u32 w)
        let a1:=(bits .u32 .or y a0)
        let a2:=FD9 .i64 (u+1)
        some (.inl (a1,a2))
       else
        some (.inr t))) ((0:Int),(0:Int))) fun a3=>
     chk none (true&&(decide ((1:Int)<(a.length:Int))))<|
     let a4:=(a.getD (1:Int).toNat 0)
     let a5:=(FD9 .i64 a4)
     let a6:(Int×(Int×Int)):=(e,(a5,(FD9 .i64 a3)))
     (BN5 e).bind fun a7=>
     Option.bind (
      (bif a7 then
       let a8:=FD9 .i64 (FD9 .i32 a3)
       some a8
      else
       some a6.2.2)) fun a9=>
     let b0:(Int×(Int×Int)):=(a6.1,(a6.2.1,a9))
     some (b0,(0:Int))))))
noncomputable def Bq2:Con:={f:=98,ps:=[.dat (.slice (.int .u8))],boxes:=[],ins:=(.slice (.int .u8)),nin:=1,outs:=Cx0,rs:=[.dat (.agg (.pair tI (.pair tI tI))),dI],A2:=2,F:=fun x=>AT7 x}
theorem Dr2:KO Bq2:=
 cgp (l:=[Bq0,BM3,Bq1]) (.mk .plain [H0,(.mk .plain [H0,(.mk .plain [H0,(.mk .plain [H0,(.mk .plain [H0,(.mk .plain [H0,(.mk .plain [(.mk .plain [H0,(.mk .plain [(.mk (.loop [⟨.slot 6,(.int .u32),none⟩,sI 50] (zP [52,55,58,54,57,51,53,59,56,8]) [(.exit 1,[⟨.slot 6,(.int .u32),none⟩])]) [])])]),(.mk .plain [H0,(.mk .plain [(.mk .plain [H0,(.mk (.join (zP [70,71,72,73]) [(.normal,[kI 1 2])]) [])])])])])])])])])])]) (by simp[Dr0,Bm0,Dr1]) Tryz.func98
end Go.Proofs.YthfjpkdadjemcaaGreat
