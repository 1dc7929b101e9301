/- The path of a route: its promise. -/
import Derived.Test.YthfjpkdadjemcaaGreatHandK
import Derived.Test.YthfjpkdadjemcaaGreatPathF
set_option linter.unusedSimpArgs false
set_option linter.unusedVariables false
namespace Go.Proofs.YthfjpkdadjemcaaGreat
open Go.RowKit
open _root_.List renaming getElem?_eq_some_iff → FD8
abbrev Dl1:Ty:=.pair (.int .i64) (.pair (.int .i64) (.pair (.int .i64) (.pair (.int .i64) (.pair (.int .i64) (.pair (.int .i64) (.pair (.int .i64) (.pair (.int .i64) (.pair (.int .i64) (.pair (.int .i64) (.pair (.int .i64) ((.int .i64))))))))))))
abbrev RtT:Ty:=.pair (.int .i64) (.agg Dl1)
abbrev V6:Ty:=.pair (.int .i64) (.slice (.agg RtT))
abbrev TkT:Ty:=.pair (.slice (.agg (.pair (.int .i64) (.pair (.slice (.agg (.pair (.int .i64) (.int .i64)))) (.slice (.int .i64)))))) (.slice (.agg (.pair (.int .i64) (.pair (.int .i64) (.pair (.int .i64) (.pair (.int .i64) ((.int .i64))))))))
abbrev SpT:Ty:=.pair (.int .i64) (.int .i64)
abbrev Dl2:=Int×(Int×(Int×(Int×(Int×(Int×(Int×(Int×(Int×(Int×(Int×(Int)))))))))))
abbrev RtD:=Int×Dl2
abbrev M6:=Int×List RtD
abbrev TkD:=List (Int×(List (Int×Int)×List Int))×List (Int×(Int×(Int×(Int×Int))))
theorem Bk4 {ow:Nat→A1}{w w':World}{T n:Nat}{v:Value}{l:List Int}(h:w'.ownsRow w.heap.size T 1 v n (l.map (Value.int .i64)))(hn:l.length=n)(hf:∀x∈l,fits .i64 x=true):
  Rep (Z7 ow w.heap.size w'.heap.size) w' (.slice (.int .i64)) l [v]:=by
 obtain⟨h1,h2⟩:=h
 rcases h2 with⟨rfl,h3⟩|⟨g,cap,cur,rfl,h3,h4,h5,h6,h7,h8⟩
 ·have:l=[]:=List.eq_nil_of_length_eq_zero (by omega)
  subst this
  exact⟨none,0,rfl,⟨by simp,by simp⟩,fun h=>absurd rfl h⟩
 ·have hm:n≤9223372036854775807:=by unfold maxLen at h6;omega
  refine⟨some ⟨g,0,none⟩,cap,by rw[hn],⟨by omega,by omega⟩,fun _=>⟨g,0,cur,T,(0,0),rfl,?_,h4,?_⟩⟩
  ·have hlt:g<w'.heap.size:=by
    rw[Array.getElem?_eq_some_iff] at h4
    exact h4.1
   exact L3 (Bk1 h3 hlt)
  ·intro i x hx
   have hil:i<l.length:=by
    rw[FD8] at hx
    exact hx.1
   have hxm:x∈l:=List.mem_of_getElem? hx
   refine⟨?_,hf x hxm⟩
   have e:(cur.toList.take (n*1))[i]? = some (.int .i64 x):=by rw[h8,List.getElem?_map,hx];rfl
   rw[List.getElem?_take] at e
   rw[if_pos (by omega)] at e
   show (cur.toList.drop (0+i*1)).take 1=_
   rw[Nat.zero_add,Nat.mul_one]
   rw[FD8] at e
   obtain⟨e1,e2⟩:=e
   rw[List.drop_eq_getElem_cons e1,e2]
   rfl
theorem Dl3 (n:Int):0≤min (max n 0) 12∧min (max n 0) 12≤12:=by omega
theorem Dl4 (n:Int){l:List Int}(h:l.length=12):(l.take (min (max n 0) 12).toNat).length=(min (max n 0) 12).toNat:=by
 rw[List.length_take,h]
 omega
noncomputable def Aa7 (r:RtD):Option (List Int):=
 match r with
 | (n,s0,s1,s2,s3,s4,s5,s6,s7,s8,s9,s10,s11)=>some ([s0,s1,s2,s3,s4,s5,s6,s7,s8,s9,s10,s11].take (min (max n 0) 12).toNat)
noncomputable def Aj4:Con:={f:=84,ps:=[.dat (.agg RtT)],boxes:=[],ins:=.agg RtT,nin:=1,outs:=.slice (.int .i64),rs:=[.dat (.slice (.int .i64))],A2:=1,F:=fun x=>Aa7 x}
theorem BL9:M4 Tryz.prog Aj4:=by
 refine BL8 ⟨Tryz.f84,Tryz.func84,by kernel_rfl,by kernel_rfl⟩ rfl ?_
 intro x y hF w ow bx args hg here hR
 obtain⟨n,s0,s1,s2,s3,s4,s5,s6,s7,s8,s9,s10,s11⟩:=x
 obtain⟨hl,hv⟩:=hR
 have hsz:args.size=1:=hl.symm
 obtain⟨a,rfl⟩:∃a,args=#[a]:=by
  obtain⟨l⟩:=args
  match l,hsz with
  | [a],_=>exact ⟨a,rfl⟩
 have h0:=hv 0 (.dat (.agg RtT) (n,s0,s1,s2,s3,s4,s5,s6,s7,s8,s9,s10,s11)) a rfl rfl
 obtain⟨cs,rfl,⟨_,_,hcs,⟨rfl,f0⟩,_,_,rfl,⟨rfl,f1⟩,_,_,rfl,⟨rfl,f2⟩,_,_,rfl,⟨rfl,f3⟩,_,_,rfl,⟨rfl,f4⟩,_,_,rfl,⟨rfl,f5⟩,_,_,rfl,⟨rfl,f6⟩,_,_,rfl,⟨rfl,f7⟩,_,_,rfl,⟨rfl,f8⟩,_,_,rfl,⟨rfl,f9⟩,_,_,rfl,⟨rfl,f10⟩,_,_,rfl,⟨rfl,f11⟩,rfl,f12⟩⟩:C7 ow w (.agg RtT) (n,s0,s1,s2,s3,s4,s5,s6,s7,s8,s9,s10,s11) a:=by cases h0;assumption
 have hcs':cs=#[.int .i64 n,.int .i64 s0,.int .i64 s1,.int .i64 s2,.int .i64 s3,.int .i64 s4,.int .i64 s5,.int .i64 s6,.int .i64 s7,.int .i64 s8,.int .i64 s9,.int .i64 s10,.int .i64 s11]:=by
  apply Array.ext'
  rw[hcs]
  rfl
 subst hcs'
 have hy:y=[s0,s1,s2,s3,s4,s5,s6,s7,s8,s9,s10,s11].take (min (max n 0) 12).toNat:=(Option.some.inj hF).symm
 subst hy
 have hmx:=Dl3 n
 refine (Bk3 n _ s0 s1 s2 s3 s4 s5 s6 s7 s8 s9 s10 s11 rfl hmx.1 hmx.2 w).mono ?_
 rintro e w' ⟨v,rfl,hown,hbel⟩
 refine⟨v,rfl,hbel,?_⟩
 refine .dat (Bk4 hown (Dl4 n rfl) ?_)
 intro x hx
 have hx:=List.mem_of_mem_take hx
 simp only[List.mem_cons,List.not_mem_nil,or_false] at hx
 rcases hx with rfl | rfl | rfl | rfl | rfl | rfl | rfl | rfl | rfl | rfl | rfl | rfl <;> assumption
end Go.Proofs.YthfjpkdadjemcaaGreat
