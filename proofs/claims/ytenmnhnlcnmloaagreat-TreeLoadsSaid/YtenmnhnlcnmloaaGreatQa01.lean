/- Part of a proof of a law of the layer of trees. -/
import Derived.WalkKit
import Derived.IntWalk
import Derived.WalkSmall
set_option linter.unusedVariables false
set_option linter.unusedSimpArgs false
set_option maxHeartbeats 8000000
set_option maxRecDepth 8000
theorem oM{p:Prop}(h:p:=by omega):p:=h
theorem dC{p:Prop}(h:p:=by decide):p:=h
theorem kR{p:Prop}(h:p:=by kernel_rfl):p:=h
namespace Go.Dav
open Go Go.RowKit
theorem bg{a b:Bool}(h:a=b):Ending.returned (.bool a)= .returned (.bool b):=by rw[h]
theorem iK{k:IntKind}{a b:Int}(h:a=b):Ending.returned (.int k a)= .returned (.int k b):=by rw[h]
def I64(n:Int):Prop:= -9223372036854775808<=n/\n<=9223372036854775807
def lo(s:Int):Int:=s%18446744073709551616
def hi(s:Int):Int:=wrap64 (s/18446744073709551616)
def sg(s:Int):Int:=hi s*18446744073709551616+lo s
theorem wrap_u64(s:Int):IntKind.u64.wrap s=s%18446744073709551616:=by
 simp[IntKind.wrap,IntKind.bits,IntKind.signed]
theorem dQ(s:Int):wrap64 s=(s+9223372036854775808)%18446744073709551616-9223372036854775808:=by
 simp only[wrap64]
theorem Ou(s:Int):0<=lo s/\lo s<18446744073709551616:=by unfold lo;omega
theorem TN(a b:Int):IntKind.u64.wrap (lo a+lo b)=lo (a+b):=by
 rw[wrap_u64];unfold lo;omega
theorem carry(a b:Int):(lo (a+b)<lo a)↔18446744073709551616<=lo a+lo b:=by
 unfold lo;omega
theorem CY(a b:Int)(h:18446744073709551616<=lo a+lo b):wrap64 (wrap64 (hi a+hi b)+1)=hi (a+b):=by
 unfold hi lo at*;simp only[dQ];omega
theorem FB(a b:Int)(h:¬18446744073709551616<=lo a+lo b):wrap64 (hi a+hi b)=hi (a+b):=by
 unfold hi lo at*;simp only[dQ];omega
theorem X9{n:Int}(h:I64 n):n/9223372036854775808=hi n:=by
 unfold I64 at h;unfold hi;rw[dQ];omega
theorem VL(n:Int):IntKind.u64.wrap n=lo n:=by rw[wrap_u64];rfl
theorem Ov{h l:Int}(h1:I64 h)(h3:0<=l)(h4:l<18446744073709551616):hi (h*18446744073709551616+l)=h:=by
 unfold I64 at h1;unfold hi;rw[dQ];omega
theorem Ox{h l:Int}(h3:0<=l)(h4:l<18446744073709551616):lo (h*18446744073709551616+l)=l:=by
 unfold lo;omega
theorem jF:hi 0=0:=by decide+kernel
theorem jG:lo 0=0:=by decide+kernel
theorem aZ(n:Int):IntKind.i64.wrap n=(n+9223372036854775808)%18446744073709551616-9223372036854775808:=by
 simp only[IntKind.wrap,IntKind.bits,IntKind.signed];simp;split<;>omega
def jB(x y:Int):Bool:=decide (sg y<sg x)
theorem Ji(m:Nat)(h0:I64 m):bits BinOp.and IntKind.i64 (m:Int) 1=((m%2:Nat):Int):=by
 have h:=h0.2;have e:(BitVec.ofInt 64 (m:Int) &&& BitVec.ofInt 64 1).toNat=m%2:=by
  rw[BitVec.toNat_and];have e1:(BitVec.ofInt 64 (m:Int)).toNat=m:=by
   rw[BitVec.ofInt_natCast,BitVec.toNat_ofNat];exact Nat.mod_eq_of_lt oM
  have e2:(BitVec.ofInt 64 1).toNat=1:=by decide+kernel
  rw[e1,e2,Nat.and_one_is_mod]
 show IntKind.i64.wrap (((BitVec.ofInt 64 (m:Int) &&& BitVec.ofInt 64 1).toNat:Nat):Int)=_;rw[e,aZ];omega
theorem Rj(acc base:Int)(m:Nat)(h:m%2=1):acc+base+(base+base)*((m/2:Nat):Int)=acc+base*(m:Int):=by
 have hm:(m:Int)=2*((m/2:Nat):Int)+1:=oM;rw[hm,Int.add_mul,Int.mul_add,Int.mul_left_comm base 2];omega
theorem Oy(acc base:Int)(m:Nat)(h:m%2=0):acc+(base+base)*((m/2:Nat):Int)=acc+base*(m:Int):=by
 have hm:(m:Int)=2*((m/2:Nat):Int):=oM;rw[hm,Int.add_mul,Int.mul_left_comm base 2];omega
def Jj(b:Bool):Int:=if b then 0 else 230
def VN(c n s l m:Int):Bool:=
 if n<0\/c<n\/1073741824<c then false
 else if n=0 then decide (hi s=0/\lo s=0/\l=0/\m=0)
 else if n=1 then decide (l=m/\hi s=hi l/\lo s=lo l)
 else decide (l<=m)&&(!jB (l+m+l*(n-2)) s&& !jB s (l+m+m*(n-2)))
def wW(n2 s1 s2:Int):Int:=if n2=0 then s1 else s1+s2
def qZ(n1 n2:Int):Int:=if n2=0 then n1 else n1+n2
def uy(n1 n2 l1 l2:Int):Int:=if n2=0 then l1 else if 0<n1 then min l1 l2 else l2
def uz(n1 n2 m1 m2:Int):Int:=if n2=0 then m1 else if 0<n1 then max m1 m2 else m2
def Jk(x:Int):Int:=18446744073709551615-lo x
theorem Rk(x:Int):IntKind.u64.wrap (18446744073709551615-lo x)=Jk x:=by
 rw[wrap_u64];unfold Jk lo;omega
theorem KN(x y:Int):Jk x<lo y↔18446744073709551616<=lo x+lo y:=by
 unfold Jk;omega
theorem Oz(x y:Int)(h:Jk x<lo y):wrap64 (wrap64 (hi x+hi y)+1)=hi (x+y):=CY x y ((KN x y).1 h)
theorem LU(x y:Int)(h:¬Jk x<lo y):wrap64 (hi x+hi y)=hi (x+y):=FB x y (λhc=>h ((KN x y).2 hc))
theorem OA(s:Int):wrap64 (hi s)=hi s:=by
 unfold hi;simp only[dQ];omega
theorem VO{n:Int}(h:I64 n)(hn:n<0):hi n= -1:=by
 unfold I64 at h;unfold hi;rw[dQ];omega
theorem VP{n:Int}(h:I64 n)(hn:¬n<0):hi n=0:=by
 unfold I64 at h;unfold hi;rw[dQ];omega
theorem Rl(x y:Int):(if hi x=hi y then decide (lo x<lo y)else decide (hi x<hi y))=jB y x:=by
 have hx:=Ou x;have hy:=Ou y;unfold jB sg;by_cases h:hi x=hi y
 .rw[if_pos h,h,Bool.eq_iff_iff];simp
 .rw[if_neg h,Bool.eq_iff_iff];simp;omega
theorem Rn{k:Int}(h0:0<=k)(h:I64 k):wrap64 (k.tdiv 2)=k/2:=by
 rw[Int.tdiv_eq_ediv_of_nonneg h0,dQ];unfold I64 at h;omega
theorem Ro{k:Int}(h0:0<=k):k.tmod 2=k%2:=Int.tmod_eq_emod_of_nonneg h0
theorem OB{k:Int}:wrap64 (k%2)=k%2:=by
 rw[dQ];omega
structure Red where
 c:Int
 n:Int
 s:Int
 l:Int
 m:Int
def Red.zero:Red:=⟨0,0,0,0,0⟩
def Red.cells(r:Red):List Value:=[.int .i64 r.c, .int .i64 r.n, .int .i64 (hi r.s), .int .u64 (lo r.s), .int .i64 r.l, .int .i64 r.m]
def Red.fits(r:Red):Prop:=I64 r.c/\I64 r.n/\I64 r.l/\I64 r.m
def Red.ok(r:Red):Bool:=VN r.c r.n r.s r.l r.m
def Red.both(r t:Red):Red:=⟨r.c+t.c,qZ r.n t.n,wW t.n r.s t.s,uy r.n t.n r.l t.l,uz r.n t.n r.m t.m⟩
theorem Red.Jl{r:Red}(h:r.ok=true):0<=r.n/\r.n<=r.c/\r.c<=1073741824/\(r.n=0->hi r.s=0/\lo r.s=0/\r.l=0/\r.m=0):=by
 unfold Red.ok VN at h;by_cases h1:r.n<0\/r.c<r.n\/1073741824<r.c
 .rw[if_pos h1]at h;cases h
 .rw[if_neg h1]at h;refine⟨oM,oM,oM,λh0=>?_⟩;rw[if_pos h0]at h;simpa using h
def joinL:Red->List Red->Option Red
 |acc,[]=>some acc
 |acc,r::l=>if 1073741824-r.c<acc.c then none else joinL (acc.both r) l
def joined(l:List Red):Red×Int:=
 if l.all Red.ok then match joinL Red.zero l with
  |some r=>(r,0)
  |none=>(Red.zero,5)
 else(Red.zero,230)
def Red.fine(r:Red):Prop:=0<=r.n/\r.n<=r.c/\r.c<=1073741824
theorem Red.OC:Red.zero.fine:=by unfold Red.fine Red.zero;simp
theorem Red.Uw{r:Red}(h:r.ok=true):r.fine:=by
 have:=Red.Jl h;exact⟨this.1,this.2.1,this.2.2.1⟩
theorem Red.OD{r t:Red}(hr:r.fine)(ht:t.fine)(h:¬1073741824-t.c<r.c):(r.both t).fine:=by
 unfold Red.fine Red.both qZ at*;simp only;split<;>omega
theorem Red.TP{r:Red}(h:r.fine):0<=r.n:=h.1
def Red.blank(r:Red):Prop:=r.n=0->r.l=0/\r.m=0
theorem Red.LV:Red.zero.blank:=λ_=>⟨rfl,rfl⟩
theorem Red.LW{r t:Red}(hr:r.blank)(h1:0<=r.n)(h2:0<=t.n):(r.both t).blank:=by
 unfold Red.blank Red.both qZ uy uz at*;simp only;intro h;by_cases e:t.n=0
 .rw[if_pos e]at h;rw[if_pos e,if_pos e];exact hr h
 .rw[if_neg e]at h;omega
end Go.Dav
