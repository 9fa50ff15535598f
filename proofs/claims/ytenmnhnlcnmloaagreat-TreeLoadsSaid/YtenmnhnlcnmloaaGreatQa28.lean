/- Part of a proof of a law of the layer of trees. -/
import Derived.Test.YtenmnhnlcnmloaaGreatQa21
import Derived.Test.YtenmnhnlcnmloaaGreatQa25
import Derived.Test.YtenmnhnlcnmloaaGreatQa27
import Derived.Test.YtenmnhnlcnmloaaGreatQa08
import Derived.Test.YtenmnhnlcnmloaaGreatQa12
import Derived.RangeFuncFrom
import Derived.Test.YtenmnhnlcnmloaaGreatQa16
import Derived.Test.YtenmnhnlcnmloaaGreatQa26
import Derived.Test.YtenmnhnlcnmloaaGreatQa19
import Derived.Test.YtenmnhnlcnmloaaGreatQa01
set_option linter.unusedVariables false
set_option linter.unusedSimpArgs false
set_option maxHeartbeats 8000000
set_option maxRecDepth 8000
namespace Go.Dav
open Go Go.RowKit
structure iE where
 kind:Int
 node:Int
def mV(out:List aP)(x:aP):List aP:=
 if fD x=false\/(out[(out.takeWhile λy=>bH y.key x.key).length]?).map (·.key)=some x.key then out
 else out.take (out.takeWhile λy=>bH y.key x.key).length++x::out.drop (out.takeWhile λy=>bH y.key x.key).length
def Fa(l:List aP):List aP:=l.foldl mV []
def Fb(dK:List Int)(i:Nat):Nat:=match dK[i]? with
 |none=>6
 |some f=>3+(f%4).toNat
def cutAt(dK:List Int)(i n:Nat):Nat:=if n-3<Fb dK i then n-3 else Fb dK i
def fJ(dK:List Int):(fuel i n:Nat)->List Nat
 |0,_,_=>[]
 |fuel+1,i,n=>if 6<n then cutAt dK i n::fJ dK fuel (i+1) (n-cutAt dK i n)else if n=0 then []else [n]
def YE(F:aB)(piece:List UInt8):aB:=(F.op piece.length λG=> { G with loose:=G.loose++[piece]}).1
def Le(F:aB)(b:List UInt8):aB×Int:=(YE F (jU F.all (outOf b)),(placeOf F.all (outOf b):Int))
def mJ(hu:iE)(number:Nat)(kind:Int):Bool:=decide (hu.node=(number:Int))&&decide (hu.kind=kind)
def Ud(c:Bool)(N:aT):aT:=if c=true then⟨N.leaf,N.items.take 2,N.kids.take 2⟩else N
def SC(hu:iE)(number:Nat)(M:aT)(at_:Int):dS:=
 ⟨if mJ hu number 1=true then bK M++[0]else bK M,if mJ hu number 3=true then at_+1 else at_,if mJ hu number 2=true then { lD M with c:=(lD M).c+1}else lD M⟩
def rX(F:aB)(N:aT)(number:Nat)(hu:iE):aB×dS:=
 ((Le F (aJ (Ud (mJ hu number 4) N))).1,SC hu number (Ud (mJ hu number 4) N) (Le F (aJ (Ud (mJ hu number 4) N))).2)
structure nR where
 file:aB
 kids:List dS
 number:Nat
 from_:Nat
def xM(l:List aP)(hu:iE)(s:nR)(many:Nat):aT:=
 ⟨true,if hu.kind=6/\hu.node+1=(s.number:Int)/\0<s.from_/\many<6 then(l.drop (s.from_-1)).take 1++(l.drop s.from_).take many else(l.drop s.from_).take many,[]⟩
def jW(N:aT)(hu:iE)(s:nR)(many:Nat):nR:=⟨(rX s.file N s.number hu).1,s.kids++[(rX s.file N s.number hu).2],s.number+1,s.from_+many⟩
def iO(l:List aP)(hu:iE):List Nat->nR->nR
 |[],s=>s
 |many::r,s=>iO l hu r (jW (xM l hu s many) hu s many)
def Lh(k:dS)(z:Int):dS:=⟨k.key,z,k.red⟩
def rowP(all:List dS)(hu:iE)(depth:Nat)(s:nR)(many:Nat):List dS:=
 if hu.kind=5/\hu.node=(depth:Int)then match (all.drop s.from_).take many with
  |[]=>[]
  |k::r=>Lh k ((s.file.all.length:Int)+200)::r
 else(all.drop s.from_).take many
def pK(all:List dS)(hu:iE)(depth:Nat):List Nat->nR->nR
 |[],s=>s
 |many::r,s=>pK all hu depth r (jW ⟨false,[],rowP all hu depth s many⟩ hu s many)
def jg(dK:List Int)(hu:iE):(fuel:Nat)->(depth:Nat)->nR->nR×Nat
 |0,depth,s=>(s,depth)
 |fuel+1,depth,s=>if 1<s.kids.length then jg dK hu fuel (depth+1) (pK s.kids hu depth (fJ dK s.kids.length 0 s.kids.length) ⟨s.file,[],s.number,0⟩)else(s,depth)
def qU(F:aB)(l:List aP)(dK:List Int)(hu:iE):aB×mP:=
 if l=[]then(F,⟨0,0,Red.zero⟩)else
  match jg dK hu (iO l hu (fJ dK l.length 0 l.length) ⟨F,[],0,0⟩).kids.length 0 (iO l hu (fJ dK l.length 0 l.length) ⟨F,[],0,0⟩)with
  |(s,depth)=>(s.file,match s.kids with
   |[]=>⟨0,0,Red.zero⟩
   |k::_=>⟨k.at_,(depth:Int),k.red⟩)
theorem mW(turned:Bool){α:Type}(l:List α):(oq turned l).length=l.length:=by unfold oq;cases turned<;>simp
theorem DV(turned:Bool){α:Type}(l:List α)(k:Nat)(hk:k<l.length):(oq turned l)[k]? =l[if turned=true then l.length-1-k else k]?:=by
 unfold oq;cases turned with
 |false=>rfl
 |true=>simp only[if_true];rw[List.getElem?_reverse oM]
theorem SE{b:bD}{turned:Bool}{last:Option (List UInt8)}{l:List aP}{k:Nat}{x:aP}(h:l[k]? =some x):
  goI b turned last (l.drop k)=if Ar turned last x.key=true then((if b.holdsB x.key=true then [x]else [])++(goI b turned (some x.key) (l.drop (k+1))).1,(goI b turned (some x.key) (l.drop (k+1))).2)else([],none):=by
 obtain⟨hlt,rfl⟩:=List.getElem?_eq_some_iff.1 h;rw[List.drop_eq_getElem_cons hlt,goI]
theorem U0{b:bD}{turned:Bool}{last:Option (List UInt8)}{l:List aP}{k:Nat}(h:l.length<=k):goI b turned last (l.drop k)=([],some last):=by rw[List.drop_eq_nil_of_le h];rfl
theorem SG{step:Nat->Option (List UInt8)->List aP×Option (Option (List UInt8))}{l:List Nat}{k i:Nat}{last:Option (List UInt8)}(h:l[k]? =some i):
  goK step (l.drop k) last=match (step i last).2 with
  |none=>((step i last).1,none)
  |some last2=>((step i last).1++(goK step (l.drop (k+1)) last2).1,(goK step (l.drop (k+1)) last2).2):=by
 obtain⟨hlt,rfl⟩:=List.getElem?_eq_some_iff.1 h;rw[List.drop_eq_getElem_cons hlt,goK];rfl
theorem U1{step:Nat->Option (List UInt8)->List aP×Option (Option (List UInt8))}{l:List Nat}{k:Nat}{last:Option (List UInt8)}(h:l.length<=k):goK step (l.drop k) last=([],some last):=by rw[List.drop_eq_nil_of_le h];rfl
def Qj(all:List UInt8)(b:bD)(turned:Bool)(d:Nat)(N:aT)(a:Int)(i:Nat)(last:Option (List UInt8)):List aP×Option (Option (List UInt8)):=
 if inP b N i=true then(match N.kids[i]? with
   |none=>([],some last)
   |some k=>match EU all d a k with
    |none=>([],none)
    |some M=>goN all b turned d M k.at_ last)else([],some last)
theorem Lj(all:List UInt8)(b:bD)(turned:Bool)(d:Nat)(N:aT)(a:Int)(last:Option (List UInt8)):goN all b turned (d+1) N a last=goK (Qj all b turned d N a) (oq turned (List.range N.kids.length)) last:=rfl
theorem Ll(all:List UInt8)(b:bD)(turned:Bool)(N:aT)(a:Int)(last:Option (List UInt8)):goN all b turned 0 N a last=goI b turned last (oq turned N.items):=rfl
theorem NG(turned:Bool)(n k:Nat)(hk:k<n):(oq turned (List.range n))[k]? =some (if turned=true then n-1-k else k):=by
 rw[DV turned _ k (by simpa using hk),List.length_range,List.getElem?_range (by split<;>omega)]
def mP.Ue(t:mP):Bool:=decide (t.at_=0/\t.depth=0/\je t.red Red.zero=true)
def vF(all:List UInt8)(t:mP):Option aT:=if t.at_=0\/8<t.depth then none else match jo all t.at_ t.depth with
 |none=>none
 |some N=>if je (Fv N).1 t.red=false then none else some N
def goT(F:aB)(b:bD)(turned:Bool)(t:mP):List aP×Int:=
 if F.right=true then(if t.Ue=true then([],0)else match vF F.all t with
  |none=>([],260)
  |some N=>((goN F.all b turned t.depth.toNat N t.at_ none).1,if (goN F.all b turned t.depth.toNat N t.at_ none).2=none then 260 else 0))else([],200)
def uo(F:aB)(t:mP)(b:bD)(turned:Bool)(most:Int):List aP×Int:=
 if most=0 then([],if F.right=true then 0 else 200)
 else if 0<most/\most<=((goT F b turned t).1.length:Int)then((goT F b turned t).1.take most.toNat,0)
 else if (goT F b turned t).2=0 then((goT F b turned t).1,0)else([],(goT F b turned t).2)
theorem Uf(x y:List UInt8):decide (0<=Lib.compareBytes x y)= !(bH x y):=by
 obtain⟨h1,_⟩:=ji x y;cases h:bH x y with
 |true=>rw[decide_eq_false];rfl;have:=h1.2 h;omega
 |false=>
  rw[decide_eq_true];rfl;have:¬Lib.compareBytes x y<0:=λhh=>by rw[h1.1 hh]at h;cases h
  omega
theorem yH:∀x:List UInt8,bH x x=false
 |[]=>rfl
 |c::x=>by unfold bH;rw[if_pos rfl];exact yH x
theorem DW:∀x y:List UInt8,bH x y=false->x≠y->bH y x=true
 |[],[],_,h=>(h rfl).elim
 |[],_::_,h,_=>by simp[bH]at h
 |_::_,[],_,_=>rfl
 |c::x,d::y,h,hn=>by
  unfold bH at h⊢;by_cases e:c=d
  .subst e;rw[if_pos rfl]at h⊢;exact DW x y h λe=>hn (by rw[e])
  .rw[if_neg e]at h;rw[if_neg (Ne.symm e)];simp only[decide_eq_false_iff_not,decide_eq_true_eq]at h⊢;have:c.toNat≠d.toNat:=λh2=>e (UInt8.toNat_inj.1 h2);omega
theorem DX:∀x y:List UInt8,bH x y=true->bH y x=false
 |[],[],h=>by simp[bH]at h
 |[],_::_,_=>rfl
 |_::_,[],h=>by simp[bH]at h
 |c::x,d::y,h=>by
  unfold bH at h⊢;by_cases e:c=d
  .subst e;rw[if_pos rfl]at h⊢;exact DX x y h
  .rw[if_neg e]at h;rw[if_neg (Ne.symm e)];simp only[decide_eq_true_eq,decide_eq_false_iff_not]at h⊢;omega
theorem Qk(x y:List UInt8):decide (0<Lib.compareBytes x y)=bH y x:=by
 obtain⟨h1,h2,_⟩:=ji x y;by_cases h:0<Lib.compareBytes x y
 .rw[decide_eq_true h];refine(DW x y ?_ λe=>?_).symm
  .cases hx:bH x y with
   |false=>rfl
   |true=>have:=h1.2 hx;omega
  .have:=h2.2 e;omega
 .rw[decide_eq_false h];cases hy:bH y x with
  |false=>rfl
  |true=>
   have hx:=DX y x hy;have:¬Lib.compareBytes x y<0:=λhh=>by rw[h1.1 hh]at hx;cases hx
   have h0:x=y:=h2.1 oM;rw[h0,yH]at hy;cases hy
structure WkP where
 ba:Option Addr
 bl:Nat
 bc:Nat
 ta:Option Addr
 tl:Nat
 tc:Nat
 fa:Option Addr
 fl:Nat
 fc:Nat
 la:Option Addr
 ll:Nat
 lc:Nat
def wkC(p:WkP)(B:bD)(F:aB)(turned:Bool)(za:Option Addr)(zl zc:Nat)(told:Bool)(why:Int):List Value:=
 [.slice p.ba p.bl p.bc, .bool B.ends, .slice p.ta p.tl p.tc, .slice p.fa p.fl p.fc, .slice p.la p.ll p.lc, .int .i64 F.fuse, .int .i64 F.fault, .bool F.off, .bool turned, .slice za zl zc, .bool told, .int .i64 why]
structure WkS(W:World)(q:Nat)(t:TypeId)(S:Nat->Prop)(p:WkP)(B:bD)(F:aB)(turned:Bool)(last:Option (List UInt8))(why:Int)(za:Option Addr)(zl zc:Nat):Prop where
 box:Blk W q (wkC p B F turned za zl zc last.isSome why) t
 key:au W S za zl zc (last.getD [])
 from_:au W S p.ba p.bl p.bc B.from_
 to_:au W S p.ta p.tl p.tc B.to_
 file:fB W S p.fa p.fl p.fc p.la p.ll p.lc F
theorem WkS.ext{W W':World}{q t:Nat}{S:Nat->Prop}{p:WkP}{B:bD}{F:aB}{turned:Bool}{last:Option (List UInt8)}{why:Int}{za:Option Addr}{zl zc:Nat}(h:WkS W q t S p B F turned last why za zl zc)(hb:Below W.heap.size W W'):WkS W' q t S p B F turned last why za zl zc:=
 ⟨h.box.ext hb,h.key.ext hb,h.from_.ext hb,h.to_.ext hb,h.file.ext hb⟩
theorem au.gG{W W':World}{S q:Nat->Prop}{a:Option Addr}{n c:Nat}{l:List UInt8}(h:au W S a n c l)(k:aA q W W')(hS:∀b,S b->¬q b):au W' S a n c l:=h.same k.size λb hb hl=>k.block b hl (hS b hb)
def ZT{α:Type}(F:Fence)(n:Nat)(P:Program)(g:Nat)(lb:Array Value)(encs:α->Array Value)(q:Nat->Prop)(Kp:World->World->Prop)(X:α->World->Prop)(S Sp:List α->World->Prop)(N:Nat)(w:World):Prop:=
 ∀(l:Nat) (J Jx:List α->World->Prop) (W:World),Below w.heap.size w W->w.heap.size<=W.heap.size->(∀s A B,J s A->aA q A B->J s B)->(∀s A B,Jx s A->aA q A B->Jx s B)->
  (∀m pre x W1,J pre W1->X x W1->pre.length<N->YieldAt F m P l (encs x) W1 λe W'=>(e= .returned (.bool true)/\J (pre++[x]) W'/\Kp W1 W')\/(e= .returned (.bool false)/\Jx (pre++[x]) W'/\Kp W1 W'))->
  J [] W->CallsIn F n P g (#[.func (.yield l) #[] #[]]++lb) W λe W'=>(∃v,e= .returned v)/\((∃xs,S xs W'/\J xs W')\/∃pre,Sp pre W'/\Jx pre W')
def SH{α:Type}(Kp:World->World->Prop)(I:List α->World->Prop)(Ix:Code->List α->World->Prop)(xs:List α)(W:World):Exit->Act->World->Prop
 | .normal,_,W'=>KeepsOthers W W'/\Kp W W'/\I xs W'
 | .ret,_,W'=>KeepsOthers W W'/\Kp W W'/\Ix .ret xs W'
 | .exit id,_,W'=>KeepsOthers W W'/\Kp W W'/\Ix (.exit id) xs W'
 | .goto t,_,W'=>KeepsOthers W W'/\Kp W W'/\Ix (.goto t) xs W'
 | .panic _,_,_=>False
 | .outgrown,_,_=>False
theorem aA.keeps{q:Nat->Prop}{A B:World}(h:aA q A B){k:Nat}{o:Obj}(hk:A.heap[k]? =some o)(hq:¬q k):B.heap[k]? =some o:=(h.block k (Array.getElem?_eq_some_iff.1 hk).1 hq).trans hk
def pO(ob b:Nat):Prop:=b=ob
def pQ(q ob b:Nat):Prop:=b=ob\/b=q
def Sf(q ob:Nat)(W:World)(b:Nat):Prop:=b<W.heap.size/\b≠q/\b≠ob/\¬mO W ob b
structure Vd(q ob:Nat)(W:World):Prop where
 ho:ob<W.heap.size
 hq:q<W.heap.size
 hne:q≠ob
 pq:¬mO W ob q
 pts:∀b,mO W ob b->b<W.heap.size
theorem KpQ.weak{ob:Nat}{p r:Nat->Prop}{W W':World}(h:KpQ ob p W W')(hr:∀b,p b->r b):KpQ ob r W W':=⟨h.size,λk o h1 h2 h3 h4=>h.same k o h1 h2 (λhp=>h3 (hr k hp)) h4,h.pts⟩
theorem KpQ.Qb{ob:Nat}{p r:Nat->Prop}{W W':World}(h:aA r W W')(hob:ob<W.heap.size)(hr:∀b,r b->p b)(hro:¬r ob):KpQ ob p W W':=
 ⟨h.size,λk o h1 _ h3 _=>(h.block k (Array.getElem?_eq_some_iff.1 h1).1 (λhrk=>h3 (hr k hrk))).trans h1,λk ⟨o,n,c,hc⟩=> .inl ⟨o,n,c,by rw[<- World.cell?_of_block (h.block ob hob hro)];exact hc⟩⟩
theorem KpQ.put{ob:Nat}{p:Nat->Prop}{W:World}{l:Nat}{o o':Obj}(h0:ob<l)(h2:W.heap[l]? =some o)(h3:o.isCells=false):KpQ ob p W (W.putObj l o'):=by
 refine⟨(grownBy_putObj' W l o').size,λk x h4 h5 _ _=>?_,λk hk=>?_⟩
 .refine((grownBy_putObj' W l o').block k (Array.getElem?_eq_some_iff.1 h4).1 (λe=>?_)).trans h4;cases e;rw[h2]at h4;cases h4;rw[h3]at h5;cases h5
 .obtain⟨o1,n1,c1,hc⟩:=hk;have hl:ob<W.heap.size:=by have:=(Array.getElem?_eq_some_iff.1 h2).1;omega
  exact .inl ⟨o1,n1,c1,by
   rw[<- World.cell?_of_block ((grownBy_putObj' W l o').block ob hl (by intro e;cases e;omega))];exact hc⟩
theorem KpQ.lt{ob:Nat}{p:Nat->Prop}{W W':World}(k:KpQ ob p W W'){b:Nat}(h:b<W.heap.size):b<W'.heap.size:=Nat.lt_of_lt_of_le h k.size
theorem KpQ.cell{ob:Nat}{p:Nat->Prop}{W W':World}(k:KpQ ob p W W'){b i:Nat}{v:Value}(h:W.cell? ⟨b,i,none⟩=some v)(hp:¬p b)(hq:¬mO W ob b):W'.cell? ⟨b,i,none⟩=some v:=by
 obtain⟨o,hb,hc⟩:=pG h;have h5:=k.same b o hb hc hp hq;rw[World.cell?_of_block (h5.trans hb.symm)];exact h
theorem Vd.kpq{q ob:Nat}{p:Nat->Prop}{W W':World}(h:Vd q ob W)(k:KpQ ob p W W'):Vd q ob W':=
 ⟨k.lt h.ho,k.lt h.hq,h.hne,λhp=>by
  rcases k.pts q hp with e|e
  .exact h.pq e
  .have:=h.hq;omega,λb hb=>by
  rcases k.pts b hb with e|e
  .exact k.lt (h.pts b e)
  .exact e.2⟩
theorem Vd.only{q ob:Nat}{W W':World}(h:Vd q ob W)(k:aA (· =q) W W'):KpQ ob (pQ q ob) W W':=KpQ.Qb k h.ho (λb e=> .inr e) (λe=>h.hne e.symm)
theorem Vd.below{q ob:Nat}{p:Nat->Prop}{W W':World}(h:Vd q ob W)(k:Below W.heap.size W W'):KpQ ob p W W':=KpQ.of_below h.ho k
theorem Sf.pq{q ob:Nat}{W:World}{b:Nat}(h:Sf q ob W b):¬pQ q ob b/\¬mO W ob b:=⟨λe=>by rcases e with e|e;exact h.2.2.1 e;exact h.2.1 e,h.2.2.2⟩
theorem Sf.kpq{q ob:Nat}{p:Nat->Prop}{W W':World}{b:Nat}(h:Sf q ob W b)(k:KpQ ob p W W'):Sf q ob W' b:=⟨k.lt h.1,h.2.1,h.2.2.1,λhp=>by
  rcases k.pts b hp with e|e
  .exact h.2.2.2 e
  .have:=h.1;omega⟩
theorem Sf.ne{q ob:Nat}{W:World}:∀b,Sf q ob W b->b≠q:=λ_ h=>h.2.1
theorem Sf.new{q ob:Nat}{W W':World}(h:Vd q ob W)(k:Below W.heap.size W W'){b:Nat}(h1:W.heap.size<=b)(h2:b<W'.heap.size):Sf q ob W' b:=
 ⟨h2,by have:=h.hq;omega,by have:=h.ho;omega,λhp=>by
  rcases(h.below (p:=λ_=>False) k).pts b hp with e|e
  .have:=h.pts b e;omega
  .obtain⟨o,n,c,hc⟩:=hp;have:mO W ob b:=⟨o,n,c,by rw[<- World.cell?_of_block (k.block ob h.ho)];exact hc⟩;have:=h.pts b this;omega⟩
theorem au.go{q ob:Nat}{W W':World}{a:Option Addr}{n c:Nat}{l:List UInt8}(h:au W (Sf q ob W) a n c l)(k:KpQ ob (pQ q ob) W W'):au W' (Sf q ob W') a n c l:=(h.kpq k λ_ hb=>hb.pq).mono λ_ hb=>hb.kpq k
theorem fB.go{q ob:Nat}{W W':World}{fa la:Option Addr}{fl fc ll lc:Nat}{F:aB}(h:fB W (Sf q ob W) fa fl fc la ll lc F)(k:KpQ ob (pQ q ob) W W'):fB W' (Sf q ob W') fa fl fc la ll lc F:=(h.kpq k λ_ hb=>hb.pq).mono λ_ hb=>hb.kpq k
theorem aY.kpq{ob:Nat}{p S:Nat->Prop}{W W':World}{a:Option Addr}{n c:Nat}{l:List aP}(h:aY W S a n c l)(k:KpQ ob p W W')(hS:∀b,S b->¬p b/\¬mO W ob b):aY W' S a n c l:=
 ⟨h.hlen,h.hcap,h.hmax,h.hfew,λi x hx=>by
  obtain⟨b,o,ka,kl,kc,va,vl,vc,h1,h2,h3,c0,c1,c2,c3,h4,h5,h6⟩:=h.hat i x hx;obtain⟨hb,hb2⟩:=hS b h3;exact⟨b,o,ka,kl,kc,va,vl,vc,h1,k.lt h2,h3,k.cell c0 hb hb2,k.cell c1 hb hb2,k.cell c2 hb hb2,k.cell c3 hb hb2,h4.kpq k hS,h5.kpq k hS,h6⟩,h.hnil⟩
theorem dZ.kpq{ob:Nat}{p S:Nat->Prop}{W W':World}{a:Option Addr}{n c:Nat}{l:List dS}(h:dZ W S a n c l)(k:KpQ ob p W W')(hS:∀b,S b->¬p b/\¬mO W ob b):dZ W' S a n c l:=
 ⟨h.hlen,h.hcap,h.hmax,h.hfew,λi x hx=>by
  obtain⟨b,o,ka,kl,kc,h1,h2,h3,c0,c1,c2,c3,c4,c5,c6,c7,h4,h5,h6⟩:=h.hat i x hx;obtain⟨hb,hb2⟩:=hS b h3;exact⟨b,o,ka,kl,kc,h1,k.lt h2,h3,k.cell c0 hb hb2,k.cell c1 hb hb2,k.cell c2 hb hb2,k.cell c3 hb hb2,k.cell c4 hb hb2,k.cell c5 hb hb2,k.cell c6 hb hb2,k.cell c7 hb hb2,h4.kpq k hS,h5,h6⟩,h.hnil⟩
theorem bM.go{q ob:Nat}{W W':World}{ia ka:Option Addr}{il ic kl kc:Nat}{N:aT}(h:bM W (Sf q ob W) ia il ic ka kl kc N)(k:KpQ ob (pQ q ob) W W'):bM W' (Sf q ob W') ia il ic ka kl kc N:=
 (⟨h.items.kpq k λ_ hb=>hb.pq,h.kids.kpq k λ_ hb=>hb.pq⟩:bM W' (Sf q ob W) ia il ic ka kl kc N).mono λ_ hb=>hb.kpq k
theorem WkS.mono{W:World}{q t:Nat}{S T:Nat->Prop}{p:WkP}{B:bD}{F:aB}{turned:Bool}{last:Option (List UInt8)}{why:Int}{za:Option Addr}{zl zc:Nat}(h:WkS W q t S p B F turned last why za zl zc)(hst:∀b,S b->T b):WkS W q t T p B F turned last why za zl zc:=
 ⟨h.box,h.key.mono hst,h.from_.mono hst,h.to_.mono hst,h.file.mono hst⟩
theorem WkS.round{q ob t:Nat}{W W':World}{p:WkP}{B:bD}{F:aB}{turned:Bool}{last:Option (List UInt8)}{why:Int}{za:Option Addr}{zl zc:Nat}(h:WkS W q t (Sf q ob W) p B F turned last why za zl zc)(hv:Vd q ob W)(k:KpQ ob (pO ob) W W'):WkS W' q t (Sf q ob W') p B F turned last why za zl zc:=
 have k2:KpQ ob (pQ q ob) W W':=k.weak λ_ e=> .inl e;⟨k.blk h.box (λe=>hv.hne e) hv.pq,h.key.go k2,h.from_.go k2,h.to_.go k2,h.file.go k2⟩
def jh(W:World)(S:Nat->Prop)(x:aP)(v:Value):Prop:=∃ka kl kc va vl vc,v= .agg #[.slice ka kl kc, .slice va vl vc, .bool x.int, .int .i64 x.n]/\au W S ka kl kc x.key/\au W S va vl vc x.value/\eY x.n
theorem jh.go{q ob:Nat}{W W':World}{x:aP}{v:Value}(h:jh W (Sf q ob W) x v)(k:KpQ ob (pQ q ob) W W'):jh W' (Sf q ob W') x v:=by
 obtain⟨ka,kl,kc,va,vl,vc,h1,h2,h3,h4⟩:=h;exact⟨ka,kl,kc,va,vl,vc,h1,h2.go k,h3.go k,h4⟩
theorem jh.mono{S T:Nat->Prop}{W:World}{x:aP}{v:Value}(h:jh W S x v)(hst:∀b,S b->T b):jh W T x v:=by
 obtain⟨ka,kl,kc,va,vl,vc,h1,h2,h3,h4⟩:=h;exact⟨ka,kl,kc,va,vl,vc,h1,h2.mono hst,h3.mono hst,h4⟩
theorem jh.only{q S:Nat->Prop}{W W':World}{x:aP}{v:Value}(h:jh W S x v)(k:aA q W W')(hS:∀b,S b->¬q b):jh W' S x v:=by
 obtain⟨ka,kl,kc,va,vl,vc,h1,h2,h3,h4⟩:=h;exact⟨ka,kl,kc,va,vl,vc,h1,h2.gG k hS,h3.gG k hS,h4⟩
theorem jh.ext{S:Nat->Prop}{W W':World}{x:aP}{v:Value}(h:jh W S x v)(hb:Below W.heap.size W W'):jh W' S x v:=by
 obtain⟨ka,kl,kc,va,vl,vc,h1,h2,h3,h4⟩:=h;exact⟨ka,kl,kc,va,vl,vc,h1,h2.ext hb,h3.ext hb,h4⟩
abbrev iP:Type:=aP×Value
abbrev iP.encs(x:iP):Array Value:= #[x.2]
def WkE(W:World)(q ob t:Nat)(p:WkP)(B:bD)(F:aB)(turned:Bool)(last:Option (List UInt8))(why:Int):Prop:=Vd q ob W/\∃za zl zc,WkS W q t (Sf q ob W) p B F turned last why za zl zc
def cu(q ob t:Nat)(p:WkP)(B:bD)(F:aB)(turned:Bool)(J Jx:List iP->World->Prop)(pre:List iP)(W:World)(g:List aP×Option (Option (List UInt8)))(e:Ending)(W':World):Prop:=
 KpQ ob (pQ q ob) W W'/\((∃ys:List iP,ys.map (·.1)=g.1/\J (pre++ys) W'/\match g.2 with
  |some last2=>e= .returned (.bool true)/\WkE W' q ob t p B F turned last2 0
  |none=>e= .returned (.bool false)/\∃last2,WkE W' q ob t p B F turned last2 260)
 \/(e= .returned (.bool false)/\∃ys:List iP,ys.map (·.1) <+: g.1/\Jx (pre++ys) W'/\∃last2,WkE W' q ob t p B F turned last2 0))
def SI(w:World)(S:Nat->Prop)(r:aB×Int)(e:Ending)(w':World):Prop:=
 ∃fa fl fc la ll lc,e= .returned (.tuple #[.agg #[.slice fa fl fc, .slice la ll lc, .int .i64 r.1.fuse, .int .i64 r.1.fault, .bool r.1.off], .int .i64 r.2])/\fB w' (Or S w) fa fl fc la ll lc r.1/\Below w.heap.size w w'
end Go.Dav
namespace Go.Proofs.YtenmnhnlcnmloaaGreat
open Go.RowKit Go.Dav
attribute [local go_sem] Gives ite_val ay
theorem IE(B:bD)(ba ta ka:Option Addr)(bl bc tl tc kl kc:Nat)(k:List UInt8)(w:World)(hT:BytesAt w ta tl tc B.to_)(hK:BytesAt w ka kl kc k):
  Calls Tryz.prog 115 #[.agg #[.slice ba bl bc, .bool B.ends, .slice ta tl tc], .slice ka kl kc] w λe w'=>e= .returned (.bool (B.endsB k))/\Below w.heap.size w w':=by
 have b0:Below w.heap.size w (w.alloc (.cells #[.slice ba bl bc, .bool B.ends, .slice ta tl tc] 114)):=bW;have HB0:=Hd b0;obtain⟨en,hen⟩:∃en,B.ends=en:=⟨_,rfl⟩;obtain⟨r,hr⟩:∃r,B.endsB k=r:=⟨_,rfl⟩;rw[hr];have hr2:=hr;unfold bD.endsB at hr2;rw[hen]at hr2;have HC:=Hd (iY ka ta kl kc tl tc k B.to_ _ (hK.ext b0) (hT.ext b0));rw[hen]at HC b0 HB0⊢;cases en with
 |false=>
  obtain rfl:r=false:=by rw[<- hr2];rfl
  clear hr hr2 hT hK b0 HC hen;go_enter Tryz.func115,Tryz.ntmps115;go_wp2;go_ret;exact⟨rfl,HB0.o⟩
 |true=>
  obtain⟨C,hC⟩:∃C,Lib.compareBytes k B.to_=C:=⟨_,rfl⟩;have hd:=Uf k B.to_;rw[hC]at HC hd;obtain rfl:decide (0<=C)=r:=by rw[hd,<- hr2];rfl
  clear hr hr2 hT hK b0 hen hd hC;go_enter Tryz.func115,Tryz.ntmps115;go_wp2_with fail;refine HC.o.mono ?_;rintro e w1 ⟨rfl,hb1⟩;have B1:=Hd (HB0.o.trans (hb1.mono HB0.o.size));clear hb1 HB0 HC;go_wp2;go_ret;exact⟨rfl,B1.o⟩
theorem pU(B:bD)(ba ta ka:Option Addr)(bl bc tl tc kl kc:Nat)(k:List UInt8)(w:World)(hF:BytesAt w ba bl bc B.from_)(hT:BytesAt w ta tl tc B.to_)(hK:BytesAt w ka kl kc k):
  Calls Tryz.prog 64 #[.agg #[.slice ba bl bc, .bool B.ends, .slice ta tl tc], .slice ka kl kc] w λe w'=>e= .returned (.bool (B.holdsB k))/\Below w.heap.size w w':=by
 have b0:Below w.heap.size w (w.alloc (.cells #[.slice ba bl bc, .bool B.ends, .slice ta tl tc] 114)):=bW;have HB0:=Hd b0;obtain⟨C,hC⟩:∃C,Lib.compareBytes k B.from_=C:=⟨_,rfl⟩;obtain⟨en,hen⟩:∃en,B.endsB k=en:=⟨_,rfl⟩;have hc:=iY ka ba kl kc bl bc k B.from_ _ (hK.ext b0) (hF.ext b0);have hd:=Uf k B.from_;rw[hC]at hc hd;have HC:=Hd hc;have HE:=Hd (λW (hb:Below w.heap.size w W)=>by have q:=IE B ba ta ka bl bc tl tc kl kc k W (hT.ext hb) (hK.ext hb);rw[hen]at q;exact q);have HQ:=Hd (Blk.new w [.slice ba bl bc, .bool B.ends, .slice ta tl tc] 114);have hv:B.holdsB k=(decide (0<=C)&& !en):=by unfold bD.holdsB;rw[hd,hen]
 rw[hv];clear hv hd hc hen hC b0 hF hT hK;go_enter Tryz.func64,Tryz.ntmps64;go_wp2_with fail;refine HC.o.mono ?_;rintro e w1 ⟨rfl,hb1⟩;have B1:=Hd (HB0.o.trans (hb1.mono HB0.o.size));have hq:=HQ.o.ext hb1;have q1:=hq.cells;have l1:=hq.lt;clear hb1 HB0 HC hq HQ;by_cases hC0:0<=C
 .have d0:decide (0<=C)=true:=decide_eq_true hC0;go_wp2_with fail;refine(HE.o _ B1.o).mono ?_;rintro e w2 ⟨rfl,hb2⟩;have B2:=Hd (B1.o.trans (hb2.mono B1.o.size));clear hb2 B1 HE q1 l1;go_wp2;go_ret;exact⟨by first|rfl|(rw[d0,Bool.true_and];rfl)|(cases en<;>simp[hC0]),B2.o⟩
 .have d0:decide (0<=C)=false:=decide_eq_false hC0;go_wp2;go_ret;exact⟨by first|rfl|(rw[d0,Bool.false_and];rfl)|(cases en<;>simp[hC0]),B1.o⟩
theorem J6(B:bD)(ba ta ka:Option Addr)(bl bc tl tc kl kc:Nat)(k:List UInt8)(w:World)(hF:BytesAt w ba bl bc B.from_)(hT:BytesAt w ta tl tc B.to_)(hK:BytesAt w ka kl kc k):
  Calls Tryz.prog 32 #[.agg #[.slice ba bl bc, .bool B.ends, .slice ta tl tc], .slice ka kl kc] w λe w'=>e= .returned (.bool (B.holdsB k))/\Below w.heap.size w w':=by
 have b0:Below w.heap.size w (w.alloc (.cells #[.slice ba bl bc, .bool B.ends, .slice ta tl tc] 28)):=bW;have HB0:=Hd b0;have HC:=Hd (pU B ba ta ka bl bc tl tc kl kc k _ (hF.ext b0) (hT.ext b0) (hK.ext b0));clear b0 hF hT hK;go_enter Tryz.func32,Tryz.ntmps32;go_wp2_with fail;refine HC.o.mono ?_;rintro e w1 ⟨rfl,hb1⟩;have B1:=Hd (HB0.o.trans (hb1.mono HB0.o.size));clear hb1 HB0 HC;go_wp2;go_ret;exact⟨rfl,B1.o⟩
theorem dh{S:Nat->Prop}{p:WkP}{B:bD}{F:aB}{turned:Bool}{last:Option (List UInt8)}{why:Int}{za:Option Addr}{zl zc q:Nat}(w:World)(h:WkS w q 116 S p B F turned last why za zl zc)(hS:∀b,S b->b≠q):
  Calls Tryz.prog 143 #[.pointer (some ⟨q,0,none⟩)] w λe w'=>e= .returned (.bool false)/\WkS w' q 116 S p B F turned last 260 za zl zc/\aA (· =q) w w':=by
 have q1:=h.box.cells;have m1:=h.box.marks;have l1:=h.box.lt;have H:=Hd h;unfold wkC at q1;clear h;go_enter Tryz.func143,Tryz.ntmps143;go_wp2;go_ret;have ho:=(aA.refl (· =q) w).set q 11 (.int .i64 260) rfl;exact⟨rfl,⟨H.o.box.set 11 _,H.o.key.gG ho hS,H.o.from_.gG ho hS,H.o.to_.gG ho hS,H.o.file.same ho.size λb hb hl=>ho.block b hl (hS b hb)⟩,ho⟩
end Go.Proofs.YtenmnhnlcnmloaaGreat
namespace Go.Proofs.YtenmnhnlcnmloaaGreat
open Go.RowKit Go.Dav
attribute [local go_sem] Gives dG ite_val ay
theorem SK(F:aB)(fa la ba:Option Addr)(fl fc ll lc bl bc:Nat)(x:List UInt8)(w:World)(S T:Nat->Prop)(hF:fB w S fa fl fc la ll lc F)(hS:∀b,S b->b<w.heap.size)(hr:F.right=true)(hx:au w T ba bl bc x)(hbl:bl<=4096):
  Calls Tryz.prog 135 #[.agg #[.slice fa fl fc, .slice la ll lc, .int .i64 F.fuse, .int .i64 F.fault, .bool F.off], .slice ba bl bc] w (SI w S (Le F x)):=by
 have hm:=(aB.cZ.1 hr).2.2.2.2;have hal:=aB.gu F;have hxl:=hx.at_.hlen;have b0:Below w.heap.size w ((w.alloc (.cells [.slice fa fl fc, .slice la ll lc, .int .i64 F.fuse, .int .i64 F.fault, .bool F.off].toArray 32)).alloc (.cells #[.slice none 0 0, .slice none 0 0, .int .i64 0, .int .i64 0, .bool false] 32)):=bW;have HB0:=Hd b0;have HQ2:=Hd (show Blk ((w.alloc (.cells [.slice fa fl fc, .slice la ll lc, .int .i64 F.fuse, .int .i64 F.fault, .bool F.off].toArray 32)).alloc (.cells #[.slice none 0 0, .slice none 0 0, .int .i64 0, .int .i64 0, .bool false] 32)) w.heap.size [.slice fa fl fc, .slice la ll lc, .int .i64 F.fuse, .int .i64 F.fault, .bool F.off] 32 from(Blk.new w [.slice fa fl fc, .slice la ll lc, .int .i64 F.fuse, .int .i64 F.fault, .bool F.off] _).alloc _);have HQ4:=Hd (Blk.new' (w.alloc (.cells [.slice fa fl fc, .slice la ll lc, .int .i64 F.fuse, .int .i64 F.fault, .bool F.off].toArray 32)) [.slice none 0 0, .slice none 0 0, .int .i64 0, .int .i64 0, .bool false] 32 (p:=w.heap.size+1) (by simp));have HF:=Hd hF;have HS:=Hd hS;have HR:=Hd hr;have HX:=Hd hx;have HM:=Hd hm;have HAL:=Hd hal;have HXL:=Hd hxl;clear hF hS hr hx hm hal hxl b0;go_enter Tryz.func135,Tryz.ntmps135;go_wp2_with fail;refine(KW F fa la fl fc ll lc _ (HF.o.at_.ext HB0.o) (by have:=HM.o;omega)).mono ?_;rintro e w1 ⟨aa,an,ac,rfl,hA,hb1⟩;have B1:=Hd (HB0.o.trans (hb1.mono HB0.o.size));have U2:=Hd (HQ2.o.ext hb1);have XL:=Hd (HQ4.o.ext hb1);have HA:=Hd hA;have hs1:=hb1.size;simp only[World.size_alloc]at hs1;have HS1:=Hd hs1;have han:an<=524288:=by rw[<- hA.at_.hlen,HAL.o];exact HM.o
 clear hb1 hA HQ2 HQ4 HB0 hs1;go_wp2_with fail;refine(AQ ba bl bc x w1 T (HX.o.ext B1.o) oM).mono ?_;rintro e w2 ⟨v2,rfl,ho2,hb2⟩;obtain⟨oa,oc,rfl,hO⟩:=fM ho2 oM;have B2:=Hd (B1.o.trans (hb2.mono B1.o.size));have U3:=Hd (U2.o.ext hb2);have XM:=Hd (XL.o.ext hb2);have HA2:=Hd (HA.o.ext hb2);have HO:=Hd hO;have HS2:=Hd (Nat.le_trans HS1.o hb2.size);clear hb2 ho2 hO U2 XL HA HS1;go_wp2_with fail;refine(J5 aa oa an ac (6+bl) oc F.all (outOf x) w2 HA2.o.at_ HO.o.at_ oM oM oM).mono ?_;rintro e w3 ⟨v3,rfl,ho3,hb3⟩;have hpl:(jU F.all (outOf x)).length<=20000:=by
  have h1:=rQ F.all.length (eH F.all) (outOf x);have h2:=pF F.all;have h3:=wC x;have h4:=HXL.o;unfold jU;omega
 obtain⟨pa,pc,rfl,hP⟩:=fM ho3 oM;obtain⟨piece,hpc⟩:∃z,jU F.all (outOf x)=z:=⟨_,rfl⟩;obtain⟨place,hpp⟩:∃z,placeOf F.all (outOf x)=z:=⟨_,rfl⟩;have VD:=Hd (show Le F x=(YE F piece,(place:Int)) by unfold Le;rw[hpc,hpp]);rw[hpc]at hP⊢;rw[hpp];have B3:=Hd (B2.o.trans (hb3.mono B2.o.size));have SL:=Hd (U3.o.ext hb3);have XO:=Hd (XM.o.ext hb3);have HP:=Hd hP;have HS3:=Hd (Nat.le_trans HS2.o hb3.size);clear hb3 ho3 hP U3 XM HA2 HO HS2 hpl hpc hpp;have q3:=SL.o.cells;have l3:=SL.o.lt;go_wp2_with fail;refine(Cj F fa la pa fl fc ll lc _ pc piece w3 S _ (HF.o.ext B3.o) (λb h=>Nat.lt_of_lt_of_le (HS.o b h) B3.o.size) HR.o HP.o).mono ?_;rintro e w4 ⟨ga,gl,gc,ma,ml,mc,rfl,hG,hb4⟩;obtain⟨G,hGe⟩:∃G,YE F piece=G:=⟨_,rfl⟩;have hG':fB w4 (Or S w3) ga gl gc ma ml mc G:=by rw[<- hGe];exact hG
 rw[show((F.op piece.length λG=> { G with loose:=G.loose++[piece]}).1)=G from hGe];have YF:=Hd (show Le F x=(G,(place:Int)) by rw[VD.o,hGe]);have B4:=Hd (B3.o.trans (hb4.mono B3.o.size));have hq2:=SL.o.ext hb4;have hq4:=XO.o.ext hb4;have HGG:=Hd hG';have Ug:=Hd hq2;have YG:=Hd hq4;clear hG hG' hb4 hGe q3 l3 SL XO VD;have z2:=hq2.cells;have z2m:=hq2.marks;have z2l:=hq2.lt;have z4:=hq4.cells;have z4m:=hq4.marks;have z4l:=hq4.lt;clear hq2 hq4;go_wp2;have n21:¬w.heap.size+1=w.heap.size:=oM;have ho1:=(((((aA.refl (· =w.heap.size) w4).set w.heap.size 0 (.slice ga gl gc) rfl).set w.heap.size 1 (.slice ma ml mc) rfl).set w.heap.size 2 (.int .i64 G.fuse) rfl).set w.heap.size 3 (.int .i64 G.fault) rfl).set w.heap.size 4 (.bool G.off) rfl;obtain⟨W5,hW5⟩:∃W5,(((((w4.setCell ⟨w.heap.size,0,none⟩ (.slice ga gl gc)).setCell ⟨w.heap.size,1,none⟩ (.slice ma ml mc)).setCell ⟨w.heap.size,2,none⟩ (.int .i64 G.fuse)).setCell ⟨w.heap.size,3,none⟩ (.int .i64 G.fault)).setCell ⟨w.heap.size,4,none⟩ (.bool G.off))=W5:=⟨_,rfl⟩;rw[hW5]at ho1⊢;have h5:=YG.o.aQ ho1 n21;have c4:=((((((h5).set 0 (.slice ga gl gc)).set 1 (.slice ma ml mc)).set 2 (.int .i64 G.fuse)).set 3 (.int .i64 G.fault)).set 4 (.bool G.off)).cells;have ho2:=(((((aA.refl (· =w.heap.size+1) W5).set (w.heap.size+1) 0 (.slice ga gl gc) rfl).set (w.heap.size+1) 1 (.slice ma ml mc) rfl).set (w.heap.size+1) 2 (.int .i64 G.fuse) rfl).set (w.heap.size+1) 3 (.int .i64 G.fault) rfl).set (w.heap.size+1) 4 (.bool G.off) rfl;refine bodyPost_ret (v:= .tuple #[.agg #[.slice ga gl gc, .slice ma ml mc, .int .i64 G.fuse, .int .i64 G.fault, .bool G.off], .int .i64 (place:Int)]) (by simp[results,Tryz.results135,go_sem,c4]) rfl ?_;rw[YF.o];have hst:∀b,Or S w3 b->b≠w.heap.size/\b≠w.heap.size+1:=λb h=>by
  rcases h with h|h
  .have:=HS.o b h;omega
  .have:=HS3.o;omega
 refine⟨ga,gl,gc,ma,ml,mc,rfl,((HGG.o.same ho1.size λb h hl=>ho1.block b hl (hst b h).1).same ho2.size λb h hl=>ho2.block b hl (hst b h).2).mono λb h=>?_,?_⟩
 .rcases h with h|h
  .exact .inl h
  .exact .inr (Nat.le_trans B3.o.size h)
 .exact(B4.o.trans (ho1.below B4.o.size (λc e=>oM))).trans (ho2.below (Nat.le_trans B4.o.size ho1.size) (λc e=>oM))
end Go.Proofs.YtenmnhnlcnmloaaGreat
