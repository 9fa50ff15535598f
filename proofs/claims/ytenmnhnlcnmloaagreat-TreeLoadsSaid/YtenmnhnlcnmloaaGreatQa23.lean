/- Part of a proof of a law of the layer of trees. -/
import Derived.Test.YtenmnhnlcnmloaaGreatQa16
import Derived.Test.YtenmnhnlcnmloaaGreatQa22
import Derived.Test.YtenmnhnlcnmloaaGreatQa14
import Derived.Lib.SlBytesConst
import Derived.Test.YtenmnhnlcnmloaaGreatQa10
import Derived.MapKept
import Derived.Test.YtenmnhnlcnmloaaGreatQa03
import Derived.Test.YtenmnhnlcnmloaaGreatQa13
import Derived.Test.YtenmnhnlcnmloaaGreatQa11
import Derived.Test.YtenmnhnlcnmloaaGreatQa04
import Derived.Lib.AppendZerosOnto
import Derived.Test.YtenmnhnlcnmloaaGreatQa09
import Derived.Deep.OwnRows
import Derived.Test.YtenmnhnlcnmloaaGreatQa12
import Derived.Test.YtenmnhnlcnmloaaGreatQa07
import Derived.Test.YtenmnhnlcnmloaaGreatQa05
import Derived.Test.YtenmnhnlcnmloaaGreatQa01
set_option linter.unusedVariables false
set_option linter.unusedSimpArgs false
set_option maxHeartbeats 8000000
set_option maxRecDepth 8000
namespace Go.Dav
open Go Go.RowKit
def P8(W:World)(p:Nat)(cs:List Value)(t:TypeId)(z:Nat×Nat):Prop:=W.heap[p]? =some (.cells cs.toArray t z)
theorem P8.lt{W:World}{p:Nat}{cs:List Value}{t:TypeId}{z:Nat×Nat}(h:P8 W p cs t z):p<W.heap.size:=(Array.getElem?_eq_some_iff.1 h).1
theorem P8.cell{W:World}{p:Nat}{cs:List Value}{t:TypeId}{z:Nat×Nat}(h:P8 W p cs t z)(i:Nat){v:Value}(hi:cs[i]? =some v):W.cell? ⟨p,i,none⟩=some v:=by
 unfold P8 at h;rw[World.cell?];simp only[h];simpa using hi
theorem P8.new'(W:World)(cs:List Value)(t:TypeId)(z:Nat×Nat){p:Nat}(h:W.heap.size=p):P8 (W.alloc (.cells cs.toArray t z)) p cs t z:=by
 subst h;unfold P8;show(W.heap.push _)[W.heap.size]? =_;simp
theorem P8.alloc{W:World}{p:Nat}{cs:List Value}{t:TypeId}{z:Nat×Nat}(h:P8 W p cs t z)(o:Obj):P8 (W.alloc o) p cs t z:=(Below.heap_alloc W o p h.lt).trans h
theorem au.takeC{W:World}{S:Nat->Prop}{a:Option Addr}{n c k:Nat}{l:List UInt8}(h:au W S a n c l)(hk:k<=n):au W S a k c (l.take k):=by
 have h1:=h.at_.hcap;refine⟨⟨by rw[List.length_take,h.at_.hlen];omega,oM,h.at_.hmax,by have:=h.at_.hfew;omega,λj x hx=>?_,h.at_.hnil⟩,λj x hx=>?_⟩
 .rw[List.getElem?_take]at hx;split at hx
  .exact h.at_.hat j x hx
  .cases hx
 .rw[List.getElem?_take]at hx;split at hx
  .exact h.in_ j x hx
  .cases hx
theorem vC{W:World}{S:Nat->Prop}{a:Option Addr}{n c:Nat}{l:List aP}(h:aY W S a n c l):∃cs,aS W S cs l/\(∀u∈cs,u.oneCell'=true)/\∀j u,cs[j]? =some u->∃b o,a=some ⟨b,o,none⟩/\W.cell? ⟨b,o+j,none⟩=some u:=by
 have key:∀m,m<=l.length->∃cs,aS W S cs (l.take m)/\(∀u∈cs,u.oneCell'=true)/\∀j u,cs[j]? =some u->∃b o,a=some ⟨b,o,none⟩/\W.cell? ⟨b,o+j,none⟩=some u:=by
  intro m;induction m with
  |zero=>intro _;exact⟨[],by simpa using aS.nil,λu hu=>by simp at hu,λj u hu=>by simp at hu⟩
  |succ m ih=>
   intro hm;obtain⟨cs,h1,h2,h3⟩:=ih oM;obtain⟨b,o,ka,kl,kc,va,vl,vc,e,hb,hs,c0,c1,c2,c3,g1,g2,g3⟩:=h.hat m l[m] (List.getElem?_eq_getElem hm);have hlen:cs.length=m*4:=by have:=h1.1;rw[List.length_take]at this;omega
   refine⟨cs++[.slice ka kl kc, .slice va vl vc, .bool l[m].int, .int .i64 l[m].n],?_,?_,?_⟩
   .rw[List.take_add_one,List.getElem?_eq_getElem hm];exact h1.snoc g1 g2 g3
   .intro u hu;rcases List.mem_append.1 hu with hu|hu
    .exact h2 u hu
    .simp at hu;rcases hu with rfl|rfl|rfl|rfl<;>rfl
   .intro j u hu;by_cases hj:j<cs.length
    .rw[List.getElem?_append_left hj]at hu;exact h3 j u hu
    .rw[List.getElem?_append_right oM]at hu;refine⟨b,o,e,?_⟩;obtain⟨d,hd⟩:∃d,j=m*4+d:=⟨j-m*4,oM⟩;subst hd;rw[show m*4+d-cs.length=d by omega]at hu;rw[<- Nat.add_assoc];match d,hu with
     |0,hu=>cases hu;exact c0
     |1,hu=>cases hu;exact c1
     |2,hu=>cases hu;exact c2
     |3,hu=>cases hu;exact c3
     |d+4,hu=>simp at hu
 obtain⟨cs,h1,h2,h3⟩:=key l.length (Nat.le_refl _);exact⟨cs,by simpa using h1,h2,h3⟩
theorem Nr{W:World}{S:Nat->Prop}{a:Option Addr}{n c:Nat}{l:List dS}(h:dZ W S a n c l):∃cs,bF W S cs l/\(∀u∈cs,u.oneCell'=true)/\∀j u,cs[j]? =some u->∃b o,a=some ⟨b,o,none⟩/\W.cell? ⟨b,o+j,none⟩=some u:=by
 have key:∀m,m<=l.length->∃cs,bF W S cs (l.take m)/\(∀u∈cs,u.oneCell'=true)/\∀j u,cs[j]? =some u->∃b o,a=some ⟨b,o,none⟩/\W.cell? ⟨b,o+j,none⟩=some u:=by
  intro m;induction m with
  |zero=>intro _;exact⟨[],by simpa using bF.nil,λu hu=>by simp at hu,λj u hu=>by simp at hu⟩
  |succ m ih=>
   intro hm;obtain⟨cs,h1,h2,h3⟩:=ih oM;obtain⟨b,o,ka,kl,kc,e,hb,hs,c0,c1,c2,c3,c4,c5,c6,c7,g1,g2,g3⟩:=h.hat m l[m] (List.getElem?_eq_getElem hm);have hlen:cs.length=m*8:=by have:=h1.1;rw[List.length_take]at this;omega
   refine⟨cs++(Value.slice ka kl kc::fO l[m]),?_,?_,?_⟩
   .rw[List.take_add_one,List.getElem?_eq_getElem hm];exact h1.snoc g1 g2 g3
   .intro u hu;rcases List.mem_append.1 hu with hu|hu
    .exact h2 u hu
    .simp[fO]at hu;rcases hu with rfl|rfl|rfl|rfl|rfl|rfl|rfl|rfl<;>rfl
   .intro j u hu;by_cases hj:j<cs.length
    .rw[List.getElem?_append_left hj]at hu;exact h3 j u hu
    .rw[List.getElem?_append_right oM]at hu;refine⟨b,o,e,?_⟩;obtain⟨d,hd⟩:∃d,j=m*8+d:=⟨j-m*8,oM⟩;subst hd;rw[show m*8+d-cs.length=d by omega]at hu;rw[<- Nat.add_assoc];match d,hu with
     |0,hu=>cases hu;exact c0
     |1,hu=>cases hu;exact c1
     |2,hu=>cases hu;exact c2
     |3,hu=>cases hu;exact c3
     |4,hu=>cases hu;exact c4
     |5,hu=>cases hu;exact c5
     |6,hu=>cases hu;exact c6
     |7,hu=>cases hu;exact c7
     |d+8,hu=>simp[fO]at hu
 obtain⟨cs,h1,h2,h3⟩:=key l.length (Nat.le_refl _);exact⟨cs,by simpa using h1,h2,h3⟩
section
variable{P:Program}{ops:Array Oper}{w:World}{Q:Exit->Act->World->Prop}{o:Oper}{os:List Oper}{ps:List Piece}{G:List (Tmp×(World->Prop))}{a:Act}{K0:World->World->Prop}{p0 k:Nat}
end
theorem dn(p:Nat->Prop):Goes (aA p):=⟨λ_ _ h=>aA.of_below h,λ_ _ _ h k=>h.trans k⟩
theorem sS.aQ{B g:Nat}{x:List UInt8}(hg:g<B):∀v W W',sS B x v W->aA (λb=>b=g) W W'->sS B x v W':=
 λ_ _ _ ⟨a,n,c,h1,h2⟩ hb=>⟨a,n,c,h1,h2.aQ hb (λb h e=>oM)⟩
def JV(t:TypeId)(B:Nat)(S:Nat->Prop)(l:List aP)(v:Value)(W:World):Prop:=∃cs,W.ownsRow B t 4 v l.length cs/\aS W S cs l
def P9(t:TypeId)(B:Nat)(S:Nat->Prop)(l:List dS)(v:Value)(W:World):Prop:=∃cs,W.ownsRow B t 8 v l.length cs/\bF W S cs l
theorem JV.later{t:TypeId}{B:Nat}{S:Nat->Prop}{l:List aP}:∀v W W',JV t B S l v W->Below W.heap.size W W'->JV t B S l v W':=
 λ_ _ _ ⟨cs,h1,h2⟩ hb=>⟨cs,aK h1 hb,h2.same hb.size λb _ h=>hb.block b h⟩
theorem P9.later{t:TypeId}{B:Nat}{S:Nat->Prop}{l:List dS}:∀v W W',P9 t B S l v W->Below W.heap.size W W'->P9 t B S l v W':=
 λ_ _ _ ⟨cs,h1,h2⟩ hb=>⟨cs,aK h1 hb,h2.same hb.size λb _ h=>hb.block b h⟩
theorem dG.mono{P:Program}{K:World->World->Prop}{o:Oper}{a:Act}{W:World}{R R':Value->World->Prop}(h:dG P K o a W R)(hr:∀v W',R v W'->R' v W'):dG P K o a W R':=by
 unfold dG at*;generalize(execOp a.eval o).run P W=r at*;cases r with
 |ok n w'=>
  cases n
  case value u=>exact⟨h.1,hr _ _ h.2⟩
  case skip=>exact⟨h.1,hr _ _ h.2⟩
  case enter f args=>exact⟨h.1,h.2.mono λe w'' ⟨v,he,hb,hv⟩=>⟨v,he,hb,hr _ _ hv⟩⟩
  all_goals exact h
 |halt x w'=>exact h
theorem Gives.mono{P:Program}{o:Oper}{a:Act}{W:World}{R R':Value->World->Prop}(h:Gives P o a W R)(hr:∀v W',R v W'->R' v W'):Gives P o a W R':=by
 unfold Gives at*;generalize(execOp a.eval o).run P W=r at*;cases r with
 |ok n w'=>
  cases n
  case value u=>exact⟨h.1,hr _ _ h.2⟩
  case skip=>exact⟨h.1,hr _ _ h.2⟩
  case enter f args=>exact⟨h.1,h.2.mono λe w'' ⟨v,he,hb,hv⟩=>⟨v,he,hb,hr _ _ hv⟩⟩
  all_goals exact h
 |halt x w'=>exact h
def Qa(o:Oper):Bool:=match o.op,o.guard with
 | .alloc _,none=>true
 |_,_=>false
theorem JW{P:Program}{o:Oper}{ρ:Operand->Value}{W W':World}{n:Next}(ha:Qa o=true)(h:(execOp ρ o).run P W= .ok n W'):n= .value (.pointer (some ⟨W.heap.size,0,none⟩))/\W'.heap.size=W.heap.size+1:=by
 obtain⟨d,op,ty,pos,aft,g⟩:=o;unfold Qa at ha;split at ha
 .rename_i _ _ t e _;dsimp only at e;subst e;simp only[execOp,Sem.run_bind,Instr.alloc]at h;cases hz:(zeroValue t).run P W with
  |halt x w'=>rw[hz]at h;simp[Result.andThen]at h
  |ok z w'=>
   have:=MapKept.run_zeroValue_world hz;subst this;rw[hz]at h;simp only[Result.andThen]at h;simp[newVar,newRow,Result.andThen]at h;exact⟨h.1.symm,by rw[<- h.2];simp⟩
 .cases ha
theorem dG.alloc{P:Program}{K:World->World->Prop}{o:Oper}{a:Act}{W:World}{R:Value->World->Prop}(h:dG P K o a W R)(ha:Qa o=true):dG P K o a W (λv W'=>R v W'/\v= .pointer (some ⟨W.heap.size,0,none⟩)/\W'.heap.size=W.heap.size+1):=by
 unfold dG at*;cases hr:(execOp a.eval o).run P W with
 |ok n w'=>
  obtain⟨h1,h2⟩:=JW ha hr;subst h1;rw[hr]at h;exact⟨h.1,h.2,rfl,h2⟩
 |halt x w'=>rw[hr]at h;exact h
section
variable{P:Program}{ops:Array Oper}{K0:World->World->Prop}{p0:Nat}{E:Act->World->Prop}
end
section
variable{P:Program}{K0:World->World->Prop}{p0:Nat}{E:Act->World->Prop}
end
section
variable{P:Program}{ops:Array Oper}{K0:World->World->Prop}{p0:Nat}{E:Act->World->Prop}
end
section
variable{P:Program}{ops:Array Oper}{w:World}{Q:Exit->Act->World->Prop}{o:Oper}{os:List Oper}{ps:List Piece}{G:List (Tmp×(World->Prop))}{a:Act}{K0:World->World->Prop}{E:Act->World->Prop}{X:World->Prop}{A:List Value}{p0 k:Nat}
end
structure Ih(B:Nat)(Z:List Value->Prop)(t:TypeId)(w w':World):Prop where
 os:w'.os=w.os
 tape:w'.tape=w.tape
 output:w'.output=w.output
 size:w.heap.size<=w'.heap.size
 block:∀k,k<w.heap.size->w'.heap[k]? =w.heap[k]?\/(B<=k/\∃cs cs',Z cs/\Z cs'/\Blk w k cs t/\Blk w' k cs' t)
theorem Ih.of_below{B:Nat}{Z:List Value->Prop}{t:TypeId}{w w':World}(h:Below w.heap.size w w'):Ih B Z t w w':=⟨h.os,h.tape,h.output,h.size,λk hk=> .inl (h.block k hk)⟩
theorem Ih.below{B:Nat}{Z:List Value->Prop}{t:TypeId}{w w':World}(h:Ih B Z t w w')(hB:B<=w.heap.size):Below B w w':=
 ⟨h.os,h.tape,h.output,h.size,λk hk=>by
  rcases h.block k oM with h1|⟨h0,_⟩
  .exact h1
  .omega⟩
theorem Ih.Qb{B p:Nat}{Z:List Value->Prop}{t:TypeId}{w w':World}{cs cs':List Value}(h:Only p w w')(hp:B<=p)(z1:Z cs)(z2:Z cs')(b1:Blk w p cs t)(b2:Blk w' p cs' t):Ih B Z t w w':=
 ⟨h.os,h.tape,h.output,h.size,λk hk=>by
  by_cases e:k=p
  .subst e;exact .inr ⟨hp,cs,cs',z1,z2,b1,b2⟩
  .exact .inl (h.block k hk e)⟩
theorem Ih.cell{B:Nat}{Z:List Value->Prop}{t:TypeId}{w w':World}(h:Ih B Z t w w'){b o:Nat}{v:Value}(hc:w.cell? ⟨b,o,none⟩=some v)(hz:∀cs,Z cs->cs[o]?≠some v):w'.heap[b]? =w.heap[b]?:=by
 rcases h.block b (World.block_lt_of_cell? _ _ hc)with h1|⟨_,cs,_,z1,_,b1,_⟩
 .exact h1
 .rw[b1.cells]at hc;exact absurd hc (hz cs z1)
def VB(Z:List Value->Prop):Prop:=∀cs,Z cs->∀v∈cs,∀x,v≠ .int .u8 x
theorem au.adn{B:Nat}{Z:List Value->Prop}{t:TypeId}{W W':World}{S:Nat->Prop}{a:Option Addr}{n c:Nat}{l:List UInt8}(h:au W S a n c l)(k:Ih B Z t W W')(hZ:VB Z):au W' S a n c l:=
 ⟨⟨h.at_.hlen,h.at_.hcap,h.at_.hmax,h.at_.hfew,λj x hj=>by
  obtain⟨b,o,h1,h2,h3⟩:=h.at_.hat j x hj;have e:=k.cell h3 (λcs hz hc=>hZ cs hz _ (List.mem_of_getElem? hc) _ rfl);exact⟨b,o,h1,Nat.lt_of_lt_of_le h2 k.size,(World.cell?_of_block (a:=⟨b,o+j,none⟩) e).trans h3⟩,h.at_.hnil⟩,h.in_⟩
theorem au.JX{W:World}{S:Nat->Prop}{a:Option Addr}{n c p t:Nat}{l:List UInt8}{Z:List Value->Prop}{cs:List Value}(h:au W S a n c l)(hp:Blk W p cs t)(hz:Z cs)(hZ:VB Z):au W (λb=>S b/\b≠p) a n c l:=
 ⟨h.at_,λk x hk=>by
  obtain⟨b,o,h1,h2⟩:=h.in_ k x hk;obtain⟨b',o',h1',_,h3⟩:=h.at_.hat k x hk;rw[h1]at h1';cases h1';refine⟨b,o,h1,h2,λe=>?_⟩;subst e;rw[hp.cells]at h3;exact hZ cs hz _ (List.mem_of_getElem? h3) _ rfl⟩
def Yz(B:Nat)(Z:List Value->Prop)(t:TypeId)(v:Value)(W:World):Prop:=∃p,v= .pointer (some ⟨p,0,none⟩)/\B<=p/\∃cs,Z cs/\Blk W p cs t
theorem Yz.later{B:Nat}{Z:List Value->Prop}{t:TypeId}:∀v W W',Yz B Z t v W->Below W.heap.size W W'->Yz B Z t v W':=λ_ _ _ ⟨p,h1,h2,cs,h3,h4⟩ hb=>⟨p,h1,h2,cs,h3,h4.ext hb⟩
theorem Yz.adn{B:Nat}{Z:List Value->Prop}{t:TypeId}:∀v W W',Yz B Z t v W->Ih B Z t W W'->Yz B Z t v W':=λ_ W W' ⟨p,h1,h2,cs,h3,h4⟩ hk=>by
 rcases hk.block p h4.lt with e|⟨_,cs1,cs2,z1,z2,_,b2⟩
 .exact⟨p,h1,h2,cs,h3,by unfold Blk at*;rw[e];exact h4⟩
 .exact⟨p,h1,h2,cs2,z2,b2⟩
def ou(B:Nat)(x:List UInt8)(v:Value)(W:World):Prop:=∃a n c,v= .slice a n c/\au W (λb=>B<=b) a n c x
theorem ou.later{B:Nat}{x:List UInt8}:∀v W W',ou B x v W->Below W.heap.size W W'->ou B x v W':=λ_ _ _ ⟨a,n,c,h1,h2⟩ hb=>⟨a,n,c,h1,h2.ext hb⟩
theorem ou.adn{B B':Nat}{x:List UInt8}{Z:List Value->Prop}{t:TypeId}(hZ:VB Z):∀v W W',ou B x v W->Ih B' Z t W W'->ou B x v W':=λ_ _ _ ⟨a,n,c,h1,h2⟩ hk=>⟨a,n,c,h1,h2.adn hk hZ⟩
def OwnB(v:Value)(b:Nat):Prop:=v.ownBlock=some b
theorem OwnB.Sl{W W':World}{v:Value}(h:W.grownBy W' v.ownBlock):aA (OwnB v) W W':=⟨h.os,h.tape,h.output,h.size,λk hk hn=>h.block k hk λe=>hn e.symm⟩
theorem dW.lt{base:Nat}{e:TypeId}{l:List UInt8}{v:Value}{W:World}(h:dW base e l v W){b:Nat}(hb:OwnB v b):base<=b/\b<W.heap.size:=World.ownsRow.lt h b hb
theorem dW.apart{base q:Nat}{e t:TypeId}{l:List UInt8}{v:Value}{W:World}{cs:List Value}(h:dW base e l v W)(hq:Blk W q cs t)(ht:t≠e):¬OwnB v q:=by
 rcases h.2 with⟨rfl,_⟩|⟨g,cap,cur,rfl,_,hg,_⟩
 .intro hb;cases hb
 .intro hb;obtain rfl:g=q:=by simpa[OwnB,Value.ownBlock]using hb
  unfold Blk at hq;rw[hg]at hq;cases hq;exact ht rfl
theorem dW.later'{base:Nat}{e:TypeId}{l:List UInt8}:∀v W W',dW base e l v W->Below W.heap.size W W'->dW base e l v W':=λ_ _ _ h hb=>aK h hb
theorem jV{P:Program}{o:Oper}{a:Act}{W:World}{s x:Operand}{t e:TypeId}{base m c:Nat}{v:Value}{l y:List UInt8}{T:Nat->Prop}{ax:Option Addr}(ho:o.op= .call { callee:= .builtin .append,args:= #[s,x],argTypes:= #[t,t]})(E:BQ P t e 1)
  (hs:a.eval s=v) (hx:a.eval x= .slice ax m c) (hown:dW base e l v W) (hy:au W T ax m c y) (hlen:l.length+m<=140737488355328) (hbase:base<=W.heap.size):dG P (aA (OwnB v)) o a W (dW base e (l++y)):=by
 obtain⟨v',w',hr,h2,h3⟩:=rC (P:=P) E o.type base v l.length (u8s l) hown T ax m c (u8s y) hy.cells (iy y) hy.at_.hnil (by unfold maxLen;omega) oM hbase;unfold dG;rw[Ey ho hs hx hr];refine⟨OwnB.Sl h3,?_⟩;unfold dW;rw[aW,List.length_append,hy.at_.hlen];exact h2
theorem aX{P:Program}{ops:Array Oper}{Q:Exit->Act->World->Prop}{rest:List Oper}{o:Oper}{a:Act}{W:World}(hgd:o.guard=none){s x:Operand}{t e:TypeId}{base m c:Nat}{v:Value}{l y:List UInt8}{T:Nat->Prop}{ax:Option Addr}(ho:o.op= .call { callee:= .builtin .append,args:= #[s,x],argTypes:= #[t,t]})(E:BQ P t e 1)
  (hs:a.eval s=v) (hx:a.eval x= .slice ax m c) (hown:dW base e l v W) (hy:au W T ax m c y) (hlen:l.length+m<=140737488355328) (hbase:base<=W.heap.size)
  (h:∀v' w',dW base e (l++y) v' w'->Grew base e W w'->wpList P ops Q rest (a.put o.dst v') w'):wpList P ops Q (o::rest) a W:=by
 refine ak hgd s x t ho E base v l.length (u8s l) hs hown T ax m c (u8s y) hx hy.cells (iy y) hy.at_.hnil (by unfold maxLen;omega) oM hbase λv' w' h1 h2=>h v' w' ?_ (Grew.Gn hown h2);unfold dW;rw[aW,List.length_append,hy.at_.hlen];exact h1
theorem row_one{B:Nat}{W:World}{t:TypeId}(b:UInt8)(hB:B<=W.heap.size):Below W.heap.size W (W.alloc (.cells #[.int .u8 (b.toNat:Int)] t))/\ou B [b] (.slice (some ⟨W.heap.size,0,none⟩) 1 1) (W.alloc (.cells #[.int .u8 (b.toNat:Int)] t)):=by
 refine⟨(Below.refl _ _).alloc (Nat.le_refl _) _,_,_,_,rfl,au.of_cells ?_ (Nat.le_refl _) (by unfold maxLen;omega) oM (λh=>by cases h)⟩;exact cells_one (g:=W.heap.size) hB (by simp) ((Blk.new W [.int .u8 (b.toNat:Int)] t).cell 0 rfl)
theorem ou.JY{B:Nat}{x:List UInt8}{v0:Value}(hv:∀b,OwnB v0 b->b<B):∀v W W',ou B x v W->aA (OwnB v0) W W'->ou B x v W':=λ_ _ _ ⟨a,n,c,h1,h2⟩ hk=>⟨a,n,c,h1,h2.aQ hk λb hb e=>by have:=hv b e;omega⟩
theorem jf{W:World}{p n:Nat}{l:List UInt8}{t:TypeId}(h:Blk W p (u8s l) t)(hn:l.length=n)(hn2:n<=1000000):au W (λb=>b=p) (some ⟨p,0,none⟩) n n l:=
 ⟨⟨hn,Nat.le_refl _,by unfold maxLen;omega,oM,λk x hx=>⟨p,0,rfl,h.lt,by rw[Nat.zero_add,h.cells];exact oG hx⟩,λe=>by cases e⟩,λk x hx=>⟨p,0,rfl,rfl⟩⟩
theorem Sm(l:List UInt8)(i:Nat)(x:UInt8):(u8s l).set i (.int .u8 (x.toNat:Int))=u8s (l.set i x):=by simp[u8s,List.map_set]
theorem Qc{x n j m:Nat}(h:n=j+1+m):(List.replicate (n-j) (0:UInt8)++(bQ x n).drop (n-j)).set m (UInt8.ofNat (x/256^j))=List.replicate (n-(j+1)) 0++(bQ x n).drop (n-(j+1)):=by
 have e1:n-j=m+1:=oM;have e2:n-(j+1)=m:=oM;rw[e1,e2];have e3:(bQ x n).drop m=UInt8.ofNat (x/256^j)::(bQ x n).drop (m+1):=by
  rw[List.drop_eq_getElem_cons (by rw[bG];omega)];congr 1
  have h1:=Di (x:=x) (show m<n by omega);rw[List.getElem?_eq_getElem (by rw[bG];omega)]at h1;have h2:=Option.some.inj h1;rw[h2,show n-1-m=j by omega,Nat.pow_mul]
 rw[e3,List.replicate_succ',List.append_assoc,List.set_append_right _ _ (by simp)];simp
theorem wrap64_in(x:Int):eY (wrap64 x):=by unfold eY;rw[dQ];omega
theorem JZ{α:Type}{f:α->List UInt8}{m:Nat}:∀ {l:List α},(∀x∈l,(f x).length<=m)->(l.flatMap f).length<=l.length*m
 |[],_=>by simp
 |x::l,h=>by
  have ih:=JZ (l:=l) λy hy=>h y (by simp[hy]);have h0:=h x (by simp);simp only[List.flatMap_cons,List.length_append,List.length_cons,Nat.add_mul,Nat.one_mul];omega
theorem Ii{x:aP}(h:fD x=true):(iZ x).length<=400:=by
 unfold fD at h;simp only[Bool.and_eq_true,decide_eq_true_eq]at h;unfold iZ;have h1:=bG (x.n%18446744073709551616).toNat 8;simp only[List.length_append,List.length_cons,h1,List.length_nil];omega
def tY(n:Nat)(l:List aP)(k:Nat):List UInt8:=[1,UInt8.ofNat n]++(l.take k).flatMap iZ
def tZ(n:Nat)(l:List dS)(k:Nat):List UInt8:=[2,UInt8.ofNat n]++(l.take k).flatMap jS
theorem Ns{n:Nat}{l:List aP}{k:Nat}{x:aP}(h:l[k]? =some x):tY n l (k+1)=tY n l k++[UInt8.ofNat x.key.length]++x.key++[UInt8.ofNat x.value.length]++x.value++[if x.int then 1 else 0]++bQ (x.n%18446744073709551616).toNat 8:=by
 unfold tY;rw[List.take_add_one,h];simp[iZ,List.append_assoc]
theorem Nu{n:Nat}{l:List dS}{k:Nat}{x:dS}(h:l[k]? =some x):tZ n l (k+1)=tZ n l k++[UInt8.ofNat x.key.length]++x.key++bQ (x.at_%18446744073709551616).toNat 4++bQ (x.red.c%18446744073709551616).toNat 4++bQ (x.red.n%18446744073709551616).toNat 4++bQ (hi x.red.s%18446744073709551616).toNat 8++bQ (lo x.red.s).toNat 8++bQ (x.red.l%18446744073709551616).toNat 8++bQ (x.red.m%18446744073709551616).toNat 8:=by
 unfold tZ;rw[List.take_add_one,h];simp[jS,List.append_assoc]
theorem AB{n:Nat}{l:List aP}(h:l.all fD=true)(h6:l.length<=6)(k:Nat):(tY n l k).length<=2402:=by
 unfold tY;have:=JZ (f:=iZ) (m:=400) (l:=l.take k) λx hx=>Ii (List.all_eq_true.1 h x (List.mem_of_mem_take hx));have h2:(l.take k).length*400<=6*400:=Nat.mul_le_mul_right _ (by rw[List.length_take];omega);simp only[List.length_append,List.length_cons,List.length_nil];omega
theorem aA.grew{base:Nat}{e:TypeId}{l:List UInt8}{v:Value}{W W':World}(h:aA (OwnB v) W W')(ho:dW base e l v W):Grew base e W W':=Grew.Gn ho ⟨h.os,h.tape,h.output,h.size,λk hk hn=>h.block k hk λe=>hn e.symm⟩
theorem au.YA{W W':World}{S:Nat->Prop}{a:Option Addr}{n c base:Nat}{e:TypeId}{l:List UInt8}(h:au W S a n c l)(hS:∀b,S b->b<base)(hg:Grew base e W W'):au W' S a n c l:=h.same hg.size λb h1 h2=>hg.block b h2 (.inl (hS b h1))
theorem J3(n:Nat):IntKind.u8.wrap (n:Int)=((UInt8.ofNat n).toNat:Int):=by
 rw[show IntKind.u8.wrap (n:Int)=(n:Int)%256 from rfl];simp
def AL(l:List aP):List Red:=l.map λx=>ig x.int x.n
theorem DT{l:List aP}(h:∀x∈l,eY x.n):∀r∈AL l,r.good:=λr hr=>by
 obtain⟨x,hx,rfl⟩:=List.mem_map.1 hr;exact uH _ _ (h x hx)
theorem Qd(l:List aP):((AL l).map Red.c).sum=(l.length:Int):=by
 induction l with
 |nil=>rfl
 |cons x l ih=>simp only[AL,List.map_cons,List.sum_cons,List.length_cons]at ih⊢;rw[ih];rw[show(ig x.int x.n).c=1 by unfold ig;split<;>rfl];omega
theorem YB{l:List aP}:(xX (AL l)).c=(l.length:Int):=by
 unfold xX;rw[OM,Qd];simp[Red.zero]
end Go.Dav
namespace Go.Proofs.YtenmnhnlcnmloaaGreat
open Go.RowKit Go.Dav
attribute [local go_sem] Gives ite_val ay
theorem Ij(n:Nat)(hn:n<=1048576)(W:World):(Instr.makeSlice 22 (.int .i64 (n:Int)) (.int .i64 (n:Int))).run Tryz.prog W= .ok (.slice (some ⟨W.heap.size,0,none⟩) n n) (W.alloc (.cells (u8s (List.replicate n 0)).toArray 5)):=by
 have hinfo:(Tryz.prog.info? 5).map (λi=>(i.zero,i.size,i.bytes))=some (some (.int .u8 0),1,1):=kR;have h:=run_make_row' (P:=Tryz.prog) 22 5 (.int .u8 0) 1 Tryz.underlying22 hinfo rfl .i64 .i64 n oM oM W;rw[h,Gp,<- toList_madeCells_one]
theorem qG(x n:Nat)(w:World)(hn:n<=8)(hx:x<18446744073709551616):
  Calls Tryz.prog 159 #[.int .u64 (x:Int), .int .i64 (n:Int)] w λe w'=>∃p,e= .returned (.slice (some ⟨p,0,none⟩) n n)/\w.heap.size<=p/\Blk w' p (u8s (bQ x n)) 5/\Below w.heap.size w w':=by
 have hmk:=Ij n oM;have HX:=Hd hx;have HB:=Hd (Blk.new w (u8s (List.replicate n 0)) 5);have hn':(n:Int)<=8:=oM;clear hx;go_enter Tryz.func159,Tryz.ntmps159;go_wp2_with fail;clear hmk;go_loopg [0,6] n (λg sx ix wr=>∃j:Nat,j<=n/\g=n-j/\ix= .int .i64 ((n:Int)-1-(j:Int))/\sx= .int .u64 ((x/256^j:Nat):Int)/\Blk wr w.heap.size (u8s (List.replicate (n-j) 0++(bQ x n).drop (n-j))) 5/\Below w.heap.size w wr)
 case atStart=>exact⟨0,Nat.zero_le _,rfl,by go_num,by simp,by rw[Nat.sub_zero,List.drop_of_length_le (by rw[bG];omega),List.append_nil];exact HB.o,bW⟩
 case round=>
  obtain⟨j,hj,rfl,rfl,rfl,hb,hbl⟩:=hrel;have HBL:=Hd hbl;have HBK:=Hd hb;by_cases hjn:j<n
  .obtain⟨m,hm⟩:∃m,n=j+1+m:=⟨n-1-j,oM⟩;have e1:(n:Int)-1-(j:Int)=(m:Int):=oM;obtain⟨y,hy⟩:∃y,x/256^j=y:=⟨_,rfl⟩;have hyl:y<=x:=by rw[<- hy];exact Nat.div_le_self _ _
   have hyy:y<18446744073709551616:=Nat.lt_of_le_of_lt hyl HX.o;have hc:wr.cell? ⟨w.heap.size,m,none⟩=some (.int .u8 0):=hb.cell m (by
    rw[aW,List.getElem?_append_left (by rw[xg];simp;omega),Gp,List.getElem?_replicate,if_pos oM])
   have hf:wr.frozen? ⟨w.heap.size,m,none⟩=false:=hb.frozen m;have hlt:=hb.lt;have t1:(y:Int).tmod 256=(y:Int)%256:=Int.tmod_eq_emod_of_nonneg oM;have t2:(y:Int)/256%18446744073709551616=((y/256:Nat):Int):=oM;have hmn:(m:Int)<(n:Int):=oM;have HM:=Hd hm;have HY:=Hd hy;rw[e1,hy];clear hb hbl e1 hy hyl hyy hm;go_wp2_with fail;have hb2:=HBK.o.set m (.int .u8 ((y:Int)%256));rw[show(.int .u8 ((y:Int)%256):Value)= .int .u8 ((UInt8.ofNat y).toNat:Int) by simp,Sm,<- HY.o,Qc HM.o]at hb2;go_roundg (n-(j+1))
   case measure=>omega
   case rel=>
    refine⟨j+1,oM,rfl,by rw[show(n:Int)-1-((j+1:Nat):Int)=(m:Int)-1 by have:=HM.o;omega],by rw[Nat.pow_succ,<- Nat.div_div_eq_div_mul,HY.o];first|rfl|(congr 1;omega),?_,HBL.o.setCell (by exact Nat.le_refl _) _⟩
    rw[show(.int .u8 ((y:Int)%256):Value)= .int .u8 ((UInt8.ofNat (x/256^j)).toNat:Int) by rw[HY.o];simp];exact hb2
  .obtain rfl:j=n:=oM;clear hb hbl hjn;go_wp2;go_ret;refine⟨_,rfl,Nat.le_refl _,?_,HBL.o⟩;have h:=HBK.o;rw[Nat.sub_self]at h;exact h
end Go.Proofs.YtenmnhnlcnmloaaGreat
namespace Go.Proofs.YtenmnhnlcnmloaaGreat
open Go.RowKit Go.Dav
attribute [local go_sem] Gives dG ite_val ay
def UR(B p0:Nat)(W0:World)(cs:List Value)(n:Nat)(l:List aP)(ov ix:Value)(wr:World):Prop:=
 ∃k:Nat,k<=n/\ix= .int .i64 k/\dW B 5 (tY n l k) ov wr/\Blk wr p0 cs 67/\Grew B 5 W0 wr
def UU(B p0:Nat)(W0:World)(cs:List Value)(n:Nat)(l:List dS)(ov ix:Value)(wr:World):Prop:=
 ∃k:Nat,k<=n/\ix= .int .i64 k/\dW B 5 (tZ n l k) ov wr/\Blk wr p0 cs 67/\Grew B 5 W0 wr
theorem qH(x:Nat)(w:World)(hx:x<18446744073709551616):Calls Tryz.prog 159 #[.int .u64 (x:Int), .int .i64 4] w λe w'=>∃p,e= .returned (.slice (some ⟨p,0,none⟩) 4 4)/\w.heap.size<=p/\Blk w' p (u8s (bQ x 4)) 5/\Below w.heap.size w w':=qG x 4 w oM hx
theorem mQ(x:Nat)(w:World)(hx:x<18446744073709551616):Calls Tryz.prog 159 #[.int .u64 (x:Int), .int .i64 8] w λe w'=>∃p,e= .returned (.slice (some ⟨p,0,none⟩) 8 8)/\w.heap.size<=p/\Blk w' p (u8s (bQ x 8)) 5/\Below w.heap.size w w':=qG x 8 w oM hx
end Go.Proofs.YtenmnhnlcnmloaaGreat
namespace Go.Proofs.YtenmnhnlcnmloaaGreat
open Go.RowKit Go.Dav
attribute [local go_sem] Gives ite_val ay
theorem Ik(k v:Value)(x:Int)(w:World):
  Calls Tryz.prog 87 #[.agg #[k,v, .bool false, .int .i64 x]] w λe w'=>
   e= .returned (.agg #[.int .i64 1, .int .i64 0, .int .i64 (hi 0), .int .u64 (lo 0), .int .i64 0, .int .i64 0])/\Below w.heap.size w w':=by
 go_enter Tryz.func87,Tryz.ntmps87;go_wp2;refine bodyPost_ret (v:= .agg #[.int .i64 1, .int .i64 0, .int .i64 0, .int .u64 0, .int .i64 0, .int .i64 0]) (by simp[results,Tryz.results87,go_sem]) rfl ⟨by rw[jF,jG],?_⟩;exact bW
theorem EY(k v:Value)(x:Int)(w:World)(hx:I64 x):
  Calls Tryz.prog 87 #[.agg #[k,v, .bool true, .int .i64 x]] w λe w'=>
   e= .returned (.agg #[.int .i64 1, .int .i64 1, .int .i64 (hi x), .int .u64 (lo x), .int .i64 x, .int .i64 x])/\Below w.heap.size w w':=by
 go_enter Tryz.func87,Tryz.ntmps87;go_wp2_with fail;refine(vG _ _ hx).mono ?_;rintro e w1 ⟨rfl,hb1⟩;obtain⟨hc1,hf1,hs1⟩:=after hb1;simp at hs1;have nC:w.heap.size<w1.heap.size:=oM;have nD:w.heap.size<w1.heap.size+1:=oM;have rE:w.heap.size<w1.heap.size+1+1:=oM;have F6:w.heap.size+1<w1.heap.size:=oM;have F7:w.heap.size+1<w1.heap.size+1:=oM;have WI:w.heap.size+1<w1.heap.size+1+1:=oM;have WJ:w.heap.size+1+1<w1.heap.size:=oM;have WL:w.heap.size+1+1<w1.heap.size+1:=oM;have WM:w.heap.size+1+1<w1.heap.size+1+1:=oM;go_wp2_with fail;refine bodyPost_ret (v:= .agg #[.int .i64 1, .int .i64 1, .int .i64 (hi x), .int .u64 (lo x), .int .i64 x, .int .i64 x]) (by simp[results,Tryz.results87,go_sem, *]) rfl ⟨rfl,?_⟩;exact(by have hz:=hb1;exact bV)
theorem Nv(c1 n1 s1 l1 m1 c2 n2 s2 l2 m2:Int)(w:World)(h1:0<=n1)(h2:0<=n2)(hc:IntKind.i64.wrap (c1+c2)=c1+c2)(hn:IntKind.i64.wrap (n1+n2)=n1+n2)
  (hz2:n2=0->s2=0) (hz1:n1=0->l1=0/\m1=0):
  Calls Tryz.prog 86 #[.agg #[.int .i64 c1, .int .i64 n1, .int .i64 (hi s1), .int .u64 (lo s1), .int .i64 l1, .int .i64 m1], .agg #[.int .i64 c2, .int .i64 n2, .int .i64 (hi s2), .int .u64 (lo s2), .int .i64 l2, .int .i64 m2]] w λe w'=>
   e= .returned (.agg #[.int .i64 (c1+c2), .int .i64 (qZ n1 n2), .int .i64 (hi (wW n2 s1 s2)), .int .u64 (lo (wW n2 s1 s2)), .int .i64 (uy n1 n2 l1 l2), .int .i64 (uz n1 n2 m1 m2)])/\Below w.heap.size w w':=by
 have e1:qZ n1 n2=n1+n2:=by unfold qZ;split<;>omega
 have e2:wW n2 s1 s2=s1+s2:=by unfold wW;split<;>omega
 have e3:uy n1 n2 l1 l2=if 0<n1 then(if 0<n2 then min l1 l2 else l1)else(if 0<n2 then l2 else 0):=by
  unfold uy;by_cases a:n2=0
  .subst a;by_cases b:0<n1
   .simp[b]
   .have:=hz1 oM;simp[b,this]
  .have:0<n2:=oM;simp[a,this]
 have e4:uz n1 n2 m1 m2=if 0<n1 then(if 0<n2 then max m1 m2 else m1)else(if 0<n2 then m2 else 0):=by
  unfold uz;by_cases a:n2=0
  .subst a;by_cases b:0<n1
   .simp[b]
   .have:=hz1 oM;simp[b,this]
  .have:0<n2:=oM;simp[a,this]
 rw[e1,e2];generalize uy n1 n2 l1 l2=L at*;generalize uz n1 n2 m1 m2=M at*;have E3:=Hd e3;clear e3;have E4:=Hd e4;clear e4;clear e1 e2 hz1 hz2;go_enter Tryz.func86,Tryz.ntmps86;go_wp2_with fail;refine' ah [.inl _, .inl _, .inl _, .inl _, .inl _, .inr (dA (w.heap.size+1+1+1) [.int .i64 0, .int .u64 0] 168)] kR kR ?dN
 case dN=>
  refine wE ?_;refine wG (λW hE hN=>by go_simp;refine⟨Below.refl _ _,?_⟩;refine(kL _ _ _ _ _ _).mono ?_;rintro e w' ⟨rfl,hb⟩;refine⟨?_,hb⟩;rfl) ?_;refine wE ?_;refine wG (λW hE hN=>by go_simp;refine⟨Below.refl _ _,?_⟩;refine(kL _ _ _ _ _ _).mono ?_;rintro e w' ⟨rfl,hb⟩;refine⟨?_,hb⟩;rfl) ?_;refine wG (λW hE hN=>by go_simp;refine⟨Below.refl _ _,?_⟩;refine(nG _ _ _).mono ?_;rintro e w' ⟨rfl,hb⟩;refine⟨?_,hb⟩;rfl) ?_;refine aG rfl (dA.later) (by rfl) (λW hE hN=>?_) (λu5=>?_)
  .go_simp;exact dB (cs:=[.int .i64 0, .int .u64 0]) (by have:=hE.size;simp at this;omega)
  simp only[Act.put,pB,pC,pD];refine aj λW1 hE1 hG1=>?_;have jC:=hE1.cF;have kK:=hE1.fF;obtain⟨p,rfl,hp,hblk⟩:=hG1.1;have s1':=hE1.size;simp at s1';have c0:=hblk.cell 0 rfl;have c1':=hblk.cell 1 rfl;have f0:=hblk.frozen 0;have f1:=hblk.frozen 1;have lp:=hblk.lt;have nwp:w.heap.size≠p:=oM;have acO:w.heap.size+1≠p:=oM;have acP:w.heap.size+1+1≠p:=oM;have zH:w.heap.size<W1.heap.size:=oM;have WO:w.heap.size<W1.heap.size+1:=oM;have zI:w.heap.size+1<W1.heap.size:=oM;have WQ:w.heap.size+1<W1.heap.size+1:=oM;have lH:w.heap.size+1+1<W1.heap.size:=oM;have WR:w.heap.size+1+1<W1.heap.size+1:=oM;have FT:p<W1.heap.size:=oM;have WS:p<W1.heap.size+1:=oM;by_cases g1:0<n1
  .have g1':(n1==0)=false:=by simp;omega
   by_cases g2:0<n2
   .rw[if_pos g1,if_pos g2]at E3 E4;go_wp2;all_goals
     refine bodyPost_ret (v:= .agg #[.int .i64 (c1+c2), .int .i64 (n1+n2), .int .i64 (hi (s1+s2)), .int .u64 (lo (s1+s2)), .int .i64 L, .int .i64 M]) (by have q1:=E3.o;have q2:=E4.o;simp[results,Tryz.results86,go_sem,jC,lH]<;>omega) rfl ⟨rfl,?_⟩;exact(by have hz:=hE1;exact bV)
   .have g2':decide (0<n2)=false:=by simpa using g2
    rw[if_pos g1,if_neg g2]at E3 E4;go_wp2;refine bodyPost_ret (v:= .agg #[.int .i64 (c1+c2), .int .i64 (n1+n2), .int .i64 (hi (s1+s2)), .int .u64 (lo (s1+s2)), .int .i64 L, .int .i64 M]) (by rw[E3.o,E4.o];simp[results,Tryz.results86,go_sem,jC,lH]) rfl ⟨rfl,?_⟩;exact(by have hz:=hE1;exact bV)
  .have g1':(n1==0)=true:=by simp;omega
   have g1d:decide (0<n1)=false:=by simpa using g1
   by_cases g2:0<n2
   .rw[if_neg g1,if_pos g2]at E3 E4;go_wp2;refine bodyPost_ret (v:= .agg #[.int .i64 (c1+c2), .int .i64 (n1+n2), .int .i64 (hi (s1+s2)), .int .u64 (lo (s1+s2)), .int .i64 L, .int .i64 M]) (by rw[E3.o,E4.o];simp[results,Tryz.results86,go_sem,jC,lH]) rfl ⟨rfl,?_⟩;exact(by have hz:=hE1;exact bV)
   .have g2':decide (0<n2)=false:=by simpa using g2
    rw[if_neg g1,if_neg g2]at E3 E4;go_wp2;refine bodyPost_ret (v:= .agg #[.int .i64 (c1+c2), .int .i64 (n1+n2), .int .i64 (hi (s1+s2)), .int .u64 (lo (s1+s2)), .int .i64 L, .int .i64 M]) (by rw[E3.o,E4.o];simp[results,Tryz.results86,go_sem,jC,lH]) rfl ⟨rfl,?_⟩;exact(by have hz:=hE1;exact bV)
end Go.Proofs.YtenmnhnlcnmloaaGreat
