/- TreeLoads: for every tree made by hand, place and depth the law answers true, and leaves what it was given as it was. -/
import Derived.Deep.Slices
import Derived.Deep.Fields
import Derived.ChangeSame
import Derived.Lib.SmallJoins
import Derived.WalkKit
import Derived.ProofKit
import Derived.Test.YtenmnhnlcnmloaaGreatRows
import Derived.Test.YtenmnhnlcnmloaaGreatQa03
import Derived.OpenShut
import Derived.ShutString
import Derived.ChangeOld
import Derived.Below
import Derived.SizedLaws
import Derived.Test.YtenmnhnlcnmloaaGreatQa16
import Derived.Test.YtenmnhnlcnmloaaGreatQa40
import Derived.Test.YtenmnhnlcnmloaaGreatQa47
import Derived.Test.YtenmnhnlcnmloaaGreatQa01
set_option linter.unusedVariables false
set_option linter.unusedSimpArgs false
set_option maxHeartbeats 8000000
set_option maxRecDepth 8000
namespace Go.Dav
open Go Go.Joins Go.ChangeShapes Go.WideShapes Go.RowKit Go.Deep
section
variable{H:Type}{enc:TypeId×Value->H}{P:Program}{w:World}{base:Nat}{spare:Nat->Bool}{held:Bool}
theorem xW{t e:TypeId}{fs:Array Field}{fuel:Nat}{cs:List Value}{x:DataW H×List MemPlace}(ht:P.underlying t=some (.slice e))(he:P.underlying e=some (.struct fs))
  (hone:oneCellFields P fs=true) (hC:P.cellsOf e=fs.size) (h:DataW.trod enc P w base spare held fuel t cs=some x):
  (cs=[.slice none 0 0]/\x=(.nil,[]))\/
  ∃(a:Addr) (len cap m:Nat) (D:Nat->DataW H) (Pl:Nat->List MemPlace),cs=[.slice (some a) len cap]/\base<=a.block/\len<=cap/\cap<=maxLen/\m=(if spare a.block then cap else len)/\
   x=(.slice ((List.range len).map D) ((List.range (m-len)).map λj=>D (len+j)),MemPlace.row a (m*fs.size)++(List.range m).flatMap Pl)/\
   ∀i,i<m->∃(ys:List (DataW H×List MemPlace)) (n:Nat),D i= .agg (ys.map (·.1))/\Pl i=ys.flatMap (·.2)/\ys.length=fs.size/\
    ∀(j:Nat) (f:Field),fs[j]? =some f->∃(v:Value) (y:DataW H×List MemPlace),w.cell? (a.add (i*fs.size+j))=some v/\ys[j]? =some y/\DataW.trod enc P w base spare held n f.type [v]=some y:=by
 rcases open_slice ht h with h0|⟨a,len,cap,m,n,D,Pl,hcs,hb,hl,hm,hmm,hx,hi⟩
 .exact .inl h0
 .refine .inr ⟨a,len,cap,m,D,Pl,hcs,hb,hl,hm,hmm,by rw[hC]at hx;exact hx,λi him=>?_⟩;obtain⟨cs',hc,ht'⟩:=hi i him;rw[hC]at hc;obtain⟨ys,n',hn',hy,hlen,hyl,hf⟩:=DataW.trod_struct he ht';obtain⟨_,hcl,hat⟩:=World.cells?_some hc;simp only[Prod.mk.injEq]at hy;refine⟨ys,n',hy.1,hy.2,hyl,λj f hj=>?_⟩;obtain⟨ho,hk⟩:=hone_of hone j f hj;have hjl:j<fs.size:=(Array.getElem?_eq_some_iff.1 hj).1;have hcell:=hat j hjl;have hv:cs'[j]? =some (cs'[j]'(by omega)):=List.getElem?_eq_getElem oM;have h1:=hf j f hj;rw[ho,hk]at h1;have hone':(cs'.drop j).take 1=[cs'[j]'(by omega)]:=by
   rw[List.drop_eq_getElem_cons oM];rfl
  rw[hone']at h1;have hys:ys[j]? =some (ys[j]'(by omega)):=List.getElem?_eq_getElem oM;refine⟨_,_,?_,hys,h1.trans hys⟩;rw[<- Go.Deep.add_add,hcell,hv]
end
section
variable{H:Type}{enc:TypeId×Value->H}{P:Program}{w:World}{base:Nat}{spare:Nat->Bool}{held:Bool}
end
end Go.Dav
namespace Go.Proofs.YtenmnhnlcnmloaaGreat
open Go.ChangeShapes Go.WideShapes Go.ChangeAt Go.RowKit Go.Joins Go.Dav Go.Deep
theorem qM{α:Type}{p:Nat->α->Prop}:∀(n:Nat),(∀i,i<n->∃x,p i x)->∃l:List α,l.length=n/\∀i x,l[i]? =some x->p i x
 |0,_=>⟨[],rfl,λi x h=>by simp at h⟩
 |n+1,h=>by
  obtain⟨l,hl,hp⟩:=qM (p:=p) n (λi hi=>h i oM);obtain⟨x,hx⟩:=h n oM;refine⟨l++[x],by simp[hl],λi y hy=>?_⟩;by_cases hi:i<l.length
  .rw[List.getElem?_append_left hi]at hy;exact hp i y hy
  .rw[List.getElem?_append_right oM]at hy;have:i-l.length=0:=by
    have:=(List.getElem?_eq_some_iff.1 hy).1;simp at this;omega
   rw[this]at hy;have e:x=y:=by simpa using hy
   have:i=n:=oM;subst this e;exact hx
theorem weightsAll_mem{H:Type}{P:Program}{e:TypeId}{n:Nat}:∀ {ds:List (DataW H)} {i:Nat} {d:DataW H},ds[i]? =some d->n∈d.weights P e->n∈DataW.weightsAll P e ds
 |d0::ds,0,d,hd,hn=>by
  simp only[List.getElem?_cons_zero,Option.some.injEq]at hd;subst hd;simp only[DataW.weightsAll,List.mem_append];exact .inl hn
 |d0::ds,i+1,d,hd,hn=>by
  simp only[List.getElem?_cons_succ]at hd;simp only[DataW.weightsAll,List.mem_append];exact .inr (weightsAll_mem hd hn)
 |[],_,_,hd,_=>by simp at hd
theorem Jf{x:Int}(h:(Lit.int .i64 x).wf=true):eY x:=by
 have:=bounds_i64 h;unfold eY;omega
section
variable{H:Type}{enc:TypeId×Value->H}{w:World}{base:Nat}{spare:Nat->Bool}{held:Bool}
set_option maxRecDepth 100000 in
theorem nN{fuel:Nat}{v:Value}{y:DataW H×List MemPlace}(h:DataW.trod enc Tryz.prog w base spare held fuel 22 [v]=some y)(hs:∀n∈y.1.weights Tryz.prog 22,n<=reachBytes):
  ∃(a:Option Addr) (len cap:Nat) (l:List UInt8),v= .slice a len cap/\BytesAt w a len cap l:=by
 rcases open_slice1 Tryz.underlying22 kR h with⟨hc,_⟩|⟨a,len,cap,m,n,V,D,Pl,hc,_,hl,hm,hmm,rfl,hi⟩
 .simp only[List.cons.injEq,and_true]at hc;exact⟨_,_,_,[],hc,BytesAt.nil_⟩
 .simp only[List.cons.injEq,and_true]at hc;have hlm:len<=m:=by rw[hmm];split<;>omega
  have hb1:Tryz.prog.bytesOf 5=1:=kR;have hw:=hs ((((List.range len).map D).length+((List.range (m-len)).map λj=>D (len+j)).length)*Tryz.prog.bytesOf 5) (by simp[DataW.weights,Tryz.underlying22]);rw[hb1]at hw;simp only[List.length_map,List.length_range]at hw;have key:∀i,i<len->∃x:UInt8,w.cell? (a.add i)=some (.int .u8 (x.toNat:Int)):=by
   intro i hil;obtain⟨h1,h2⟩:=hi i oM;obtain⟨x,e,_,wf⟩:=DataW.trod_int Tryz.underlying5 h2;simp only[List.cons.injEq,and_true]at e;have hx:=bounds_u8 wf;refine⟨UInt8.ofNat x.toNat,?_⟩;rw[h1,e];have:(UInt8.ofNat x.toNat).toNat=x.toNat:=by rw[UInt8.toNat_ofNat'];omega
   rw[this];congr 2
   omega
  obtain⟨l,hlen,hl2⟩:=qM len key;refine⟨some a,len,cap,l,hc,hlen,hl,hm,by unfold reachBytes at hw;omega,λk x hk=>?_,λe=>by cases e⟩;have hcell:=hl2 k x hk;obtain⟨b,o,sp⟩:=a;have hkl:=(List.getElem?_eq_some_iff.1 hk).1;have hsp:=World.cell?_spot (hl2 0 _ (List.getElem?_eq_getElem (by omega:0<l.length)));have hsp:sp=none:=by simpa[Addr.add]using hsp
  subst hsp;rw[Addr.add_lit]at hcell;exact⟨b,o,rfl,World.block_lt_of_cell? _ _ hcell,hcell⟩
end
section
variable{H:Type}{enc:TypeId×Value->H}{w:World}{base:Nat}{spare:Nat->Bool}{held:Bool}
set_option maxRecDepth 100000 in
theorem BM{fuel:Nat}{v:Value}{y:DataW H×List MemPlace}(h:DataW.trod enc Tryz.prog w base spare held fuel 23 [v]=some y)(hs:∀n∈y.1.weights Tryz.prog 23,n<=reachBytes):
  ∃(a:Option Addr) (len cap:Nat) (l:List aP),v= .slice a len cap/\aY w (λb=>b<w.heap.size) a len cap l:=by
 rcases xW Tryz.underlying23 Tryz.underlying60 kR kR h with⟨hc,_⟩|⟨a,len,cap,m,D,Pl,hc,_,hl,hm,hmm,hx,hi⟩
 .simp only[List.cons.injEq,and_true]at hc;exact⟨_,_,_,[],hc,rfl,Nat.le_refl _,by unfold maxLen;omega,oM,λk x hk=>by simp at hk,λ_=>rfl⟩
 .simp only[List.cons.injEq,and_true]at hc;obtain⟨y1,y2⟩:=y;simp only[Prod.mk.injEq]at hx;obtain⟨rfl,_⟩:=hx;have hlm:len<=m:=by rw[hmm];split<;>omega
  have hb1:Tryz.prog.bytesOf 60=64:=kR;have hw:=hs ((((List.range len).map D).length+((List.range (m-len)).map λj=>D (len+j)).length)*Tryz.prog.bytesOf 60) (by simp[DataW.weights,Tryz.underlying23]);rw[hb1]at hw;simp only[List.length_map,List.length_range]at hw;have key:∀i,i<len->∃x:aP,∃ka kl kc va vl vc,(∀j u,[Value.slice ka kl kc, .slice va vl vc, .bool x.int, .int .i64 x.n][j]? =some u->w.cell? (a.add (i*4+j))=some u)/\BytesAt w ka kl kc x.key/\BytesAt w va vl vc x.value/\eY x.n:=by
   intro i hil;obtain⟨ys,n,hDi,_,hyl,hF⟩:=hi i oM;have hsD:∀k∈(D i).weights Tryz.prog 60,k<=reachBytes:=λk hk=>hs k (by
    simp only[DataW.weights,Tryz.underlying23,List.mem_cons,List.mem_append];exact .inr (.inl (weightsAll_mem (i:=i) (by simp[hil]) hk)))
   rw[hDi]at hsD;simp only[DataW.weights,Tryz.underlying60]at hsD;obtain⟨v0,y0,c0,e0,t0⟩:=hF 0 _ rfl;obtain⟨v1,y1,c1,e1,t1⟩:=hF 1 _ rfl;obtain⟨v2,y2,c2,e2,t2⟩:=hF 2 _ rfl;obtain⟨v3,y3,c3,e3,t3⟩:=hF 3 _ rfl;obtain⟨ka,kl,kc,ks,f0,hk0⟩:=nN t0 (λk hk=>hsD k (DataW.weights_mem_each (j:=0) (t:=22) (d:=y0.1) rfl (by simp[e0]) k hk));obtain⟨va,vl,vc,vs,f1,hk1⟩:=nN t1 (λk hk=>hsD k (DataW.weights_mem_each (j:=1) (t:=22) (d:=y1.1) rfl (by simp[e1]) k hk));obtain⟨b2,f2,_⟩:=DataW.trod_bool Tryz.underlying4 t2;obtain⟨n3,f3,_,w3⟩:=DataW.trod_int Tryz.underlying2 t3;simp only[List.cons.injEq,and_true]at f2 f3;subst f0 f1 f2 f3;refine⟨⟨ks,vs,b2,n3⟩,ka,kl,kc,va,vl,vc,λj u hu=>?_,hk0,hk1,Jf w3⟩;match j,hu with
   |0,hu=>cases hu;exact c0
   |1,hu=>cases hu;exact c1
   |2,hu=>cases hu;exact c2
   |3,hu=>cases hu;exact c3
   |j+4,hu=>simp at hu
  obtain⟨l,hlen,hl2⟩:=qM len key;refine⟨some a,len,cap,l,hc,hlen,hl,hm,by unfold reachBytes at hw;omega,λk x hk=>?_,λe=>by cases e⟩;obtain⟨b,o,sp⟩:=a;have hkl:=(List.getElem?_eq_some_iff.1 hk).1;obtain⟨_,_,_,_,_,_,hz,_⟩:=hl2 0 _ (List.getElem?_eq_getElem (by omega:0<l.length));have hcell0:=hz 0 _ rfl;have hsp:=World.cell?_spot hcell0;have hsp:sp=none:=by simpa[Addr.add]using hsp
  subst hsp;have hbl:=World.block_lt_of_cell? _ _ hcell0;have hbl:b<w.heap.size:=by simpa[Addr.add]using hbl
  obtain⟨ka,kl,kc,va,vl,vc,hcl,g1,g2,g3⟩:=hl2 k x hk;have hcl':∀j u,[Value.slice ka kl kc, .slice va vl vc, .bool x.int, .int .i64 x.n][j]? =some u->w.cell? ⟨b,o+k*4+j,none⟩=some u:=λj u hu=>by
   have:=hcl j u hu;rw[Addr.add_lit]at this;rw[Nat.add_assoc];exact this
  exact⟨b,o,ka,kl,kc,va,vl,vc,rfl,hbl,hbl,hcl' 0 _ rfl,hcl' 1 _ rfl,hcl' 2 _ rfl,hcl' 3 _ rfl,g1.s,g2.s,g3⟩
end
section
variable{H:Type}{enc:TypeId×Value->H}{w:World}{base:Nat}{spare:Nat->Bool}{held:Bool}
set_option maxRecDepth 100000 in
theorem CX{fuel:Nat}{v:Value}{y:DataW H×List MemPlace}(h:DataW.trod enc Tryz.prog w base spare held fuel 24 [v]=some y)(hs:∀n∈y.1.weights Tryz.prog 24,n<=reachBytes):
  ∃(a:Option Addr) (len cap:Nat) (l:List Int),v= .slice a len cap/\bP w (λb=>b<w.heap.size) a len (Ot l)/\len<=cap/\len<=140737488355328:=by
 have hC:Tryz.prog.cellsOf 3=1:=kR;rcases open_slice Tryz.underlying24 h with⟨hc,_⟩|⟨a,len,cap,m,n,D,Pl,hc,_,hl,hm,hmm,hx,hi⟩
 .simp only[List.cons.injEq,and_true]at hc;exact⟨_,_,_,[],hc,⟨rfl,λk x hk=>by simp[Ot]at hk⟩,Nat.le_refl _,oM⟩
 .simp only[List.cons.injEq,and_true]at hc;rw[hC]at hi;obtain⟨y1,y2⟩:=y;simp only[Prod.mk.injEq]at hx;obtain⟨rfl,_⟩:=hx;have hlm:len<=m:=by rw[hmm];split<;>omega
  have hb1:Tryz.prog.bytesOf 3=8:=kR;have hw:=hs ((((List.range len).map D).length+((List.range (m-len)).map λj=>D (len+j)).length)*Tryz.prog.bytesOf 3) (by simp[DataW.weights,Tryz.underlying24]);rw[hb1]at hw;simp only[List.length_map,List.length_range]at hw;have key:∀i,i<len->∃x:Int,w.cell? (a.add i)=some (.int .i64 x):=by
   intro i hil;obtain⟨cs',hcs,ht'⟩:=hi i oM;obtain⟨_,hcl,hat⟩:=World.cells?_some hcs;obtain⟨c0,rfl⟩:∃c0,cs'=[c0]:=by
    match cs',hcl with
    |[c0],_=>exact⟨c0,rfl⟩
   obtain⟨x,e1,_,_⟩:=DataW.trod_int Tryz.underlying3 ht';simp only[List.cons.injEq,and_true]at e1;subst e1;refine⟨x,?_⟩;have:=hat 0 (by simp);rw[Go.Deep.add_add,Nat.mul_one,Nat.add_zero]at this;simpa using this
  obtain⟨l,hlen,hl2⟩:=qM len key;refine⟨some a,len,cap,l,hc,⟨by simp[Ot,hlen],λk u hk=>?_⟩,hl,by unfold reachBytes at hw;omega⟩;unfold Ot at hk;rw[List.getElem?_map]at hk;obtain⟨x,hx,rfl⟩:=Option.map_eq_some_iff.1 hk;obtain⟨b,o,sp⟩:=a;have hcell:=hl2 k x hx;have hkl:=(List.getElem?_eq_some_iff.1 hx).1;have hcell0:=hl2 0 _ (List.getElem?_eq_getElem (by omega:0<l.length));have hsp:=World.cell?_spot hcell0;have hsp:sp=none:=by simpa[Addr.add]using hsp
  subst hsp;have hbl:=World.block_lt_of_cell? _ _ hcell0;have hbl:b<w.heap.size:=by simpa[Addr.add]using hbl
  rw[Addr.add_lit]at hcell;exact⟨b,o,rfl,hbl,hbl,hcell⟩
set_option maxRecDepth 100000 in
theorem BN{r:Reach}{b0:Nat}{v:Value}{d:DataW H}{p:List MemPlace}(hv:Value.okWide Tryz.prog w r b0 55 v)(h:DataW.Trod enc Tryz.prog w base spare held 55 v d p)(hs:∀n∈d.weights Tryz.prog 55,n<=reachBytes):
  ∃(aa:Option Addr) (an ac:Nat) (ia:Option Addr) (il ic:Nat) (na:Option Addr) (fn fnc:Nat) (b:pY),v= .agg #[.slice aa an ac, .slice ia il ic, .slice na fn fnc, .int .i64 b.hu.kind, .int .i64 b.hu.node]/\Bo w (λb=>b<w.heap.size) aa an ac ia il ic na fn fnc b:=by
 have hC1:Tryz.prog.cellsOf 22=1:=kR;have hC2:Tryz.prog.cellsOf 23=1:=kR;have hC3:Tryz.prog.cellsOf 24=1:=kR;have hC4:Tryz.prog.cellsOf 53=2:=kR;have hC5:Tryz.prog.cellsOf 3=1:=kR;obtain⟨cs,rfl,hsz⟩:=okWide_struct Tryz.underlying55 hv;have hC:Tryz.prog.cellsOf 55=5:=kR;rw[hC]at hsz;obtain⟨fuel,hf⟩:=h;obtain⟨c0,c1,c2,c3,c4,rfl⟩:∃c0 c1 c2 c3 c4,cs= #[c0,c1,c2,c3,c4]:=by
  obtain⟨L⟩:=cs;match L,hsz with
  |[c0,c1,c2,c3,c4],_=>exact⟨c0,c1,c2,c3,c4,rfl⟩
 obtain⟨ys,n',_,hy,hlen,hyl,hg⟩:=DataW.trod_struct Tryz.underlying55 hf;simp only[Prod.mk.injEq]at hy;rw[hy.1]at hs;simp only[DataW.weights,Tryz.underlying55]at hs;obtain⟨y0,y1,y2,y3,rfl⟩:∃y0 y1 y2 y3,ys=[y0,y1,y2,y3]:=by
  match ys,hyl with
  |[y0,y1,y2,y3],_=>exact⟨y0,y1,y2,y3,rfl⟩
 have t0:DataW.trod enc Tryz.prog w base spare held n' 22 [c0]=some y0:=by simpa[Value.cells,hC1]using hg 0 _ rfl
 have t1:DataW.trod enc Tryz.prog w base spare held n' 23 [c1]=some y1:=by simpa[Value.cells,hC2]using hg 1 _ rfl
 have t2:DataW.trod enc Tryz.prog w base spare held n' 24 [c2]=some y2:=by simpa[Value.cells,hC3]using hg 2 _ rfl
 have t3:DataW.trod enc Tryz.prog w base spare held n' 53 [c3,c4]=some y3:=by simpa[Value.cells,hC4]using hg 3 _ rfl
 obtain⟨zs,n'',_,_,_,hzl,hh⟩:=DataW.trod_struct Tryz.underlying53 t3;obtain⟨z0,z1,rfl⟩:∃z0 z1,zs=[z0,z1]:=by
  match zs,hzl with
  |[z0,z1],_=>exact⟨z0,z1,rfl⟩
 have r0:DataW.trod enc Tryz.prog w base spare held n'' 3 [c3]=some z0:=by simpa[hC5]using hh 0 _ rfl
 have r1:DataW.trod enc Tryz.prog w base spare held n'' 3 [c4]=some z1:=by simpa[hC5]using hh 1 _ rfl
 obtain⟨aa,an,ac,A,f0,hA⟩:=nN t0 (λk hk=>hs k (DataW.weights_mem_each (j:=0) (t:=22) (d:=y0.1) rfl rfl k hk));obtain⟨ia,il,ic,I,f1,hI⟩:=BM t1 (λk hk=>hs k (DataW.weights_mem_each (j:=1) (t:=23) (d:=y1.1) rfl rfl k hk));obtain⟨na,fn,fnc,F,f2,hF,hF1,hF2⟩:=CX t2 (λk hk=>hs k (DataW.weights_mem_each (j:=2) (t:=24) (d:=y2.1) rfl rfl k hk));obtain⟨m0,e0,_,u0⟩:=DataW.trod_int Tryz.underlying3 r0;obtain⟨m1,e1,_,u1⟩:=DataW.trod_int Tryz.underlying3 r1;simp only[List.cons.injEq,and_true]at e0 e1;subst f0 f1 f2 e0 e1;exact⟨aa,an,ac,ia,il,ic,na,fn,fnc,⟨A,I,F,⟨m0,m1⟩⟩,rfl,hA.s,hI,hF,hF1,hF2,Jf u0,Jf u1⟩
end
end Go.Proofs.YtenmnhnlcnmloaaGreat
namespace Go.Proofs.YtenmnhnlcnmloaaGreat
namespace TreeLoads
open Go.ChangeShapes Go.WideShapes Go.ChangeAt Go.RowKit Go.Joins Go.Dav
theorem own:ownKnob Tryz.prog.godebug=none:=kR
theorem laidOut:laidOutB Tryz.prog=true:=kR
set_option maxRecDepth 100000 in
theorem lifted(os:Os)(started:os.Started)(H:Type)(enc:TypeId×Value->H):
  ReturnsInHanded {} Tryz.checked os 5 .any (Rows.treeLoadsSpec.pre6 enc Tryz.prog Tryz.f5 Rows.treeLoadsRow.domain false) (Rows.treeLoadsSpec.post enc Tryz.prog Tryz.f5 false true false false):=by
 refine returnsInHanded_of_change_sized (C:=Tryz.checked) own started kR Tryz.func5
  (ChangeSpec.witness6 (enc:=enc) (C:=Tryz.checked) false ⟨#[],#[.agg #[.slice none 0 0, .slice none 0 0, .slice none 0 0, .int .i64 0, .int .i64 0], .int .i64 0, .int .i64 0],[]⟩ 8 kR kR kR kR) ?_
 intro W base args ds gs before hval0 hW hcnd hsz0 _;have hsz:(DataW.weightsEach Tryz.prog (Tryz.f5.params.toList++Rows.treeLoadsSpec.plain.varTypes Tryz.prog) (ds++gs)).all (· <=reachBytes)=true:=hsz0;have hval:∀(j:Nat) t v,Tryz.f5.params[j]? =some t->args[j]? =some v->Value.okWide Tryz.prog W .any base t v:=hval0;have hW':=hW;obtain⟨p,q,hA0,hV,rfl,hfz,hnd⟩:=hW;have hA:DataW.TrodAll enc Tryz.prog W 0 (λ_=>true) true Tryz.f5.params.toList args.toList ds p:=hA0;rw[Tryz.params5]at hA hval hsz;obtain⟨v0,vs0,d0,ds0,p0,q0,hargs,rfl,rfl,h0,r0⟩:=trodAll_cons hA;obtain⟨v1,vs1,d1,ds1,p1,q1,rfl,rfl,rfl,h1,r1⟩:=trodAll_cons r0;obtain⟨v2,vs2,d2,ds2,p2,q2,rfl,rfl,rfl,h2,r2⟩:=trodAll_cons r1;obtain⟨rfl,rfl,rfl⟩:=trodAll_nil r2;obtain rfl:args= #[v0,v1,v2]:=by cases args;simp_all
 obtain⟨rfl,rfl⟩:=trodVars_none hV;have k0:=h0;have lt0:∀x∈p0,x.block<W.heap.size:=by obtain⟨m,hm⟩:=k0;exact DataW.trod_lt m _ _ _ hm
 have ok0:=hval 0 55 v0 rfl rfl;have sz0:∀n∈d0.weights Tryz.prog 55,n<=reachBytes:=λn hn=>by simpa using List.all_eq_true.1 hsz n (DataW.weights_mem_each (j:=0) rfl rfl n hn)
 have k1:=h1;have lt1:∀x∈p1,x.block<W.heap.size:=by obtain⟨m,hm⟩:=k1;exact DataW.trod_lt m _ _ _ hm
 have ok1:=hval 1 3 v1 rfl rfl;have sz1:∀n∈d1.weights Tryz.prog 3,n<=reachBytes:=λn hn=>by simpa using List.all_eq_true.1 hsz n (DataW.weights_mem_each (j:=1) rfl rfl n hn)
 have k2:=h2;have lt2:∀x∈p2,x.block<W.heap.size:=by obtain⟨m,hm⟩:=k2;exact DataW.trod_lt m _ _ _ hm
 have ok2:=hval 2 3 v2 rfl rfl;have sz2:∀n∈d2.weights Tryz.prog 3,n<=reachBytes:=λn hn=>by simpa using List.all_eq_true.1 hsz n (DataW.weights_mem_each (j:=2) rfl rfl n hn)
 obtain⟨aa,an,ac,ia,il,ic,na,fn,fnc,b,rfl,hB⟩:=BN ok0 h0 sz0;obtain⟨x1,rfl,rfl,rfl,wx1⟩:=open_int Tryz.underlying3 ok1 h1;obtain⟨x2,rfl,rfl,rfl,wx2⟩:=open_int Tryz.underlying3 ok2 h2;clear hA0 hval0 hsz0 hsz;refine(CW b x1 x2 aa ia na an ac il ic fn fnc W hB (Jf wx1) (Jf wx2)).mono λe W' ⟨he,bel⟩=>?_;subst he;exact⟨_,rfl,_,_,_,[],_,[],hW',trodAll_mk1 (shut_bool Tryz.underlying4 _),(trodAll_cons_mk (Below.trod laidOut kR (of_decide_eq_true kR) k0 bel lt0) (trodAll_cons_mk (Below.trod laidOut kR (of_decide_eq_true kR) k1 bel lt1) (trodAll_cons_mk (Below.trod laidOut kR (of_decide_eq_true kR) k2 bel lt2) trodAll_mk0))),rfl,bel.frame _,λh=>by cases h⟩
theorem over:Rows.treeLoadsRow.holds Tryz.pinned (OpenSpec.ofChange Rows.treeLoadsSpec):=
 OpenClaim.holds_of_wide 5 Tryz.f5 rfl rfl rfl rfl rfl rfl rfl ⟨rfl,rfl,rfl,rfl,rfl⟩ rfl rfl rfl rfl rfl kR Tryz.func5 kR
  (of_decide_eq_true kR) (by unfold Func.isWrapper;first|(rw[if_pos (by decide+kernel)];kernel_rfl)|(rw[if_neg (by decide+kernel)];exact⟨rfl,rfl⟩))
  (λos started H enc _=>lifted os started H enc)
end TreeLoads
theorem treeLoads_holds:Rows.TreeLoadsSaid:=TreeLoads.over
#print axioms treeLoads_holds
end Go.Proofs.YtenmnhnlcnmloaaGreat
