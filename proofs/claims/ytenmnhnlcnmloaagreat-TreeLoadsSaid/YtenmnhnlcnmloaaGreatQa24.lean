/- Part of a proof of a law of the layer of trees. -/
import Derived.Test.YtenmnhnlcnmloaaGreatQa23
import Derived.Test.YtenmnhnlcnmloaaGreatQa16
import Derived.Test.YtenmnhnlcnmloaaGreatQa22
import Derived.Test.YtenmnhnlcnmloaaGreatQa01
set_option linter.unusedVariables false
set_option linter.unusedSimpArgs false
set_option maxHeartbeats 8000000
set_option maxRecDepth 8000
namespace Go.Dav
open Go Go.RowKit
theorem AO(b:Bool)(x:Int):(ig b x).c=1:=by cases b<;>rfl
theorem aY.ext1{W W':World}{S:Nat->Prop}{a:Option Addr}{len cap:Nat}{l:List aP}(h:aY W S a len cap l)(hb:Below W.heap.size W W'):aY W' S a len cap l:=h.same hb.size λb _ h2=>hb.block b h2
theorem Il:∀(l:List Red) (acc:Red),(∀r∈l,0<=r.c)->acc.c+(l.map Red.c).sum<=1073741824->joinL acc l=some (l.foldl Red.both acc)
 |[],_,_,_=>rfl
 |r::l,acc,h,hs=>by
  have h0:0<=(l.map Red.c).sum:=by
   clear hs;induction l with
   |nil=>simp
   |cons x l ih=>
    have h1:=h x (by simp);have h2:=ih λy hy=>h y (by rcases List.mem_cons.1 hy with e|e<;>simp[e]);simp only[List.map_cons,List.sum_cons];omega
  simp only[List.map_cons,List.sum_cons]at hs;unfold joinL;rw[if_neg oM,Il l (acc.both r) (λy hy=>h y (by simp[hy])) (by show acc.c+r.c+_<=_;omega)];rfl
theorem UW{x:dw}(h:pOk x=true)(hn:∀i,x= .inl i->eY i.n):(BO x).ok=true:=by
 cases x with
 |inl i=>exact Red.Uy (uH _ _ (hn i rfl)) (by show(ig _ _).c<=_;rw[AO];omega)
 |inr k=>unfold pOk O1 at h;simp only[Bool.and_eq_true,decide_eq_true_eq]at h;exact h.2.2.2.2.2
theorem Sr(L:List dw):((L.map BO).map Red.c).sum=gX L L.length:=by
 unfold gX;rw[List.take_length,List.map_map];rfl
theorem Qe{N:aT}(hok:bI N=true)(hf:∀x∈N.items,eY x.n):Fv N=((ku N).foldl Red.both Red.zero,0):=by
 obtain⟨h1,h2,h3,h4⟩:=fQ hok;have hall:(ku N).all Red.ok=true:=by
  rw[List.all_eq_true];intro r hr;obtain⟨x,hx,rfl⟩:=List.mem_map.1 hr;refine UW (h4 x hx) λi e=>?_;subst e;unfold partsOf at hx;split at hx
  .obtain⟨y,hy,e⟩:=List.mem_map.1 hx;cases e;exact hf _ hy
  .obtain⟨y,hy,e⟩:=List.mem_map.1 hx;cases e
 have hc0:∀r∈ku N,0<=r.c:=λr hr=>by
  obtain⟨x,hx,rfl⟩:=List.mem_map.1 hr;exact V7 (h4 x hx)
 have hl:(partsOf N).length≠0:=by have:=uU N;omega
 have hsum:((ku N).map Red.c).sum<=1073741824:=by
  unfold ku;rw[Sr];have:=List.all_eq_true.1 h3 ((partsOf N).length-1) (List.mem_range.2 oM);unfold uM at this;simp only[Bool.and_eq_true,decide_eq_true_eq]at this;have h5:=this.2.2;rwa [show(partsOf N).length-1+1=(partsOf N).length by omega]at h5
 unfold Fv;rw[if_pos hok];unfold joined;rw[if_pos hall,Il _ _ hc0 (by simpa[Red.zero]using hsum)]
def iM(l:List dS)(k:Nat):Red:=((l.take k).map (·.red)).foldl Red.both Red.zero
theorem yF{l:List dS}{k:Nat}{x:dS}(h:l[k]? =some x):iM l (k+1)=(iM l k).both x.red:=by
 unfold iM;rw[List.take_add_one,h,List.map_append,List.foldl_append];rfl
def dO(l:List aP)(k:Nat):Red:=xX (AL (l.take k))
theorem Io{l:List aP}{k:Nat}{x:aP}(h:l[k]? =some x):dO l (k+1)=(dO l k).both (ig x.int x.n):=by
 unfold dO xX AL;rw[List.take_add_one,h,List.map_append,List.foldl_append];rfl
def fP(R:Red)(l:List dS)(k:Nat):Red:=((l.take k).map (·.red)).foldl Red.both R
theorem EZ{R:Red}{l:List dS}{k:Nat}{x:dS}(h:l[k]? =some x):fP R l (k+1)=(fP R l k).both x.red:=by
 unfold fP;rw[List.take_add_one,h,List.map_append,List.foldl_append];rfl
theorem dZ.ext1{W W':World}{S:Nat->Prop}{a:Option Addr}{len cap:Nat}{l:List dS}(h:dZ W S a len cap l)(hb:Below W.heap.size W W'):dZ W' S a len cap l:=h.same hb.size λb _ h2=>hb.block b h2
end Go.Dav
namespace Go.Proofs.YtenmnhnlcnmloaaGreat
open Go.RowKit Go.Dav
attribute [local go_sem] Gives ite_val ay
theorem Nw(k v:Value)(b:Bool)(x:Int)(w:World)(hx:I64 x):
  Calls Tryz.prog 87 #[.agg #[k,v, .bool b, .int .i64 x]] w λe w'=>e= .returned (uO (ig b x))/\Below w.heap.size w w':=by
 cases b with
 |true=>exact EY k v x w hx
 |false=>exact Ik k v x w
theorem AP(A B:Red)(w:World)(hA:0<=A.n/\A.n<=A.c/\A.c<=7516192768/\A.blank)(hB:0<=B.n/\B.n<=B.c/\B.c<=7516192768)(hz:B.n=0->B.s=0):
  Calls Tryz.prog 86 #[uO A,uO B] w λe w'=>e= .returned (uO (A.both B))/\Below w.heap.size w w':=
 Nv A.c A.n A.s A.l A.m B.c B.n B.s B.l B.m w hA.1 hB.1 (by rw[aZ];omega) (by rw[aZ];omega) hz hA.2.2.2
def CG:List Value:=[.int .i64 0, .int .i64 0, .int .i64 0, .int .u64 0, .int .i64 0, .int .i64 0]
def UY(w:World)(l:List aP)(n:Nat)(ix:Value)(wr:World):Prop:=
 ∃k:Nat,k<=n/\ix= .int .i64 k/\Blk wr w.heap.size CG 35/\Blk wr (w.heap.size+1) (dO l k).cells 35/\Below w.heap.size w wr
theorem Ny:Red.zero.cells=CG:=by unfold Red.cells Red.zero CG;simp[jF,jG]
theorem Qg(a:Option Addr)(n c:Nat)(l:List aP)(S:Nat->Prop)(w:World)(hI:aY w S a n c l)(h6:n<=6):
  Calls Tryz.prog 53 #[.slice a n c] w λe w'=>e= .returned (uO (dO l n))/\Below w.heap.size w w':=by
 have b1:(n:Int)<=6:=oM;have HI:=Hd hI;have HL:=Hd hI.hlen;have HX:=Hd (show ∀x∈l,eY x.n from λx hx=>by
  obtain⟨i,hi,e⟩:=List.mem_iff_getElem.1 hx;obtain⟨_,_,_,_,_,_,_,_,_,_,_,_,_,_,_,_,_,g⟩:=hI.hat i x (by rw[List.getElem?_eq_getElem hi,e]);exact g)
 have H6:=Hd h6;clear hI h6;go_enter Tryz.func53,Tryz.ntmps53;go_wp2_with fail;go_loopw [4] (λix wr=>UY w l n ix wr) (λix _=>n-(intOf ix).toNat)
 case atStart=>
  refine⟨0,Nat.zero_le _,rfl,(Blk.new _ CG _).alloc _,?_,bW⟩;have e:(dO l 0).cells=CG:=by unfold dO xX AL;simp[Ny]
  rw[e];exact Blk.new' _ CG _ (by simp)
 case round=>
  obtain⟨k,hk,rfl,hbz,hbo,hbel⟩:=hrel;have HB:=Hd hbel;have HBZ:=Hd hbz;have HBO:=Hd hbo;have pc:=hbo.cells;have pm:=hbo.marks;have lo1:=hbo.lt;have lz:=hbz.lt;simp only[Red.cells]at pc;by_cases hlt:k<n
  .obtain⟨x,hx⟩:∃x,l[k]? =some x:=⟨_,List.getElem?_eq_getElem (by have:=HL.o;omega)⟩;obtain⟨b,o,xa,xl,xc,va,vl,vc,rfl,hb1,hs1,d0,d1,d2,d3,h4,h5,h6⟩:=(HI.o.ext1 hbel).hat k x hx;have hlt':(k:Int)<(n:Int):=oM;have HLT:=Hd hlt;have hk0:¬(k:Int)<0:=oM;have hgd:(dO l k).good:=zD (DT λy hy=>HX.o y (List.mem_of_mem_take hy));have hcc:(dO l k).c=(l.take k).length:=YB;have hcl:(l.take k).length<=6:=by rw[List.length_take];have:=HL.o;have:=H6.o;omega
   have hxg:=uH x.int x.n h6;have hxc:=AO x.int x.n;have HON:=Hd (λ(u v:Value) W=>Nw u v x.int x.n W h6);have HBT:=Hd (λW=>AP (dO l k) (ig x.int x.n) W ⟨hgd.n0,hgd.nc,oM,λh=>(hgd.none h).2⟩ ⟨hxg.n0,hxg.nc,oM⟩ (λh=>(hxg.none h).1));have HNX:=Hd (Io hx);obtain⟨A,hA⟩:∃A,dO l k=A:=⟨_,rfl⟩;obtain⟨B,hB⟩:∃B,ig x.int x.n=B:=⟨_,rfl⟩;rw[hA]at pc HBT HNX HBO;rw[hB]at HBT HNX HON;clear hgd hcc hcl hxg hxc h4 h5 h6 hs1 hx hk hlt hbel hbz hbo hA hB;go_wp2_with fail;refine' ah [.inl _, .inl _, .inl _, .inl _, .inl _, .inl _, .inl _] kR kR ?dN
   case dN=>
    refine wE ?_;iterate 3 refine wD ?_
    refine wE ?_;refine wG (λW hE hN=>by go_simp;refine⟨Below.refl _ _,?_⟩;refine(HON.o _ _ W).mono ?_;rintro e w' ⟨rfl,hb⟩;refine⟨?_,hb⟩;rfl) ?_;refine wG (λW hE hN=>by go_simp;refine⟨Below.refl _ _,?_⟩;refine(HBT.o W).mono ?_;rintro e w' ⟨rfl,hb⟩;refine⟨?_,hb⟩;rfl) ?_;refine aj λW1 hE1 hG1=>?_;have jC:=hE1.cF;have kK:=hE1.fF;have HB1:=Hd (HB.o.trans (hE1.mono HB.o.size));have hz1:=HBZ.o.ext hE1;have ho1:=HBO.o.ext hE1;have q1:=ho1.cells;have qm:=ho1.marks;have ql:=ho1.lt;have q0:=hz1.cells;have HZ1:=Hd hz1;have HO1:=Hd ho1;simp only[uO,Red.cells]at*;clear hE1 hG1 pc pm lz lo1 jC kK hz1 ho1;go_wp2_with fail;go_roundw
    case rel=>
     refine⟨k+1,HLT.o,by go_num,?_,?_,?_⟩
     .exact(((((HZ1.o.other oM _ _).other oM _ _).other oM _ _).other oM _ _).other oM _ _).other oM _ _
     .rw[HNX.o];exact(((((HO1.o.set 0 _).set 1 _).set 2 _).set 3 _).set 4 _).set 5 _
     .have h:=HB1.o;exact(by have hz:=h;exact bV)
    case measure=>simp[intOf];have:=HLT.o;omega
  .obtain rfl:k=n:=oM;have hlt':¬(k:Int)<(k:Int):=oM;have oc:=hbz.cells;have om:=hbz.marks;unfold CG at oc;obtain⟨A,hA⟩:∃A,dO l k=A:=⟨_,rfl⟩;have HA:=Hd hA;rw[hA]at pc;clear hlt hk hbz hbo hbel HBO hA;go_wp2_with fail;refine bodyPost_ret (v:=uO A) (by simp[results,Tryz.results53,go_sem,uO, *]) rfl ⟨by rw[HA.o],?_⟩;have h:=HB.o;exact(by have hz:=h;exact bV)
def UZ(w:World)(p3:Nat)(cs:List Value)(R:Red)(l:List dS)(n:Nat)(ix:Value)(wr:World):Prop:=
 ∃k:Nat,k<=n/\ix= .int .i64 k/\Blk wr w.heap.size cs 67/\Blk wr (w.heap.size+1) CG 35/\Blk wr p3 (fP R l k).cells 35/\Below w.heap.size w wr
def Sv(w:World)(S:Nat->Prop)(x:List UInt8)(e:Ending)(w':World):Prop:=∃a n c,e= .returned (.slice a n c)/\au w' S a n c x/\Below w.heap.size w w'
end Go.Proofs.YtenmnhnlcnmloaaGreat
