/- Part of a proof of a law of the layer of trees. -/
import Derived.Test.YtenmnhnlcnmloaaGreatQa05
import Derived.Test.YtenmnhnlcnmloaaGreatQa01
import Derived.WalkMore
import Derived.Deep.MidRow
import Derived.Laws.AppendOwn
set_option linter.unusedVariables false
set_option linter.unusedSimpArgs false
set_option maxHeartbeats 8000000
set_option maxRecDepth 8000
namespace Go.Proofs.YtenmnhnlcnmloaaGreat
open Go.RowKit Go.Dav
attribute [local go_sem] Gives ite_val ay
theorem BU(c n s l m:Int)(w:World)(h:n<0\/c<n\/1073741824<c):
  Calls Tryz.prog 177 #[.agg #[.int .i64 c, .int .i64 n, .int .i64 (hi s), .int .u64 (lo s), .int .i64 l, .int .i64 m]] w λe w'=>
   e= .returned (.bool false)/\Below w.heap.size w w':=by
 by_cases h1:n<0
 .go_enter Tryz.func177,Tryz.ntmps177;go_wp2;go_ret;exact⟨rfl,bW⟩
 by_cases h2:c<n
 .go_enter Tryz.func177,Tryz.ntmps177;go_wp2;go_ret;exact⟨rfl,bW⟩
 have h3:1073741824<c:=oM;go_enter Tryz.func177,Tryz.ntmps177;go_wp2;go_ret;exact⟨rfl,bW⟩
theorem FX(c s l m:Int)(w:World)(h1:0<=c)(h2:c<=1073741824):
  Calls Tryz.prog 177 #[.agg #[.int .i64 c, .int .i64 0, .int .i64 (hi s), .int .u64 (lo s), .int .i64 l, .int .i64 m]] w λe w'=>
   e= .returned (.bool (decide (hi s=0/\lo s=0/\l=0/\m=0)))/\Below w.heap.size w w':=by
 generalize hb:decide (hi s=0/\lo s=0/\l=0/\m=0)=b;have Hb:=Hd hb;clear hb;generalize hi s=x1 at*;generalize lo s=x2 at*;go_enter Tryz.func177,Tryz.ntmps177;go_wp2;all_goals (go_ret;refine⟨bg ?_,bW⟩;have hb:=Hb.o;cases b<;>simp_all<;>omega)
theorem FY(c s l m:Int)(w:World)(h1:1<=c)(h2:c<=1073741824)(hl:I64 l):
  Calls Tryz.prog 177 #[.agg #[.int .i64 c, .int .i64 1, .int .i64 (hi s), .int .u64 (lo s), .int .i64 l, .int .i64 m]] w λe w'=>
   e= .returned (.bool (decide (l=m/\hi s=hi l/\lo s=lo l)))/\Below w.heap.size w w':=by
 generalize hb:decide (l=m/\hi s=hi l/\lo s=lo l)=b;have Hb:=Hd hb;clear hb;by_cases hlm:l=m
 .subst hlm;go_enter Tryz.func177,Tryz.ntmps177;go_wp2_with fail;refine' ah [.inl _, .inl _, .inl _, .inl _, .inl _, .inl _, .inl _, .inl _, .inl _, .inl _, .inl _, .inl _, .inl _, .inl _] kR kR ?dN
  case dN=>
   refine wD ?_;refine wE ?_;refine wD ?_;refine wE ?_;iterate 2 refine wD ?_
   refine wE ?_;refine wG (λW hE hN=>by go_simp;refine⟨Below.refl _ _,?_⟩;refine(kL _ _ _ _ _ _).mono ?_;rintro e w' ⟨rfl,hb⟩;refine⟨?_,hb⟩;rfl) ?_;refine wD ?_;refine wE ?_;refine wG (λW hE hN=>by go_simp;refine⟨Below.refl _ _,?_⟩;refine(vG _ _ hl).mono ?_;rintro e w' ⟨rfl,hb⟩;refine⟨?_,hb⟩;rfl) ?_;iterate 3 refine wD ?_
   refine aj λW1 hE1 hG1=>?_;have jC:=hE1.cF;have kK:=hE1.fF;go_wp2;all_goals (go_ret;refine⟨bg ?_,(by have hz:=hE1;exact bV)⟩;have hb:=Hb.o;cases b<;>simp_all<;>omega)
 .have Uz:(l==m)=false:=by simpa using hlm
  have hd:decide (l=m)=false:=by simpa using hlm
  go_enter Tryz.func177,Tryz.ntmps177;go_wp2_with fail;refine' ah [.inl _, .inl _, .inl _, .inl _, .inl _, .inl _, .inl undef, .inl undef, .inl undef, .inl undef, .inl undef, .inl undef, .inl _, .inl _] kR kR ?fZ
  case fZ=>
   refine wD ?_;refine wE ?_;refine wD ?_;refine wE ?_;iterate 2 refine wD ?_
   iterate 6 refine wS ?_
   iterate 2 refine wD ?_
   refine aj λW1 hE1 hG1=>?_;have jC:=hE1.cF;have kK:=hE1.fF;go_wp2;all_goals (go_ret;refine⟨bg ?_,(by have hz:=hE1;exact bV)⟩;have hb:=Hb.o;cases b<;>simp_all<;>omega)
theorem FZ(c n s l m:Int)(w:World)(h0:2<=n)(h1:n<=c)(h2:c<=1073741824)(hl:I64 l)(hm:I64 m):
  Calls Tryz.prog 177 #[.agg #[.int .i64 c, .int .i64 n, .int .i64 (hi s), .int .u64 (lo s), .int .i64 l, .int .i64 m]] w λe w'=>
   e= .returned (.bool (decide (l<=m)&&(!jB (l+m+l*(n-2)) s&& !jB s (l+m+m*(n-2)))))/\Below w.heap.size w w':=by
 generalize hb:(decide (l<=m)&&(!jB (l+m+l*(n-2)) s&& !jB s (l+m+m*(n-2))))=b;have Hb:=Hd hb;clear hb;have hk0:0<=n-2:=oM;have hk:I64 (n-2):=by unfold I64;omega
 have hkf:n-2<=((n-2).toNat:Int):=oM;have HKF:=Hd hkf;clear hkf;have hz1:(n==0)=false:=by simp;omega
 have hz2:(n==1)=false:=by simp;omega
 have hw:IntKind.i64.wrap (n-2)=n-2:=by rw[aZ];omega
 go_enter Tryz.func177,Tryz.ntmps177;go_wp2_with fail;refine' ah [.inl _, .inl _, .inl _, .inl _, .inl _, .inl _, .inl _, .inr (dA (w.heap.size+1) [.int .i64 0, .int .u64 0] 168)] kR kR ?iT
 case iT=>
  refine wD ?_;refine wE ?_;refine wG (λW hE hN=>by go_simp;refine⟨Below.refl _ _,?_⟩;refine(vG _ _ (by assumption)).mono ?_;rintro e w' ⟨rfl,hb⟩;refine⟨?_,hb⟩;rfl) ?_;refine wD ?_;refine wE ?_;refine wG (λW hE hN=>by go_simp;refine⟨Below.refl _ _,?_⟩;refine(vG _ _ (by assumption)).mono ?_;rintro e w' ⟨rfl,hb⟩;refine⟨?_,hb⟩;rfl) ?_;refine wG (λW hE hN=>by go_simp;refine⟨Below.refl _ _,?_⟩;refine(nG _ _ _).mono ?_;rintro e w' ⟨rfl,hb⟩;refine⟨?_,hb⟩;rfl) ?_;refine aG rfl (dA.later) (by rfl) (λW hE hN=>?_) (λu7=>?_)
  .go_simp;exact dB (cs:=[.int .i64 0, .int .u64 0]) (by have:=hE.size;simp at this;omega)
  simp only[Act.put,pB,pC,pD];refine aj λW1 hE1 hG1=>?_;have jC:=hE1.cF;have kK:=hE1.fF;obtain⟨p,rfl,hp,hblk⟩:=hG1.1;have s1:=hE1.size;simp at s1;have c0:=hblk.cell 0 rfl;have c1:=hblk.cell 1 rfl;have f0:=hblk.frozen 0;have f1:=hblk.frozen 1;have lp:=hblk.lt;have lw:=Nat.lt_of_lt_of_le (Nat.lt_succ_self _) s1;go_wp2_with fail;refine' ah [.inl _, .inl _, .inl _, .inl _, .inl _, .inl _, .inl _, .inl _, .inr (dA W1.heap.size [.int .i64 0, .int .u64 0] 168)] kR kR ?jI
  case jI=>
   refine wE ?_;refine wD ?_;refine wE ?_;refine wD ?_;refine wE ?_;refine wD ?_;refine wG (λW hE hN=>by go_simp;refine⟨Below.refl _ _,?_⟩;refine(zK (n-2).toNat _ _ _ HKF.o (by assumption) hk0 hk).mono ?_;rintro e w' ⟨rfl,hb⟩;refine⟨?_,hb⟩;rfl) ?_;refine wG (λW hE hN=>by go_simp;refine⟨Below.refl _ _,?_⟩;refine(nG _ _ _).mono ?_;rintro e w' ⟨rfl,hb⟩;refine⟨?_,hb⟩;rfl) ?_;refine aG rfl (dA.later) (by rfl) (λW hE hN=>?_) (λu8=>?_)
   .go_simp;exact dB (cs:=[.int .i64 0, .int .u64 0]) (by have:=hE.size;simp at this;omega)
   simp only[Act.put,pB,pC,pD];refine aj λW2 hE2 hG2=>?_;have QY:=hE2.cF;have QZ:=hE2.fF;obtain⟨q,rfl,hq,V4⟩:=hG2.1;have s2:=hE2.size;simp at s2;have d0:=V4.cell 0 rfl;have d1:=V4.cell 1 rfl;have g0:=V4.frozen 0;have g1:=V4.frozen 1;have lq:=V4.lt;have lp2:=Nat.lt_of_lt_of_le lp s2;have lw2:=Nat.lt_of_lt_of_le lw s2;have npq:p≠q:=oM;have nwq:w.heap.size≠q:=oM;have acC:q≠p:=oM;go_wp2_with fail;refine' ah [.inl _, .inl _, .inl _, .inl _, .inl _, .inl _, .inl _, .inl _, .inr (dA W2.heap.size [.int .i64 0, .int .u64 0] 168)] kR kR ?main5
   case main5=>
    refine wE ?_;refine wD ?_;refine wE ?_;refine wD ?_;refine wE ?_;refine wD ?_;refine wG (λW hE hN=>by go_simp;refine⟨Below.refl _ _,?_⟩;refine(zK (n-2).toNat _ _ _ HKF.o (by assumption) hk0 hk).mono ?_;rintro e w' ⟨rfl,hb⟩;refine⟨?_,hb⟩;rfl) ?_;refine wG (λW hE hN=>by go_simp;refine⟨Below.refl _ _,?_⟩;refine(nG _ _ _).mono ?_;rintro e w' ⟨rfl,hb⟩;refine⟨?_,hb⟩;rfl) ?_;refine aG rfl (dA.later) (by rfl) (λW hE hN=>?_) (λu8=>?_)
    .go_simp;exact dB (cs:=[.int .i64 0, .int .u64 0]) (by have:=hE.size;simp at this;omega)
    simp only[Act.put,pB,pC,pD];refine aj λW3 hE3 hG3=>?_;have L6:=hE3.cF;have L8:=hE3.fF;obtain⟨r,rfl,hr,V5⟩:=hG3.1;have s3:=hE3.size;simp at s3;have e0:=V5.cell 0 rfl;have e1:=V5.cell 1 rfl;have k0:=V5.frozen 0;have k1:=V5.frozen 1;have lr:=V5.lt;have lp3:=Nat.lt_of_lt_of_le lp2 s3;have lw3:=Nat.lt_of_lt_of_le lw2 s3;have lq3:=Nat.lt_of_lt_of_le lq s3;have npr:p≠r:=oM;have nqr:q≠r:=oM;have nwr:w.heap.size≠r:=oM;have nrp:r≠p:=oM;have nrq:r≠q:=oM;go_wp2_with fail;generalize ex:l+m+l*(n-2)=x at*;generalize ey:l+m+m*(n-2)=y at*;clear ex ey;by_cases hlm:l<=m
    .by_cases ha:jB x s=true
     .refine' ah [.inl _, .inl _, .inl _, .inl _, .inl _, .inl _, .inl _, .inl _, .inl _, .inl _, .inl _, .inl _, .inl _, .inl undef, .inl undef, .inl undef, .inl undef, .inl undef, .inl _, .inl _] kR kR ?nH
      case nH=>
       refine wD ?_;refine wE ?_;refine wD ?_;refine wE ?_;iterate 2 refine wD ?_
       refine wE ?_;refine wG (λW hE hN=>by go_simp;refine⟨Below.refl _ _,?_⟩;refine(kL _ _ _ _ _ _).mono ?_;rintro e w' ⟨rfl,hb⟩;refine⟨?_,hb⟩;rfl) ?_;refine wE ?_;refine wG (λW hE hN=>by go_simp;refine⟨Below.refl _ _,?_⟩;refine(xq _ _ _).mono ?_;rintro e w' ⟨rfl,hb⟩;refine⟨?_,hb⟩;rfl) ?_;iterate 3 refine wD ?_
       iterate 5 refine wS ?_
       iterate 2 refine wD ?_
       refine aj λW4 hE4 hG4=>?_;have L9:=hE4.cF;have Mc:=hE4.fF;go_wp2;all_goals (go_ret;refine⟨bg ?_,(by have hz:=hE4;have hy:=hE3;have hx:=hE2;have hw:=hE1;exact bU)⟩;have hb:=Hb.o;cases b<;>simp_all<;>omega)
     .have ha':jB x s=false:=by simpa using ha
      clear ha;refine' ah [.inl _, .inl _, .inl _, .inl _, .inl _, .inl _, .inl _, .inl _, .inl _, .inl _, .inl _, .inl _, .inl _, .inl _, .inl _, .inl _, .inl _, .inl _, .inl _, .inl _] kR kR ?uI
      case uI=>
       refine wD ?_;refine wE ?_;refine wD ?_;refine wE ?_;iterate 2 refine wD ?_
       refine wE ?_;refine wG (λW hE hN=>by go_simp;refine⟨Below.refl _ _,?_⟩;refine(kL _ _ _ _ _ _).mono ?_;rintro e w' ⟨rfl,hb⟩;refine⟨?_,hb⟩;rfl) ?_;refine wE ?_;refine wG (λW hE hN=>by go_simp;refine⟨Below.refl _ _,?_⟩;refine(xq _ _ _).mono ?_;rintro e w' ⟨rfl,hb⟩;refine⟨?_,hb⟩;rfl) ?_;iterate 3 refine wD ?_
       iterate 2 refine wE ?_
       refine wG (λW hE hN=>by go_simp;refine⟨Below.refl _ _,?_⟩;refine(kL _ _ _ _ _ _).mono ?_;rintro e w' ⟨rfl,hb⟩;refine⟨?_,hb⟩;rfl) ?_;refine wG (λW hE hN=>by go_simp;refine⟨Below.refl _ _,?_⟩;refine(xq _ _ _).mono ?_;rintro e w' ⟨rfl,hb⟩;refine⟨?_,hb⟩;rfl) ?_;iterate 3 refine wD ?_
       refine aj λW4 hE4 hG4=>?_;have L9:=hE4.cF;have Mc:=hE4.fF;go_wp2;all_goals (go_ret;refine⟨bg ?_,(by have hz:=hE4;have hy:=hE3;have hx:=hE2;have hw:=hE1;exact bU)⟩;have hb:=Hb.o;cases b<;>simp_all<;>omega)
    .have hd:decide (l<=m)=false:=by simpa using hlm
     refine' ah [.inl _, .inl _, .inl _, .inl _, .inl _, .inl _, .inl undef, .inl undef, .inl undef, .inl undef, .inl undef, .inl _, .inl _, .inl undef, .inl undef, .inl undef, .inl undef, .inl undef, .inl _, .inl _] kR kR ?uJ
     case uJ=>
      refine wD ?_;refine wE ?_;refine wD ?_;refine wE ?_;iterate 2 refine wD ?_
      iterate 5 refine wS ?_
      iterate 2 refine wD ?_
      iterate 5 refine wS ?_
      iterate 2 refine wD ?_
      refine aj λW4 hE4 hG4=>?_;have L9:=hE4.cF;have Mc:=hE4.fF;go_wp2;all_goals (go_ret;refine⟨bg ?_,(by have hz:=hE4;have hy:=hE3;have hx:=hE2;have hw:=hE1;exact bU)⟩;have hb:=Hb.o;cases b<;>simp_all<;>omega)
end Go.Proofs.YtenmnhnlcnmloaaGreat
namespace Go.Proofs.YtenmnhnlcnmloaaGreat
open Go.RowKit Go.Dav
theorem zL(r:Red)(w:World)(hl:I64 r.l)(hm:I64 r.m):
  Calls Tryz.prog 42 #[.agg #[.int .i64 r.c, .int .i64 r.n, .int .i64 (hi r.s), .int .u64 (lo r.s), .int .i64 r.l, .int .i64 r.m]] w λe w'=>
   e= .returned (.int .i64 (Jj r.ok))/\Below w.heap.size w w':=by
 unfold Red.ok VN;by_cases h:r.n<0\/r.c<r.n\/1073741824<r.c
 .rw[if_pos h];exact BR _ _ _ _ _ _ h
 rw[if_neg h];by_cases h0:r.n=0
 .rw[if_pos h0,h0];exact FU _ _ _ _ _ oM oM
 rw[if_neg h0];by_cases h1:r.n=1
 .rw[if_pos h1,h1];exact FV _ _ _ _ _ oM oM hl
 rw[if_neg h1];exact FW _ _ _ _ _ _ oM oM oM hl hm
theorem Jp(r:Red)(w:World)(hl:I64 r.l)(hm:I64 r.m):
  Calls Tryz.prog 177 #[.agg #[.int .i64 r.c, .int .i64 r.n, .int .i64 (hi r.s), .int .u64 (lo r.s), .int .i64 r.l, .int .i64 r.m]] w λe w'=>
   e= .returned (.bool r.ok)/\Below w.heap.size w w':=by
 unfold Red.ok VN;by_cases h:r.n<0\/r.c<r.n\/1073741824<r.c
 .rw[if_pos h];exact BU _ _ _ _ _ _ h
 rw[if_neg h];by_cases h0:r.n=0
 .rw[if_pos h0,h0];exact FX _ _ _ _ _ oM oM
 rw[if_neg h0];by_cases h1:r.n=1
 .rw[if_pos h1,h1];exact FY _ _ _ _ _ oM oM hl
 rw[if_neg h1];exact FZ _ _ _ _ _ _ oM oM oM hl hm
end Go.Proofs.YtenmnhnlcnmloaaGreat
namespace Go.Proofs.YtenmnhnlcnmloaaGreat
open Go.RowKit Go.Dav
attribute [local go_sem] Gives ite_val ay
def mY(W:World)(b o:Nat)(l:List Red):Prop:=
 ∀k r,l[k]? =some r->∀j v,r.cells[j]? =some v->W.cell? ⟨b,o+k*6+j,none⟩=some v
theorem uf:∀(l:List Red) (k:Nat) (r:Red),l[k]? =some r->∀(j:Nat) (v:Value),r.cells[j]? =some v->(l.flatMap Red.cells)[k*6+j]? =some v
 |[],k,r,h,_,_,_=>by simp at h
 |x::l,0,r,h,j,v,hj=>by
  have e:x=r:=by simpa using h
  subst e;have hlt:j<x.cells.length:=(List.getElem?_eq_some_iff.1 hj).1;rw[List.flatMap_cons,Nat.zero_mul,Nat.zero_add,List.getElem?_append_left hlt];exact hj
 |x::l,k+1,r,h,j,v,hj=>by
  have ih:=uf l k r (by simpa using h) j v hj;have hx:x.cells.length=6:=rfl;rw[List.flatMap_cons,List.getElem?_append_right (by rw[hx];omega),hx,show(k+1)*6+j-6=k*6+j by omega];exact ih
def Jq(w:World)(l:List Red)(ix ev:Value)(wr:World):Prop:=
 ∃k:Nat,k<=l.length/\ix= .int .i64 k/\ev= .int .i64 0/\(∀j r,j<k->l[j]? =some r->r.ok=true)/\
  Blk wr w.heap.size [.int .i64 0, .int .i64 0, .int .i64 0, .int .u64 0, .int .i64 0, .int .i64 0] 35/\
  Blk wr (w.heap.size+1) [.int .i64 0, .int .i64 0, .int .i64 0, .int .u64 0, .int .i64 0, .int .i64 0] 35/\Below w.heap.size w wr
def F5(w:World)(l:List Red)(ix:Value)(wr:World):Prop:=
 ∃(k:Nat) (acc:Red),k<=l.length/\ix= .int .i64 k/\joinL Red.zero l=joinL acc (l.drop k)/\acc.fine/\
  Blk wr w.heap.size [.int .i64 0, .int .i64 0, .int .i64 0, .int .u64 0, .int .i64 0, .int .i64 0] 35/\
  Blk wr (w.heap.size+1) acc.cells 35/\Below w.heap.size w wr
theorem OY(b o cap:Nat)(l:List Red)(w:World)(hl:(l.length:Int)<=9223372036854775807)(hb:b<w.heap.size)(hr:mY w b o l)(hf:∀r∈l,r.fits):
  Calls Tryz.prog 44 #[.slice (some ⟨b,o,none⟩) l.length cap] w λe w'=>
   e= .returned (.tuple #[.agg (joined l).1.cells.toArray, .int .i64 (joined l).2])/\Below w.heap.size w w':=by
 go_enter Tryz.func44,Tryz.ntmps44;go_wp2_with fail;go_step3;go_wp2_with fail;go_step3;go_wp2_with fail;go_loopw [13,4] (λix ev wr=>Jq w l ix ev wr) (λix _ _=>l.length-(intOf ix).toNat)
 case atStart=>
  refine⟨0,Nat.zero_le _,rfl,rfl,λj r hj=>oM,(Blk.new _ [_,_,_,_,_,_] _).alloc _,Blk.new' _ [_,_,_,_,_,_] _ (by simp),bW⟩
 case round=>
  obtain⟨k,hk,rfl,rfl,hok,hres,hout,hbel⟩:=hrel;have hbs:=hbel.size;have hbw:b<wr.heap.size:=oM;have lr:=hres.lt;have aaU:=hout.lt;by_cases hlt:k<l.length
  .obtain⟨r,hrk⟩:∃r,l[k]? =some r:=⟨_,List.getElem?_eq_getElem hlt⟩;have hfit:=hf r (List.mem_of_getElem? hrk);have q:∀j v,r.cells[j]? =some v->wr.cell? ⟨b,o+k*6+j,none⟩=some v:=λj v h=>by rw[hbel.cell (p:=⟨b,o+k*6+j,none⟩) hb];exact hr k r hrk j v h
   have q0:=q 0 _ rfl;rw[Nat.add_zero]at q0;have q1:=q 1 _ rfl;have q2:=q 2 _ rfl;have q3:=q 3 _ rfl;have q4:=q 4 _ rfl;have q5:=q 5 _ rfl;clear q;have hkl:(k:Int)<(l.length:Int):=oM;have HK:=Hd hk;clear hk;have HL:=Hd hlt;clear hlt;have HR:=Hd hrk;clear hrk;have HO:=Hd hok;clear hok;have HRR:=Hd hr;clear hr;have HF:=Hd hf;clear hf;go_wp2_with fail;refine(zL r _ hfit.2.2.1 hfit.2.2.2).mono ?_;rintro e w1 ⟨rfl,hb1⟩;obtain⟨hc1,hf1,hs1⟩:=after hb1;simp at hs1;have nC:w.heap.size<w1.heap.size:=oM;have nD:w.heap.size<w1.heap.size+1:=oM;have F6:w.heap.size+1<w1.heap.size:=oM;have F7:w.heap.size+1<w1.heap.size+1:=oM;have uK:=(hres.alloc _).ext hb1;have hout1:=(hout.alloc _).ext hb1;have xu:Below w.heap.size w w1:=(by have hz:=hb1;have hy:=hbel;exact bY);by_cases hv:r.ok=true
   .have er:Jj r.ok=0:=by rw[hv];rfl
    rw[er];go_wp2_with fail;go_roundw
    case rel=>
     refine⟨k+1,HL.o,by go_num,rfl,λj r' hj h=>?_,uK,hout1,xu⟩;by_cases e:j=k
     .subst e;rw[HR.o]at h;cases h;exact hv
     .exact HO.o j r' oM h
    case measure=>have:=HL.o;simp[intOf];omega
   .have er:Jj r.ok=230:=by unfold Jj;rw[if_neg hv]
    rw[er];clear hc1 hf1;have r0:=uK.cell 0 rfl;have r1:=uK.cell 1 rfl;have r2:=uK.cell 2 rfl;have r3:=uK.cell 3 rfl;have r4:=uK.cell 4 rfl;have r5:=uK.cell 5 rfl;have g0:=uK.frozen 0;have g1:=uK.frozen 1;have g2:=uK.frozen 2;have g3:=uK.frozen 3;have g4:=uK.frozen 4;have g5:=uK.frozen 5;go_wp2;rw[Exit.noGoto_ret];have hj:joined l=(Red.zero,230):=by
     unfold joined;rw[if_neg];intro hc;exact hv (List.all_eq_true.1 hc r (List.mem_of_getElem? HR.o))
    refine bodyPost_ret (v:= .tuple #[.agg #[.int .i64 0, .int .i64 0, .int .i64 0, .int .u64 0, .int .i64 0, .int .i64 0], .int .i64 230]) (by simp[results,Tryz.results44,go_sem,r0,r1,r2,r3,r4,r5]) rfl ⟨by rw[hj];simp[Red.zero,Red.cells,jF,jG],?_⟩;exact(by have hz:=xu;exact bV)
  .have hkl:k=l.length:=oM;subst hkl;have hall:l.all Red.ok=true:=List.all_eq_true.2 λr hr=>by
    obtain⟨j,hj,e⟩:=List.mem_iff_getElem.1 hr;exact hok j r hj (by rw[List.getElem?_eq_getElem hj,e])
   have HO:=Hd hok;clear hok;have HA:=Hd hall;clear hall;have HRR:=Hd hr;clear hr;have HF:=Hd hf;clear hf;clear hk hlt;go_wp2_with fail;go_loopw [28] (λix wr2=>F5 w l ix wr2) (λix _=>l.length-(intOf ix).toNat)
   case atStart=>
    refine⟨0,Red.zero,Nat.zero_le _,rfl,rfl,Red.OC,hres,?_,hbel⟩;have:=hout;simpa[Red.zero,Red.cells,jF,jG]using this
   case round=>
    obtain⟨k,acc,hk,rfl,hacc,UA,hres,hout,hbel⟩:=hrel;have hbs:=hbel.size;have hbw:b<wr.heap.size:=oM;have lr:=hres.lt;have aaU:=hout.lt;have r0:=hres.cell 0 rfl;have r1:=hres.cell 1 rfl;have r2:=hres.cell 2 rfl;have r3:=hres.cell 3 rfl;have r4:=hres.cell 4 rfl;have r5:=hres.cell 5 rfl;have g0:=hres.frozen 0;have g1:=hres.frozen 1;have g2:=hres.frozen 2;have g3:=hres.frozen 3;have g4:=hres.frozen 4;have g5:=hres.frozen 5;have p0:=hout.frozen 0;have p1:=hout.frozen 1;have p2:=hout.frozen 2;have p3:=hout.frozen 3;have p4:=hout.frozen 4;have p5:=hout.frozen 5;have o0:=hout.cell 0 rfl;have o1:=hout.cell 1 rfl;have o2:=hout.cell 2 rfl;have o3:=hout.cell 3 rfl;have o4:=hout.cell 4 rfl;have o5:=hout.cell 5 rfl;by_cases hlt:k<l.length
    .obtain⟨r,hrk⟩:∃r,l[k]? =some r:=⟨_,List.getElem?_eq_getElem hlt⟩;have hfit:=HF.o r (List.mem_of_getElem? hrk);have Yc:r.ok=true:=HO.o k r hlt hrk;have hrf:=Red.Uw Yc;have hdrop:l.drop k=r::l.drop (k+1):=by
      rw[List.getElem?_eq_getElem hlt]at hrk;cases hrk;exact List.drop_eq_getElem_cons hlt
     have q:∀j v,r.cells[j]? =some v->wr.cell? ⟨b,o+k*6+j,none⟩=some v:=λj v h=>by rw[hbel.cell (p:=⟨b,o+k*6+j,none⟩) hb];exact HRR.o k r hrk j v h
     have q0:=q 0 _ rfl;rw[Nat.add_zero]at q0;have q1:=q 1 _ rfl;have q2:=q 2 _ rfl;have q3:=q 3 _ rfl;have q4:=q 4 _ rfl;have q5:=q 5 _ rfl;clear q;have hkl:(k:Int)<(l.length:Int):=oM;have hsub:IntKind.i64.wrap (1073741824-r.c)=1073741824-r.c:=by rw[aZ];unfold Red.fine at hrf;omega
     have HD:=Hd hdrop;clear hdrop;have HK:=Hd hk;clear hk;have HL:=Hd hlt;clear hlt;have HR:=Hd hrk;clear hrk;have HC:=Hd hacc;clear hacc;have HV:=Hd Yc;clear Yc;have HS:=Hd UA;clear UA;have HRF:=Hd hrf;clear hrf;by_cases hov:1073741824-r.c<acc.c
     .go_wp2;rw[Exit.noGoto_ret];have hj:joined l=(Red.zero,5):=by
       unfold joined;rw[if_pos HA.o,HC.o,HD.o,joinL,if_pos hov]
      refine bodyPost_ret (v:= .tuple #[.agg #[.int .i64 0, .int .i64 0, .int .i64 0, .int .u64 0, .int .i64 0, .int .i64 0], .int .i64 5]) (by simp[results,Tryz.results44,go_sem,lr,r0,r1,r2,r3,r4,r5]) rfl ⟨by rw[hj];simp[Red.zero,Red.cells,jF,jG],?_⟩;exact(by have hz:=hbel;exact bV)
     .go_wp2_with fail;(with_reducible refine(OO acc.c acc.n acc.s acc.l acc.m r.c r.n r.s r.l r.m _ (Red.TP HS.o) (Red.TP HRF.o) (by have h1:=HS.o;have h2:=HRF.o;unfold Red.fine at h1 h2;rw[aZ];omega)
       (by have h1:=HS.o;have h2:=HRF.o;unfold Red.fine at h1 h2;rw[aZ];omega)).mono ?_);rintro e w1 ⟨rfl,hb1⟩;obtain⟨hc1,hf1,hs1⟩:=after hb1
      simp at hs1;have nC:w.heap.size<w1.heap.size:=oM;have nD:w.heap.size<w1.heap.size+1:=oM;have F6:w.heap.size+1<w1.heap.size:=oM;have F7:w.heap.size+1<w1.heap.size+1:=oM;have uK:=(hres.alloc _).ext hb1;have hout1:=(hout.alloc _).ext hb1;have xu:Below w.heap.size w w1:=(by have hz:=hb1;have hy:=hbel;exact bY);go_wp2_with fail;go_roundw
      case rel=>
       refine⟨k+1,acc.both r,HL.o,by go_num,?_,Red.OD HS.o HRF.o (Int.not_lt.2 hov),?_,?_,?_⟩
       .rw[HC.o,HD.o,joinL,if_neg (Int.not_lt.2 hov)]
       .exact(((((uK.other oM _ _).other oM _ _).other oM _ _).other oM _ _).other oM _ _).other oM _ _
       .exact(((((hout1.set 0 _).set 1 _).set 2 _).set 3 _).set 4 _).set 5 _
       .exact(by have hz:=xu;exact bV)
      case measure=>have:=HL.o;simp[intOf];omega
    .have hkl:k=l.length:=oM;subst hkl;have hj:joined l=(acc,0):=by
      unfold joined;rw[if_pos HA.o,hacc,List.drop_length];rfl
     have HJ:=Hd hj;clear hj;clear hacc hk hlt UA;go_wp2;rw[Exit.noGoto_ret];refine bodyPost_ret (v:= .tuple #[.agg #[.int .i64 acc.c, .int .i64 acc.n, .int .i64 (hi acc.s), .int .u64 (lo acc.s), .int .i64 acc.l, .int .i64 acc.m], .int .i64 0]) (by simp[results,Tryz.results44,go_sem,lr,r0,r1,r2,r3,r4,r5]) rfl ⟨by rw[HJ.o];rfl,?_⟩;exact(by have hz:=hbel;exact bV)
theorem Md(b o n cap:Nat)(l:List Red)(w:World)(hn:l.length=n)(hl:(n:Int)<=9223372036854775807)(hb:b<w.heap.size)(hr:mY w b o l)(hf:∀r∈l,r.fits):
  Calls Tryz.prog 44 #[.slice (some ⟨b,o,none⟩) n cap] w λe w'=>
   e= .returned (.tuple #[.agg (joined l).1.cells.toArray, .int .i64 (joined l).2])/\Below w.heap.size w w':=by
 subst hn;exact OY b o cap l w hl hb hr hf
theorem zM{W W':World}{B b o:Nat}{l:List Red}(h:mY W b o l)(hb:Below B W W')(hlt:b<B):mY W' b o l:=λi r hi j v hj=>by
 rw[hb.cell (p:=⟨b,o+i*6+j,none⟩) hlt];exact h i r hi j v hj
theorem Es{W:World}{B n:Nat}{v:Value}{l:List Red}(h:W.ownsRow B 35 6 v n (l.flatMap Red.cells))(hn:0<n):
  ∃g cap,v= .slice (some ⟨g,0,none⟩) n cap/\B<=g/\g<W.heap.size/\n<=cap/\mY W g 0 l:=by
 rcases h.2 with⟨_,h0⟩|⟨g,cap,cur,hv,hg,hh,hc,_⟩
 .omega
 .refine⟨g,cap,hv,hg,(Array.getElem?_eq_some_iff.1 hh).1,hc,λk r hk j u hj=>?_⟩;have:=h.cells (g:=g) (by rw[hv];rfl) _ _ (uf l k r hk j u hj);rw[Addr.add_mid]at this;rw[Nat.add_assoc];exact this
end Go.Proofs.YtenmnhnlcnmloaaGreat
