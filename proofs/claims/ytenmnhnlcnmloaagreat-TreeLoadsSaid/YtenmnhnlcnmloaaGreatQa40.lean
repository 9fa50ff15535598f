/- Part of a proof of a law of the layer of trees. -/
import Derived.Test.YtenmnhnlcnmloaaGreatQa39
import Derived.RegionTactic
import Derived.BigRegion
import Derived.Test.YtenmnhnlcnmloaaGreatQa22
import Derived.Test.YtenmnhnlcnmloaaGreatQa01
set_option linter.unusedVariables false
set_option linter.unusedSimpArgs false
set_option maxHeartbeats 8000000
set_option maxRecDepth 8000
namespace Go.Dav
open Go Go.RowKit
structure pY where
 ahead:List UInt8
 items:List aP
 dK:List Int
 hu:iE
structure Bo(W:World)(S:Nat->Prop)(aa:Option Addr)(an ac:Nat)(ia:Option Addr)(il ic:Nat)(na:Option Addr)(fn fnc:Nat)(b:pY):Prop where
 ahead:au W S aa an ac b.ahead
 items:aY W S ia il ic b.items
 dK:bP W S na fn (Ot b.dK)
 aat:fn<=fnc
 aau:fn<=140737488355328
 k1:eY b.hu.kind
 k2:eY b.hu.node
theorem Bo.ext{W W':World}{S:Nat->Prop}{aa ia na:Option Addr}{an ac il ic fn fnc:Nat}{b:pY}(h:Bo W S aa an ac ia il ic na fn fnc b)(hb:Below W.heap.size W W'):Bo W' S aa an ac ia il ic na fn fnc b:=⟨h.ahead.ext hb,h.items.ext1 hb,h.dK.ext hb,h.aat,h.aau,h.k1,h.k2⟩
def NZ(b:pY):aB:=⟨b.ahead.take 300,[],-1,-1,false⟩
def QJ(b:pY):List aP:=Fa (b.items.take 60)
def qW(b:pY):aB×mP:=qU (NZ b) (QJ b) b.dK b.hu
theorem Bq(b:pY):(NZ b).right=true:=by
 refine aB.cZ.2 ⟨rfl,?_,?_,λh=>?_,?_⟩
 .show(-1:Int)<= -1;omega
 .show(-1:Int)<= -1;omega
 .exact rfl
 .unfold NZ aB.many;simp only[List.map_nil,List.sum_nil,List.length_take];omega
theorem TA{O:List aP}{x:aP}(h:O.all fD=true):(mV O x).all fD=true/\(mV O x).length<=O.length+1:=by
 unfold mV;split
 .exact⟨h,oM⟩
 .rename_i hh;have hx:fD x=true:=by cases hq:fD x with
   |true=>rfl
   |false=>exact(hh (.inl hq)).elim
  have hm:=List.all_eq_true.1 h;refine⟨List.all_eq_true.2 λy hy=>?_,?_⟩
  .rcases List.mem_append.1 hy with hy|hy
   .exact hm y (List.mem_of_mem_take hy)
   .rcases List.mem_cons.1 hy with rfl|hy
    .exact hx
    .exact hm y (List.mem_of_mem_drop hy)
  .rw[List.length_append,List.length_cons,List.length_take,List.length_drop];omega
theorem IZ:∀(l O:List aP),O.all fD=true->(l.foldl mV O).all fD=true/\(l.foldl mV O).length<=O.length+l.length
 |[],O,h=>⟨h,Nat.le_refl _⟩
 |x::l,O,h=>by
  obtain⟨h1,h2⟩:=TA (x:=x) h;obtain⟨h3,h4⟩:=IZ l (mV O x) h1;exact⟨h3,by rw[List.foldl_cons,List.length_cons];omega⟩
theorem Fp(b:pY):(QJ b).all fD=true/\(QJ b).length<=60:=by
 obtain⟨h1,h2⟩:=IZ (b.items.take 60) [] rfl;refine⟨h1,Nat.le_trans h2 ?_⟩;rw[List.length_take];simp;omega
def Bv(w:World)(S:Nat->Prop)(b:pY)(e:Ending)(w':World):Prop:=
 ∃fa fl fc la ll lc ra rn rc,e= .returned (.tuple #[.agg #[.slice fa fl fc, .slice la ll lc, .int .i64 (qW b).1.fuse, .int .i64 (qW b).1.fault, .bool (qW b).1.off], .agg (fU (qW b).2).toArray, .slice ra rn rc])/\fB w' (Or S w) fa fl fc la ll lc (qW b).1/\aY w' (Or S w) ra rn rc (QJ b)/\Below w.heap.size w w'
theorem step_ok{hu:iE}{N:aT}{s:nR}{many:Nat}{B:Int}(hN:pX hu s.number B N)(hB:1<=B)(hr:s.file.right=true)(hk:∀k∈s.kids,uq hu s.number (7*B) k):(jW N hu s many).file.right=true/\∀k∈(jW N hu s many).kids,uq hu (jW N hu s many).number (7*B) k:=by
 obtain⟨h1,h2⟩:=Fj hr hN hB;refine⟨h1,λk hm=>?_⟩;rcases List.mem_append.1 hm with hm|hm
 .exact(hk k hm).next
 .rw[List.mem_singleton.1 hm];exact h2
theorem I4{l:List aP}{hu:iE}(hok:l.all fD=true)(hin:∀x∈l,eY x.n):∀(P:List Nat) (s:nR),(∀m∈P,1<=m/\m<=6)->s.from_+P.sum<=l.length->s.file.right=true->(∀k∈s.kids,uq hu s.number 7 k)->
  (iO l hu P s).file.right=true/\(∀k∈(iO l hu P s).kids,uq hu (iO l hu P s).number 7 k)/\(iO l hu P s).kids.length=s.kids.length+P.length/\(iO l hu P s).number=s.number+P.length
 |[],s,_,_,hr,hk=>⟨hr,hk,rfl,rfl⟩
 |m::P,s,hm,hs,hr,hk=>by
  rw[List.sum_cons]at hs;have hN:pX hu s.number 1 (xM l hu s m):=IY hok hin oM (hm m (by simp));obtain⟨h1,h2⟩:=step_ok (many:=m) hN oM hr hk;rw[iO];obtain⟨t,ht⟩:∃t,jW (xM l hu s m) hu s m=t:=⟨_,rfl⟩;have e1:t.from_=s.from_+m/\t.kids.length=s.kids.length+1/\t.number=s.number+1:=by rw[<- ht];unfold jW;simp
  rw[ht]at h1 h2⊢;obtain⟨g1,g2,g3,g4⟩:=I4 hok hin P t (λx hx=>hm x (by simp[hx])) oM h1 h2;exact⟨g1,g2,by rw[g3,e1.2.1,List.length_cons];omega,by rw[g4,e1.2.2,List.length_cons];omega⟩
theorem LM{all:List dS}{hu:iE}{d num:Nat}{B:Int}(hB:1<=B)(ha:∀k∈all,uq hu num B k):∀(P:List Nat) (s:nR),num<=s.number->(∀m∈P,1<=m/\m<=6)->s.from_+P.sum<=all.length->s.file.right=true->(∀k∈s.kids,uq hu s.number (7*B) k)->
  (pK all hu d P s).file.right=true/\(∀k∈(pK all hu d P s).kids,uq hu (pK all hu d P s).number (7*B) k)/\(pK all hu d P s).kids.length=s.kids.length+P.length/\(pK all hu d P s).number=s.number+P.length
 |[],s,_,_,_,hr,hk=>⟨hr,hk,rfl,rfl⟩
 |m::P,s,hn,hm,hs,hr,hk=>by
  rw[List.sum_cons]at hs;have hN:pX hu s.number B ⟨false,[],rowP all hu d s m⟩:=LK (λk hx=>(ha k hx).later hn) oM (hm m (by simp)) hr;obtain⟨h1,h2⟩:=step_ok (many:=m) hN hB hr hk;rw[pK];obtain⟨t,ht⟩:∃t,jW ⟨false,[],rowP all hu d s m⟩ hu s m=t:=⟨_,rfl⟩;have e1:t.from_=s.from_+m/\t.kids.length=s.kids.length+1/\t.number=s.number+1:=by rw[<- ht];unfold jW;simp
  rw[ht]at h1 h2⊢;obtain⟨g1,g2,g3,g4⟩:=LM hB ha P t oM (λx hx=>hm x (by simp[hx])) oM h1 h2;exact⟨g1,g2,by rw[g3,e1.2.1,List.length_cons];omega,by rw[g4,e1.2.2,List.length_cons];omega⟩
theorem LP{d n:Nat}(h:2^d<=n)(hn:n<=1000):d<=9:=by
 refine Nat.le_of_not_lt λhd=>?_;have h1:2^10<=2^d:=Nat.pow_le_pow_right oM hd;omega
theorem I5{dK:List Int}{hu:iE}{n:Nat}(hn:n<=1000):∀(fuel d:Nat) (s:nR),s.file.right=true->(∀k∈s.kids,uq hu s.number (7^(d+1)) k)->1<=s.kids.length->2^d*s.kids.length<=n->
  (jg dK hu fuel d s).1.file.right=true/\(∀k∈(jg dK hu fuel d s).1.kids,uq hu (jg dK hu fuel d s).1.number (7^((jg dK hu fuel d s).2+1)) k)/\1<=(jg dK hu fuel d s).1.kids.length/\(jg dK hu fuel d s).2<=9
 |0,d,s,hr,hk,h1,hp=>⟨hr,hk,h1,by
  have:=Nat.mul_le_mul (Nat.le_refl (2^d)) h1;exact LP (d:=d) (n:=n) oM hn⟩
 |fuel+1,d,s,hr,hk,h1,hp=>by
  by_cases h2:1<s.kids.length
  .rw[Bh h2];have hd8:=Ec hp h2 hn;obtain⟨_,hB⟩:=Bl hd8;obtain⟨P,hP⟩:∃P,fJ dK s.kids.length 0 s.kids.length=P:=⟨_,rfl⟩;have p1:=sF dK s.kids.length 0 s.kids.length (Nat.le_refl _);have p2:=pW dK s.kids.length 0 s.kids.length (Nat.le_refl _);have p3:=xP dK 0 (show 2<=s.kids.length by omega);have p4:=wK dK 0 h1;rw[hP]at p1 p2 p3 p4⊢;obtain⟨g1,g2,g3,g4⟩:=LM (d:=d) hB hk P ⟨s.file,[],s.number,0⟩ (Nat.le_refl _) p1 (by show 0+P.sum<=_;omega) hr (λk hx=>by cases hx);have g3':(pK s.kids hu d P ⟨s.file,[],s.number,0⟩).kids.length=P.length:=by rw[g3];simp
   refine I5 hn fuel (d+1) _ g1 (λk hx=>?_) (by rw[g3'];exact p4) ?_
   .rw[Int.pow_succ 7 (d+1),Int.mul_comm];exact g2 k hx
   .rw[g3',Nat.pow_succ,Nat.mul_assoc];exact Nat.le_trans (Nat.mul_le_mul_left _ p3) hp
  .rw[Bj h2];exact⟨hr,hk,h1,by
    have:=Nat.mul_le_mul (Nat.le_refl (2^d)) h1;exact LP (d:=d) (n:=n) oM hn⟩
theorem Vg:∀ {d:Nat},d<=9->(7:Int)^(d+1)<=282475249
 |9,_=>by decide
 |d,h=>by
  by_cases h9:d=9
  .subst h9;decide
  .have:=(Bl (d:=d) oM).1;omega
theorem Vh{F:aB}{l:List aP}{dK:List Int}{hu:iE}(hr:F.right=true)(hok:l.all fD=true)(hin:∀x∈l,eY x.n)(hn:l.length<=1000):
  (qU F l dK hu).1.right=true/\0<=(qU F l dK hu).2.at_/\(qU F l dK hu).2.at_<=1000000/\0<=(qU F l dK hu).2.depth/\(qU F l dK hu).2.depth<=9/\(qU F l dK hu).2.red.good/\(qU F l dK hu).2.red.c<=282475249:=by
 by_cases hl:l=[]
 .subst hl;unfold qU;rw[if_pos rfl];exact⟨hr,Int.le_refl _,by show(0:Int)<=1000000;omega,Int.le_refl _,by show(0:Int)<=9;omega,Red.zC,by show(0:Int)<=282475249;omega⟩
 .have hpos:=List.length_pos_iff.2 hl;obtain⟨P,hP⟩:∃P,fJ dK l.length 0 l.length=P:=⟨_,rfl⟩;have p1:=sF dK l.length 0 l.length (Nat.le_refl _);have p2:=pW dK l.length 0 l.length (Nat.le_refl _);have p3:=IW dK l.length 0;have p4:=wK dK 0 hpos;rw[hP]at p1 p2 p3 p4;obtain⟨g1,g2,g3,g4⟩:=I4 hok hin P ⟨F,[],0,0⟩ p1 (by show 0+P.sum<=_;omega) hr (λk hx=>by cases hx);have g3':(iO l hu P ⟨F,[],0,0⟩).kids.length=P.length:=by rw[g3];simp
  obtain⟨k1,k2,k3,k4⟩:=I5 (dK:=dK) hn (iO l hu P ⟨F,[],0,0⟩).kids.length 0 (iO l hu P ⟨F,[],0,0⟩) g1 (by simpa using g2) oM (by rw[Nat.pow_zero,Nat.one_mul];omega);unfold qU;rw[if_neg hl,hP];obtain⟨⟨s,d⟩,hR⟩:∃R,jg dK hu (iO l hu P ⟨F,[],0,0⟩).kids.length 0 (iO l hu P ⟨F,[],0,0⟩)=R:=⟨_,rfl⟩;rw[hR]at k1 k2 k3 k4⊢;dsimp only at k1 k2 k3 k4⊢;obtain⟨k,rest,hkr⟩:=List.length_pos_iff_exists_cons.1 k3;rw[hkr]at k2⊢;have hk:=k2 k (by simp);have h10:=Vg k4;exact⟨k1,hk.at0,hk.at1,by dsimp only;omega,by dsimp only;omega,hk.red,Int.le_trans hk.few h10⟩
theorem Vj(b:pY)(hin:∀x∈b.items,eY x.n):(qW b).1.right=true/\0<=(qW b).2.at_/\(qW b).2.at_<=1000000/\0<=(qW b).2.depth/\(qW b).2.depth<=9/\(qW b).2.red.good/\(qW b).2.red.c<=282475249:=by
 obtain⟨h1,h2⟩:=Fp b;refine Vh (Bq b) h1 (λx hx=>?_) oM;have key:∀(l O:List aP),(∀x∈O,eY x.n)->(∀x∈l,eY x.n)->∀x∈l.foldl mV O,eY x.n:=by
  intro l;induction l with
  |nil=>intro O h _;exact h
  |cons y l ih=>
   intro O h hl;refine ih _ (λz hz=>?_) (λz hz=>hl z (by simp[hz]));unfold mV at hz;split at hz
   .exact h z hz
   .rcases List.mem_append.1 hz with hz|hz
    .exact h z (List.mem_of_mem_take hz)
    .rcases List.mem_cons.1 hz with rfl|hz
     .exact hl z (by simp)
     .exact h z (List.mem_of_mem_drop hz)
 exact key (b.items.take 60) [] (λx hx=>by cases hx) (λx hx=>hin x (List.mem_of_mem_take hx)) x hx
theorem Bz:∀(l:List aP),lW l l=true
 |[]=>rfl
 |x::l=>by unfold lW;rw[Bz l,Bool.and_true];unfold oh;simp
theorem BA:∀(l:List dS),lX l l=true
 |[]=>rfl
 |x::l=>by unfold lX;rw[BA l,Bool.and_true];unfold uT je;simp
theorem Ed(N:aT):pJ N N=true:=by unfold pJ;rw[Bz,BA];simp
end Go.Dav
namespace Go.Proofs.YtenmnhnlcnmloaaGreat
open Go.RowKit Go.Dav
attribute [local go_sem] Gives dG ite_val ay
theorem I7(b:pY)(aa ia na:Option Addr)(an ac il ic fn fnc:Nat)(w:World)(S:Nat->Prop)(hB:Bo w S aa an ac ia il ic na fn fnc b)(hS:∀b,S b->b<w.heap.size):
  Calls Tryz.prog 20 #[.agg #[.slice aa an ac, .slice ia il ic, .slice na fn fnc, .int .i64 b.hu.kind, .int .i64 b.hu.node]] w (Bv w S b):=by
 have b0:Below w.heap.size w (((w.alloc (.cells #[.slice aa an ac, .slice ia il ic, .slice na fn fnc, .int .i64 b.hu.kind, .int .i64 b.hu.node] 55)).alloc (.cells #[.slice none 0 0, .slice none 0 0, .int .i64 0, .int .i64 0, .bool false] 32)).alloc (.cells #[.int .i64 0, .int .i64 0, .int .i64 0, .int .i64 0, .int .i64 0, .int .u64 0, .int .i64 0, .int .i64 0] 37)):=bW;obtain⟨W0,hW0⟩:∃W0,((w.alloc (.cells #[.slice aa an ac, .slice ia il ic, .slice na fn fnc, .int .i64 b.hu.kind, .int .i64 b.hu.node] 55)).alloc (.cells #[.slice none 0 0, .slice none 0 0, .int .i64 0, .int .i64 0, .bool false] 32)).alloc (.cells #[.int .i64 0, .int .i64 0, .int .i64 0, .int .i64 0, .int .i64 0, .int .u64 0, .int .i64 0, .int .i64 0] 37)=W0:=⟨_,rfl⟩;have q0:Blk W0 w.heap.size [.slice aa an ac, .slice ia il ic, .slice na fn fnc, .int .i64 b.hu.kind, .int .i64 b.hu.node] 55:=by rw[<- hW0];exact((Blk.new _ _ _).alloc _).alloc _
 have q1:Blk W0 (w.heap.size+1) [.slice none 0 0, .slice none 0 0, .int .i64 0, .int .i64 0, .bool false] 32:=by rw[<- hW0];exact(Blk.new' _ _ _ (by simp)).alloc _
 have q2:Blk W0 (w.heap.size+1+1) [.int .i64 0, .int .i64 0, .int .i64 0, .int .i64 0, .int .i64 0, .int .u64 0, .int .i64 0, .int .i64 0] 37:=by rw[<- hW0];exact Blk.new' _ _ _ (by simp)
 have hsz:w.heap.size+3=W0.heap.size:=by rw[<- hW0];simp
 rw[hW0]at b0;have hbs:=hB.ext b0;have HBS:=Hd hbs;have HB0:=Hd b0;have HQ0:=Hd q0;have HQ1:=Hd q1;have HQ2:=Hd q2;have HS:=Hd hS;have HSZ:=Hd hsz;obtain⟨hL,Xq⟩:∃L,QJ b=L:=⟨_,rfl⟩;have HLD:=Hd Xq;obtain⟨bk,hbk⟩:∃z,b.hu.kind=z:=⟨_,rfl⟩;obtain⟨bn,hbn⟩:∃z,b.hu.node=z:=⟨_,rfl⟩;have HHU:=Hd (And.intro hbk hbn);obtain⟨a3,ha3⟩:∃m,min an 300=m:=⟨_,rfl⟩;obtain⟨i6,hi6⟩:∃m,min il 60=m:=⟨_,rfl⟩;have va:(if (300:Int)<(an:Int)then(300:Int)else(an:Int))=(a3:Int):=by split<;>omega
 have vi:(if (60:Int)<(il:Int)then(60:Int)else(il:Int))=(i6:Int):=by split<;>omega
 have cap1:=hbs.ahead.at_.hcap;have cap2:=hbs.items.hcap;have e1:a3<=ac:=oM;have e1':(a3:Int)<=(ac:Int):=oM;have e2:i6<=ic:=oM;have e2':(i6:Int)<=(ic:Int):=oM;have HA3:=Hd (show au W0 S aa a3 ac (b.ahead.take 300) by
  have h:=hbs.ahead.takeC (k:=a3) oM;rwa [show b.ahead.take a3=b.ahead.take 300 by rw[List.take_eq_take_iff];have:=hbs.ahead.at_.hlen;omega]at h)
 have HI6:=Hd (show aY W0 S ia i6 ic (b.items.take 60) by
  have h:=hbs.items.SV (k:=i6) oM;rwa [show b.items.take i6=b.items.take 60 by rw[List.take_eq_take_iff];have:=hbs.items.hlen;omega]at h)
 have c0:=q0.cells;have l0:=q0.lt;have ab5:=Hd (show i6<=60 by omega);rw[hbk,hbn]at c0;clear ha3 hi6 hbs hB hS b0 q0 q1 q2 Xq cap1 cap2 hsz;rw[hbk,hbn]at hW0⊢;clear hbk hbn;go_enter Tryz.func20,Tryz.ntmps20;go_wp2_with fail;refine(MH aa a3 ac (b.ahead.take 300) S W0 HA3.o).mono ?_;rintro e W1 ⟨ca,cn,cc,rfl,hC,hb1⟩;have HC:=Hd (hC.bound);have B1:=Hd (HB0.o.trans (hb1.mono HB0.o.size));have HS1:=Hd hb1.size;have E1:=Hd hb1;have XT:=Hd (HQ0.o.ext hb1);have Q8:=Hd (HQ1.o.ext hb1);have U2:=Hd (HQ2.o.ext hb1);have HI1:=Hd (HI6.o.ext1 hb1);clear hC hb1 HQ0 HQ1 HQ2 HI6 HA3 c0 l0;go_upto_region 2 with fail;clear hW0;obtain⟨W2,hW2⟩:∃W2,W1.alloc (.cells #[.slice ca cn cc, .slice none 0 0, .int .i64 (-1), .int .i64 (-1), .bool false] 32)=W2:=⟨_,rfl⟩;have hb2:Below W1.heap.size W1 W2:=by rw[<- hW2];exact(Below.refl _ _).alloc (Nat.le_refl _) _
 have h5:Blk W2 W1.heap.size [.slice ca cn cc, .slice none 0 0, .int .i64 (-1), .int .i64 (-1), .bool false] 32:=by rw[<- hW2];exact Blk.new _ _ _
 have hs2:W2.heap.size=W1.heap.size+1:=by rw[<- hW2];simp
 rw[hW2];have HF2:=Hd (show fB W2 (λb=>W0.heap.size<=b/\b<W1.heap.size) ca cn cc none 0 0 (NZ b)from⟨HC.o.ext hb2,gK.nil_,by show eY (-1);unfold eY;omega,by show eY (-1);unfold eY;omega⟩);have H52:=Hd h5;have B2:=Hd (B1.o.trans (hb2.mono B1.o.size));have HS2:=Hd hs2;have E2:=Hd (E1.o.trans (hb2.mono E1.o.size));have h02:=XT.o.ext hb2;have aav:=Hd h02;have Xf:=Hd (Q8.o.ext hb2);have U3:=Hd (U2.o.ext hb2);have HI2:=Hd (HI1.o.ext1 hb2);rw[HHU.o.1,HHU.o.2]at h02;have c0:=h02.cells;have l0:=h02.lt;clear hW2 hb2 h5 hs2 h02 HC B1 XT Q8 U2 HI1;go_wp2_with fail;refine(Kv (b.items.take 60) ia i6 ic W2 S HI2.o (λx h=>by have:=HS.o x h;have:=B2.o.size;omega) (by have:=ab5.o;omega)).mono ?_;rintro e W3 ⟨ra,rn,rc,rfl,hR,hb3⟩;rw[show Fa (b.items.take 60)=hL from HLD.o]at hR;have HR3:=Hd hR;have B3:=Hd (B2.o.trans (hb3.mono B2.o.size));have HF3:=Hd (HF2.o.ext hb3);have h53:=H52.o.ext hb3;have H53:=Hd h53;have h03:=aav.o.ext hb3;have ab6:=Hd h03;have Xr:=Hd (Xf.o.ext hb3);have SL:=Hd (U3.o.ext hb3);have HS3:=Hd (Nat.le_trans (Nat.le_of_eq HS2.o.symm) hb3.size);have Un:=Hd (HBS.o.ext (E2.o.trans (hb3.mono E2.o.size)));clear hR hb3 c0 l0 aav Xf U3 H52 HF2 HI2;have aaw:=Hd (HF3.o.mono (T:=λx=>(S x\/W0.heap.size<=x)/\x<W3.heap.size/\x≠W1.heap.size) λx h=>⟨.inr h.1,by have:=HS3.o;omega,oM⟩);have Zh:=Hd (HR3.o.bound.mono (T:=λx=>(S x\/W0.heap.size<=x)/\x<W3.heap.size/\x≠W1.heap.size) λx h=>by
  have h2:=HS2.o;have h1:=HS1.o;have h0:=HSZ.o;rcases h.1 with k|k
  .exact⟨.inl k,h.2,by have:=HS.o x k;omega⟩
  .exact⟨.inr oM,h.2,oM⟩)
 have aax:=Hd (Un.o.dK.mono (T:=λx=>(S x\/W0.heap.size<=x)/\x<W3.heap.size/\x≠W1.heap.size) λx k=>by
  have h1:=HS1.o;have h0:=HSZ.o;have h3:=HS3.o;have:=HS.o x k;exact⟨.inl k,oM,oM⟩)
 have nS:=Hd (QH (NZ b) hL b.dK b.hu ca none ra na cn cc 0 0 rn rc fn fnc W3 _ aaw.o (Bq b) Zh.o (by rw[<- HLD.o];exact(Fp b).1) (by have:=(Fp b).2;rw[HLD.o]at this;have:=Zh.o.hlen;omega) aax.o Un.o.aat Un.o.aau Un.o.k1 Un.o.k2 (λx h=>h.2.1));have c5:=h53.cells;have l5:=h53.lt;have c0:=h03.cells;have l0:=h03.lt;rw[HHU.o.1,HHU.o.2]at c0;obtain⟨r,hr⟩:∃r,qU (NZ b) hL b.dK b.hu=r:=⟨_,rfl⟩;have HMP:=Hd (show qW b=r by unfold qW;rw[HLD.o,hr]);rw[hr]at nS;have Uo:=Hd (show Calls Tryz.prog 50 #[.agg #[.slice ca cn cc, .slice none 0 0, .int .i64 (-1), .int .i64 (-1), .bool false], .slice ra rn rc, .slice na fn fnc, .agg #[.int .i64 bk, .int .i64 bn]] W3 _ by have h:=nS.o;rw[HHU.o.1,HHU.o.2]at h;exact h);clear h53 h03 hr nS;go_wp2_with fail;refine Uo.o.mono ?_;rintro e W4 ⟨ga,gl,gc,xa,xl,xc,rfl,hF4,hb4⟩;have HF4:=Hd hF4;have B4:=Hd (B3.o.trans (hb4.mono B3.o.size));have H54:=Hd (H53.o.ext hb4);have CP:=Hd (Xr.o.ext hb4);have Ug:=Hd (SL.o.ext hb4);have HR4:=Hd (HR3.o.ext1 hb4);have HS4:=Hd hb4.size;clear hF4 hb4 c0 l0 c5 l5 H53 Xr SL ab6 Uo HF3 aaw Zh aax HR3;have d5:=H54.o.cells;have d5l:=H54.o.lt;have d5m:=H54.o.marks;rw[show(fU r.2).toArray= #[.int .i64 r.2.at_, .int .i64 r.2.depth, .int .i64 r.2.red.c, .int .i64 r.2.red.n, .int .i64 (hi r.2.red.s), .int .u64 (lo r.2.red.s), .int .i64 r.2.red.l, .int .i64 r.2.red.m]from rfl];obtain⟨RF,t⟩:=r;dsimp only;go_upto_region 4 with fail;have ho5:=(((((aA.refl (· =W1.heap.size) W4).set (W1.heap.size) 0 (.slice ga gl gc) rfl).set (W1.heap.size) 1 (.slice xa xl xc) rfl).set (W1.heap.size) 2 (.int .i64 RF.fuse) rfl).set (W1.heap.size) 3 (.int .i64 RF.fault) rfl).set (W1.heap.size) 4 (.bool RF.off) rfl;have e5:=(((((H54.o).set 0 (.slice ga gl gc)).set 1 (.slice xa xl xc)).set 2 (.int .i64 RF.fuse)).set 3 (.int .i64 RF.fault)).set 4 (.bool RF.off);obtain⟨W5,hW5⟩:∃W5,(((((W4.setCell ⟨W1.heap.size,0,none⟩ (.slice ga gl gc)).setCell ⟨W1.heap.size,1,none⟩ (.slice xa xl xc)).setCell ⟨W1.heap.size,2,none⟩ (.int .i64 RF.fuse)).setCell ⟨W1.heap.size,3,none⟩ (.int .i64 RF.fault)).setCell ⟨W1.heap.size,4,none⟩ (.bool RF.off))=W5:=⟨_,rfl⟩;have hs5:W5.heap.size=W4.heap.size:=by rw[<- hW5];simp
 rw[hW5]at ho5 e5⊢;obtain⟨W6,hW6⟩:∃W6,W5.alloc (.cells #[.int .i64 t.at_, .int .i64 t.depth, .int .i64 t.red.c, .int .i64 t.red.n, .int .i64 (hi t.red.s), .int .u64 (lo t.red.s), .int .i64 t.red.l, .int .i64 t.red.m] 37)=W6:=⟨_,rfl⟩;have hb6:Below W5.heap.size W5 W6:=by rw[<- hW6];exact(Below.refl _ _).alloc (Nat.le_refl _) _
 have e7:Blk W6 W4.heap.size [.int .i64 t.at_, .int .i64 t.depth, .int .i64 t.red.c, .int .i64 t.red.n, .int .i64 (hi t.red.s), .int .u64 (lo t.red.s), .int .i64 t.red.l, .int .i64 t.red.m] 37:=by rw[<- hW6,<- hs5];exact Blk.new _ _ _
 rw[hW6];have hw0:=HSZ.o;have hw1:=HS1.o;have hw3:=HS3.o;have hw4:=HS4.o;have n1:¬w.heap.size+1=W1.heap.size:=oM;have n2:¬w.heap.size+1+1=W1.heap.size:=oM;have n3:¬W1.heap.size=w.heap.size+1:=oM;have n4:¬W1.heap.size=w.heap.size+1+1:=oM;have n5:¬W4.heap.size=w.heap.size+1:=oM;have n6:¬W4.heap.size=w.heap.size+1+1:=oM;have U8:¬w.heap.size+1=w.heap.size+1+1:=oM;have U9:¬w.heap.size+1+1=w.heap.size+1:=oM;have e56:=e5.ext hb6;have p1:=(CP.o.aQ ho5 n1).ext hb6;have p2:=(Ug.o.aQ ho5 n2).ext hb6;have HP1:=Hd p1;have HP2:=Hd p2;have HF6:=Hd ((HF4.o.same ho5.size λx h hl=>ho5.block x hl (by rcases h with h|h;exact h.2.2;omega)).ext hb6);have HR6:=Hd ((HR4.o.same ho5.size λx h hl=>ho5.block x hl (by have h2:=HS2.o;rcases h with h|h;(have:=HS.o x h;omega);omega)).ext1 hb6)
 have B6:=Hd ((B4.o.trans (ho5.below B4.o.size (λc e=>oM))).trans (hb6.mono (Nat.le_trans B4.o.size ho5.size)));have HW6:=Hd (show W4.heap.size+1=W6.heap.size by rw[<- hW6,<- hs5];simp);clear d5 d5l d5m hW5 hW6 ho5 e5 hs5 hb6 H54 CP Ug HF4 HR4 B4;have f5:=e56.cells;have f5l:=e56.lt;have f7:=e7.cells;have f7l:=e7.lt;have z3:=p1.cells;have z3m:=p1.marks;have z3l:=p1.lt;have z4:=p2.cells;have z4m:=p2.marks;have z4l:=p2.lt;clear p1 p2 e56 e7;go_region
 go_wp2;have ho3:=(((((aA.refl (· =w.heap.size+1) W6).set (w.heap.size+1) 0 (.slice ga gl gc) rfl).set (w.heap.size+1) 1 (.slice xa xl xc) rfl).set (w.heap.size+1) 2 (.int .i64 RF.fuse) rfl).set (w.heap.size+1) 3 (.int .i64 RF.fault) rfl).set (w.heap.size+1) 4 (.bool RF.off) rfl;have e3:=(((((HP1.o).set 0 (.slice ga gl gc)).set 1 (.slice xa xl xc)).set 2 (.int .i64 RF.fuse)).set 3 (.int .i64 RF.fault)).set 4 (.bool RF.off);obtain⟨W8,hW8⟩:∃W8,(((((W6.setCell ⟨w.heap.size+1,0,none⟩ (.slice ga gl gc)).setCell ⟨w.heap.size+1,1,none⟩ (.slice xa xl xc)).setCell ⟨w.heap.size+1,2,none⟩ (.int .i64 RF.fuse)).setCell ⟨w.heap.size+1,3,none⟩ (.int .i64 RF.fault)).setCell ⟨w.heap.size+1,4,none⟩ (.bool RF.off))=W8:=⟨_,rfl⟩;rw[hW8]at ho3 e3⊢;have ho4:=((((((((aA.refl (· =w.heap.size+1+1) W8).set (w.heap.size+1+1) 0 (.int .i64 t.at_) rfl).set (w.heap.size+1+1) 1 (.int .i64 t.depth) rfl).set (w.heap.size+1+1) 2 (.int .i64 t.red.c) rfl).set (w.heap.size+1+1) 3 (.int .i64 t.red.n) rfl).set (w.heap.size+1+1) 4 (.int .i64 (hi t.red.s)) rfl).set (w.heap.size+1+1) 5 (.int .u64 (lo t.red.s)) rfl).set (w.heap.size+1+1) 6 (.int .i64 t.red.l) rfl).set (w.heap.size+1+1) 7 (.int .i64 t.red.m) rfl;have e4:=(((((((((HP2.o).aQ ho3 U9).set 0 (.int .i64 t.at_)).set 1 (.int .i64 t.depth)).set 2 (.int .i64 t.red.c)).set 3 (.int .i64 t.red.n)).set 4 (.int .i64 (hi t.red.s))).set 5 (.int .u64 (lo t.red.s))).set 6 (.int .i64 t.red.l)).set 7 (.int .i64 t.red.m);obtain⟨W9,hW9⟩:∃W9,((((((((W8.setCell ⟨w.heap.size+1+1,0,none⟩ (.int .i64 t.at_)).setCell ⟨w.heap.size+1+1,1,none⟩ (.int .i64 t.depth)).setCell ⟨w.heap.size+1+1,2,none⟩ (.int .i64 t.red.c)).setCell ⟨w.heap.size+1+1,3,none⟩ (.int .i64 t.red.n)).setCell ⟨w.heap.size+1+1,4,none⟩ (.int .i64 (hi t.red.s))).setCell ⟨w.heap.size+1+1,5,none⟩ (.int .u64 (lo t.red.s))).setCell ⟨w.heap.size+1+1,6,none⟩ (.int .i64 t.red.l)).setCell ⟨w.heap.size+1+1,7,none⟩ (.int .i64 t.red.m))=W9:=⟨_,rfl⟩;rw[hW9]at ho4 e4⊢;have hdr:Below W9.heap.size W9 W9.drew:=(Below.refl _ _).drew;have d3:=((e3.aQ ho4 U8).ext hdr).cells;have d4:=(e4.ext hdr).cells;refine bodyPost_ret (v:= .tuple #[.agg #[.slice ga gl gc, .slice xa xl xc, .int .i64 RF.fuse, .int .i64 RF.fault, .bool RF.off], .agg #[.int .i64 t.at_, .int .i64 t.depth, .int .i64 t.red.c, .int .i64 t.red.n, .int .i64 (hi t.red.s), .int .u64 (lo t.red.s), .int .i64 t.red.l, .int .i64 t.red.m], .slice ra rn rc]) (by simp[results,Tryz.results20,go_sem,d3,d4]) rfl ?_;unfold Bv;rw[HMP.o,HLD.o];have hfl:∀x,Or (λx=>(S x\/W0.heap.size<=x)/\x<W3.heap.size/\x≠W1.heap.size) W3 x->x≠w.heap.size+1/\x≠w.heap.size+1+1:=λx h=>by
  rcases h with h|h
  .rcases h.1 with k|k
   .have:=HS.o x k;omega
   .omega
  .omega
 have hrl:∀x,Or S W2 x->x≠w.heap.size+1/\x≠w.heap.size+1+1:=λx h=>by
  have h2:=HS2.o;rcases h with h|h
  .have:=HS.o x h;omega
  .omega
 refine⟨ga,gl,gc,xa,xl,xc,ra,rn,rc,rfl,((((HF6.o.same ho3.size λx h hl=>ho3.block x hl (hfl x h).1).same ho4.size λx h hl=>ho4.block x hl (hfl x h).2).ext hdr).mono λx h=>?_),((((HR6.o.same ho3.size λx h hl=>ho3.block x hl (hrl x h).1).same ho4.size λx h hl=>ho4.block x hl (hrl x h).2).ext1 hdr).mono λx h=>h.imp id (λk=>by have h2:=HS2.o;omega)),((B6.o.trans (ho3.below B6.o.size (λc e=>oM))).trans (ho4.below (Nat.le_trans B6.o.size ho3.size) (λc e=>oM))).trans (hdr.mono (Nat.le_trans (Nat.le_trans B6.o.size ho3.size) ho4.size))⟩;rcases h with h|h
 .exact h.1.imp id (λk=>oM)
 .exact .inr oM
end Go.Proofs.YtenmnhnlcnmloaaGreat
