/- Part of a proof of a law of the layer of trees. -/
import Derived.Test.YtenmnhnlcnmloaaGreatQa04
import Derived.Test.YtenmnhnlcnmloaaGreatQa03
import Derived.Test.YtenmnhnlcnmloaaGreatProg
import Derived.Test.YtenmnhnlcnmloaaGreatQa01
import Derived.WalkKit
import Derived.WalkSpells
import Derived.WalkLawsBesides
import Derived.Lib.Hide
set_option linter.unusedVariables false
set_option linter.unusedSimpArgs false
set_option maxHeartbeats 8000000
set_option maxRecDepth 8000
namespace Go.Proofs.YtenmnhnlcnmloaaGreat
open Go.RowKit Go.Dav
attribute [local go_sem] Gives ite_val ay
def FP(w:World)(n k:Int)(kv pv:Value)(wr:World):Prop:=
 ∃(m p:Nat) (acc base:Int),kv= .int .i64 m/\I64 m/\pv= .pointer (some ⟨p,0,none⟩)/\w.heap.size+1<p/\acc+base*m=n*k/\
  Blk wr (w.heap.size+1) [.int .i64 (hi acc), .int .u64 (lo acc)] 145/\Blk wr p [.int .i64 (hi base), .int .u64 (lo base)] 145/\
  Blk wr w.heap.size [.int .i64 0, .int .u64 0] 145/\Below w.heap.size w wr
theorem Dc(n k:Int)(w:World)(h1:I64 n)(h3:0<=k)(h4:I64 k):
  Calls Tryz.prog 124 #[.int .i64 n, .int .i64 k] w λe w'=>e= .returned (.agg #[.int .i64 (hi (n*k)), .int .u64 (lo (n*k))])/\Below w.heap.size w w':=by
 obtain⟨m0,rfl⟩:=Int.eq_ofNat_of_zero_le h3;go_enter Tryz.func124,Tryz.ntmps124;go_wp2_with (first|(go_at_call 70;refine(zF _ _ h1).mono ?_;rintro e w1 ⟨rfl,hb⟩;obtain⟨hc,hf,hs⟩:=after hb))
 go_loopw [1,6] (λkv pv wr=>FP w n m0 kv pv wr) (λkv _ _=>(intOf kv).toNat)
 case atStart=>
  refine⟨m0,w1.heap.size,0,n,rfl,h4,rfl,by simp at hs;omega,oM,?_,Blk.new _ [_,_] _,?_,?_⟩
  .have:=((Blk.new (w.alloc (.cells #[.int .i64 0, .int .u64 0] 145)) [.int .i64 0, .int .u64 0] 145).ext hb).alloc (.cells #[.int .i64 (hi n), .int .u64 (lo n)] 145);rw[jF,jG];simpa using this
  .exact(((Blk.new _ [_,_] _).alloc _).ext hb).alloc _
  .exact(oP (((Below.refl _ _).alloc (Nat.le_refl _) _).alloc (by simp) _) hb).alloc (by simp at hs;omega) _
 case round=>
  obtain⟨m,p,acc,base,rfl,hm,rfl,hp,heq,ho,hpart,hres,hbel⟩:=hrel;have c0:=ho.cell 0 rfl;have c1:=ho.cell 1 rfl;have c2:=hpart.cell 0 rfl;have c3:=hpart.cell 1 rfl;have f0:=ho.frozen 0;have f1:=ho.frozen 1;have f2:=hpart.frozen 0;have f3:=hpart.frozen 1;have l0:=ho.lt;have l1:=hpart.lt;have hn1:w.heap.size+1≠p:=oM;have hbs:=hbel.size;have Heq:=Hd heq;clear heq;by_cases hz:m=0
  .subst hz;have hr0:=hres.cell 0 rfl;have hr1:=hres.cell 1 rfl;have acA:=hres.frozen 0;have acB:=hres.frozen 1;go_wp2;have e:n*m0=acc:=by have:=Heq.o;simp at this;omega
   refine bodyPost_ret (v:= .agg #[.int .i64 (hi acc), .int .u64 (lo acc)]) (by simp[results,Tryz.results124,go_sem,hr0,hr1]) rfl ⟨by rw[e],?_⟩;exact(hbel.setCell (p:=⟨w.heap.size,0,none⟩) (Nat.le_refl _) _).setCell (p:=⟨w.heap.size,1,none⟩) (Nat.le_refl _) _
  .have ha:=Ji m hm;have hm0:(0:Int)<(m:Int):=oM;have hn2:p≠w.heap.size+1:=oM;have eI:I64 ((m/2:Nat):Int):=by unfold I64 at*;omega
   by_cases hodd:m%2=1
   .have e1:acc+base+(base+base)*((m/2:Nat):Int)=n*m0:=by
     rw[Rj acc base m hodd];exact Heq.o
    rw[hodd]at ha;have Ho:=Hd hodd;clear hodd;have E1:=Hd e1;clear e1;go_wp2_with fail;refine(lG _ _ _).mono ?_;rintro e w1 ⟨rfl,hb1⟩;obtain⟨hc1,hf1,hs1⟩:=after hb1;have lp1:=Nat.lt_of_lt_of_le l1 hs1;have lo1:=Nat.lt_of_lt_of_le l0 hs1;go_wp2_with fail;refine(lG _ _ _).mono ?_;rintro e w2 ⟨rfl,hb2⟩;obtain⟨hc2,hf2,hs2⟩:=after hb2;simp only[World.size_setCell]at hs2;have lp2:=Nat.lt_of_lt_of_le lp1 hs2;have lo2:=Nat.lt_of_lt_of_le lo1 hs2;go_wp2_with fail;go_roundw
    case rel=>
     have b0:=(((ho.ext hb1).set 0 (.int .i64 (hi (acc+base)))).set 1 (.int .u64 (lo (acc+base)))).ext hb2;have b1:=(((hpart.ext hb1).other hn2 0 (.int .i64 (hi (acc+base)))).other hn2 1 (.int .u64 (lo (acc+base)))).ext hb2;have b2:=(((hres.ext hb1).other oM 0 (.int .i64 (hi (acc+base)))).other oM 1 (.int .u64 (lo (acc+base)))).ext hb2;have bl:=(((hbel.trans (hb1.mono hbs)).setCell (p:=⟨w.heap.size+1,0,none⟩) (by simp) (.int .i64 (hi (acc+base)))).setCell (p:=⟨w.heap.size+1,1,none⟩) (by simp) (.int .u64 (lo (acc+base)))).trans (hb2.mono (by simp;omega));refine⟨m/2,w2.heap.size,acc+base,base+base,by simp,eI,rfl,oM,E1.o,?_,Blk.new' _ [_,_] _ (by simp),?_,?_⟩
     .exact((b0.other hn1 _ _).other hn1 _ _).alloc _
     .exact((b2.other oM _ _).other oM _ _).alloc _
     .exact((bl.setCell (p:=⟨p,0,none⟩) (by simp;omega) _).setCell (p:=⟨p,1,none⟩) (by simp;omega) _).alloc (by simp;omega) _
    case measure=>simp[intOf];omega
   .have hev:m%2=0:=oM;have e1:acc+(base+base)*((m/2:Nat):Int)=n*m0:=by
     rw[Oy acc base m hev];exact Heq.o
    rw[hev]at ha;have E1:=Hd e1;clear e1;have Ho:=Hd hodd;clear hodd;have Hev:=Hd hev;clear hev;go_wp2_with fail;refine(lG _ _ _).mono ?_;rintro e w2 ⟨rfl,hb2⟩;obtain⟨hc2,hf2,hs2⟩:=after hb2;have lp2:=Nat.lt_of_lt_of_le l1 hs2;have lo2:=Nat.lt_of_lt_of_le l0 hs2;go_wp2_with fail;go_roundw
    case rel=>
     have bl:=hbel.trans (hb2.mono hbs);refine⟨m/2,w2.heap.size,acc,base+base,by simp,eI,rfl,oM,E1.o,?_,Blk.new' _ [_,_] _ (by simp),?_,?_⟩
     .exact(((ho.ext hb2).other hn1 _ _).other hn1 _ _).alloc _
     .exact(((hres.ext hb2).other oM _ _).other oM _ _).alloc _
     .exact((bl.setCell (p:=⟨p,0,none⟩) (by simp;omega) _).setCell (p:=⟨p,1,none⟩) (by simp;omega) _).alloc (by simp;omega) _
    case measure=>simp[intOf];omega
theorem Jo(k v:Value)(x:Int)(w:World)(hk:k.cells= #[k])(hv:v.cells= #[v]):
  Calls Tryz.prog 43 #[.agg #[k,v, .bool false, .int .i64 x]] w λe w'=>
   e= .returned (.agg #[.int .i64 1, .int .i64 0, .int .i64 (hi 0), .int .u64 (lo 0), .int .i64 0, .int .i64 0])/\Below w.heap.size w w':=by
 have Hk:=Hd hk;clear hk;have Hv:=Hd hv;clear hv;go_enter Tryz.func43,Tryz.ntmps43;go_wp2;refine bodyPost_ret (v:= .agg #[.int .i64 1, .int .i64 0, .int .i64 0, .int .u64 0, .int .i64 0, .int .i64 0]) (by simp[results,Tryz.results43,go_sem]) rfl ⟨by rw[jF,jG],?_⟩;exact bW
theorem FQ(k v:Value)(x:Int)(w:World)(hx:I64 x):
  Calls Tryz.prog 43 #[.agg #[k,v, .bool true, .int .i64 x]] w λe w'=>
   e= .returned (.agg #[.int .i64 1, .int .i64 1, .int .i64 (hi x), .int .u64 (lo x), .int .i64 x, .int .i64 x])/\Below w.heap.size w w':=by
 go_enter Tryz.func43,Tryz.ntmps43;go_wp2_with fail;refine' ah [.inl _, .inl _, .inl _, .inl _, .inl _, .inl _, .inl _, .inl _, .inl _] kR kR ?dN
 case dN=>
  refine wD ?_;refine wE ?_;refine wD ?_;refine wE ?_;iterate 2 refine wD ?_
  refine wE ?_;refine wG (λW hE hN=>by go_simp;refine⟨Below.refl _ _,?_⟩;refine(zF _ _ hx).mono ?_;rintro e w' ⟨rfl,hb⟩;refine⟨?_,hb⟩;rfl) ?_;refine wG (λW hE hN=>by go_simp;refine⟨Below.refl _ _,?_⟩;refine(zG _ _ _ _ _ _ _ _).mono ?_;rintro e w' ⟨rfl,hb⟩;refine⟨?_,hb⟩;rfl) ?_;refine aj λW1 hE1 hG1=>?_;have jC:=hE1.cF;have kK:=hE1.fF;have s1:=hE1.size;simp at s1;have zH:w.heap.size<W1.heap.size:=oM;have zI:w.heap.size+1<W1.heap.size:=oM;go_wp2;refine bodyPost_ret (v:= .agg #[.int .i64 1, .int .i64 1, .int .i64 (hi x), .int .u64 (lo x), .int .i64 x, .int .i64 x]) (by simp[results,Tryz.results43,go_sem, *]) rfl ⟨rfl,?_⟩;exact(by have hz:=hE1;exact bV)
theorem OO(c1 n1 s1 l1 m1 c2 n2 s2 l2 m2:Int)(w:World)(h1:0<=n1)(h2:0<=n2)(hc:IntKind.i64.wrap (c1+c2)=c1+c2)(hn:IntKind.i64.wrap (n1+n2)=n1+n2):
  Calls Tryz.prog 74 #[.agg #[.int .i64 c1, .int .i64 n1, .int .i64 (hi s1), .int .u64 (lo s1), .int .i64 l1, .int .i64 m1], .agg #[.int .i64 c2, .int .i64 n2, .int .i64 (hi s2), .int .u64 (lo s2), .int .i64 l2, .int .i64 m2]] w λe w'=>
   e= .returned (.agg #[.int .i64 (c1+c2), .int .i64 (qZ n1 n2), .int .i64 (hi (wW n2 s1 s2)), .int .u64 (lo (wW n2 s1 s2)), .int .i64 (uy n1 n2 l1 l2), .int .i64 (uz n1 n2 m1 m2)])/\Below w.heap.size w w':=by
 by_cases hz:n2=0
 .subst hz;have Hn:=Hd hn;clear hn;have e1:qZ n1 0=n1:=rfl;have e2:wW 0 s1 s2=s1:=rfl;have e3:uy n1 0 l1 l2=l1:=rfl;have e4:uz n1 0 m1 m2=m1:=rfl;rw[e1,e2,e3,e4];clear e1 e2 e3 e4;go_enter Tryz.func74,Tryz.ntmps74;go_wp2;refine bodyPost_ret (v:= .agg #[.int .i64 (c1+c2), .int .i64 n1, .int .i64 (hi s1), .int .u64 (lo s1), .int .i64 l1, .int .i64 m1]) (by simp[results,Tryz.results74,go_sem]) rfl ⟨rfl,?_⟩;exact bW
 .have hz':(n2==0)=false:=by simpa using hz
  by_cases hp:0<n1
  .have e1:qZ n1 n2=n1+n2:=if_neg hz;have e2:wW n2 s1 s2=s1+s2:=if_neg hz;have e3:uy n1 n2 l1 l2=min l1 l2:=by unfold uy;rw[if_neg hz,if_pos hp]
   have e4:uz n1 n2 m1 m2=max m1 m2:=by unfold uz;rw[if_neg hz,if_pos hp]
   rw[e1,e2,e3,e4];clear e1 e2 e3 e4;go_enter Tryz.func74,Tryz.ntmps74;go_wp2;go_region
   go_wp2_with fail;all_goals
    refine' ah [.inl _, .inl _, .inl _, .inl _, .inl _, .inl _, .inl _] kR kR ?fZ
    case fZ=>
     iterate 2 refine wE ?_
     refine wG (λW hE hN=>by go_simp;refine⟨Below.refl _ _,?_⟩;refine(jM _ _ _ _ _ _).mono ?_;rintro e w' ⟨rfl,hb⟩;refine⟨?_,hb⟩;rfl) ?_;refine wE ?_;refine wG (λW hE hN=>by go_simp;refine⟨Below.refl _ _,?_⟩;refine(jM _ _ _ _ _ _).mono ?_;rintro e w' ⟨rfl,hb⟩;refine⟨?_,hb⟩;rfl) ?_;refine wG (λW hE hN=>by go_simp;refine⟨Below.refl _ _,?_⟩;refine(lG _ _ _).mono ?_;rintro e w' ⟨rfl,hb⟩;refine⟨?_,hb⟩;rfl) ?_;refine wG (λW hE hN=>by go_simp;refine⟨Below.refl _ _,?_⟩;refine(zG _ _ _ _ _ _ _ _).mono ?_;rintro e w' ⟨rfl,hb⟩;refine⟨?_,hb⟩;rfl) ?_;refine aj λW1 hE1 hG1=>?_;have jC:=hE1.cF;have kK:=hE1.fF;have s1':=hE1.size;simp at s1';have zH:w.heap.size<W1.heap.size:=oM;have zI:w.heap.size+1<W1.heap.size:=oM;have lH:w.heap.size+1+1<W1.heap.size:=oM;have FT:w.heap.size+1+1+1<W1.heap.size:=oM;go_wp2;refine bodyPost_ret (v:= .agg #[.int .i64 (c1+c2), .int .i64 (n1+n2), .int .i64 (hi (s1+s2)), .int .u64 (lo (s1+s2)), .int .i64 (min l1 l2), .int .i64 (max m1 m2)]) (by simp[results,Tryz.results74,go_sem,jC,lH]<;>omega) rfl ⟨rfl,?_⟩;exact(by have hz:=hE1;exact bV)
  .have e1:qZ n1 n2=n1+n2:=if_neg hz;have e2:wW n2 s1 s2=s1+s2:=if_neg hz;have e3:uy n1 n2 l1 l2=l2:=by unfold uy;rw[if_neg hz,if_neg hp]
   have e4:uz n1 n2 m1 m2=m2:=by unfold uz;rw[if_neg hz,if_neg hp]
   rw[e1,e2,e3,e4];clear e1 e2 e3 e4;go_enter Tryz.func74,Tryz.ntmps74;all_goals
    go_wp2_with fail;refine' ah [.inl _, .inl _, .inl _, .inl _, .inl _, .inl _, .inl _] kR kR ?iT
    case iT=>
     iterate 2 refine wE ?_
     refine wG (λW hE hN=>by go_simp;refine⟨Below.refl _ _,?_⟩;refine(jM _ _ _ _ _ _).mono ?_;rintro e w' ⟨rfl,hb⟩;refine⟨?_,hb⟩;rfl) ?_;refine wE ?_;refine wG (λW hE hN=>by go_simp;refine⟨Below.refl _ _,?_⟩;refine(jM _ _ _ _ _ _).mono ?_;rintro e w' ⟨rfl,hb⟩;refine⟨?_,hb⟩;rfl) ?_;refine wG (λW hE hN=>by go_simp;refine⟨Below.refl _ _,?_⟩;refine(lG _ _ _).mono ?_;rintro e w' ⟨rfl,hb⟩;refine⟨?_,hb⟩;rfl) ?_;refine wG (λW hE hN=>by go_simp;refine⟨Below.refl _ _,?_⟩;refine(zG _ _ _ _ _ _ _ _).mono ?_;rintro e w' ⟨rfl,hb⟩;refine⟨?_,hb⟩;rfl) ?_;refine aj λW1 hE1 hG1=>?_;have jC:=hE1.cF;have kK:=hE1.fF;have s1':=hE1.size;simp at s1';have zH:w.heap.size<W1.heap.size:=oM;have zI:w.heap.size+1<W1.heap.size:=oM;have lH:w.heap.size+1+1<W1.heap.size:=oM;have FT:w.heap.size+1+1+1<W1.heap.size:=oM;go_wp2;refine bodyPost_ret (v:= .agg #[.int .i64 (c1+c2), .int .i64 (n1+n2), .int .i64 (hi (s1+s2)), .int .u64 (lo (s1+s2)), .int .i64 l2, .int .i64 m2]) (by simp[results,Tryz.results74,go_sem,jC,lH]) rfl ⟨rfl,?_⟩;exact(by have hz:=hE1;exact bV)
theorem zJ(c n s l m:Int)(w:World)(hn:2<=n)(hn':I64 n)(hl:I64 l)(hm:I64 m):
  Calls Tryz.prog 71 #[.agg #[.int .i64 c, .int .i64 n, .int .i64 (hi s), .int .u64 (lo s), .int .i64 l, .int .i64 m]] w λe w'=>
   e= .returned (.tuple #[.agg #[.int .i64 (hi (l+m+l*(n-2))), .int .u64 (lo (l+m+l*(n-2)))], .agg #[.int .i64 (hi (l+m+m*(n-2))), .int .u64 (lo (l+m+m*(n-2)))]])/\Below w.heap.size w w':=by
 have hk:I64 (n-2):=by unfold I64 at*;omega
 have hk0:0<=n-2:=oM;have hw:IntKind.i64.wrap (n-2)=n-2:=by rw[aZ];unfold I64 at hk;omega
 go_enter Tryz.func71,Tryz.ntmps71;go_wp2_with fail;refine' ah [.inl _, .inl _, .inl _, .inl _, .inl _, .inl _, .inl _, .inr (dA (w.heap.size+1+1+1) [.int .i64 0, .int .u64 0] 145)] kR kR ?dN
 case dN=>
  refine wD ?_;refine wE ?_;refine wG (λW hE hN=>by go_simp;refine⟨Below.refl _ _,?_⟩;refine(zF _ _ (by assumption)).mono ?_;rintro e w' ⟨rfl,hb⟩;refine⟨?_,hb⟩;rfl) ?_;refine wD ?_;refine wE ?_;refine wG (λW hE hN=>by go_simp;refine⟨Below.refl _ _,?_⟩;refine(zF _ _ (by assumption)).mono ?_;rintro e w' ⟨rfl,hb⟩;refine⟨?_,hb⟩;rfl) ?_;refine wG (λW hE hN=>by go_simp;refine⟨Below.refl _ _,?_⟩;refine(lG _ _ _).mono ?_;rintro e w' ⟨rfl,hb⟩;refine⟨?_,hb⟩;rfl) ?_;refine aG rfl (dA.later) (by rfl) (λW hE hN=>?_) (λu7=>?_)
  .go_simp;exact dB (cs:=[.int .i64 0, .int .u64 0]) (by have:=hE.size;simp at this;omega)
  simp only[Act.put,pB,pC,pD];refine aj λW1 hE1 hG1=>?_;have jC:=hE1.cF;have kK:=hE1.fF;obtain⟨p,rfl,hp,hblk⟩:=hG1.1;have s1:=hE1.size;simp at s1;have c0:=hblk.cell 0 rfl;have c1:=hblk.cell 1 rfl;have f0:=hblk.frozen 0;have f1:=hblk.frozen 1;have lp:=hblk.lt;go_wp2_with fail;have lb:w.heap.size<W1.heap.size:=oM;have lb1:w.heap.size+1<W1.heap.size:=oM;have lb2:w.heap.size+1+1<W1.heap.size:=oM;refine' ah [.inl _, .inl _, .inl _, .inl _, .inl _, .inl _, .inl _, .inl _, .inl _, .inl _, .inl _, .inl _, .inl _, .inl _, .inl _, .inl _] kR kR ?fZ
  case fZ=>
   refine wE ?_;refine wD ?_;refine wE ?_;refine wD ?_;refine wE ?_;refine wD ?_;refine wG (λW hE hN=>by go_simp;refine⟨Below.refl _ _,?_⟩;refine(Dc _ _ _ (by assumption) hk0 hk).mono ?_;rintro e w' ⟨rfl,hb⟩;refine⟨?_,hb⟩;rfl) ?_;refine wG (λW hE hN=>by go_simp;refine⟨Below.refl _ _,?_⟩;refine(lG _ _ _).mono ?_;rintro e w' ⟨rfl,hb⟩;refine⟨?_,hb⟩;rfl) ?_;refine wE ?_;refine wD ?_;refine wE ?_;refine wD ?_;refine wE ?_;refine wD ?_;refine wG (λW hE hN=>by go_simp;refine⟨Below.refl _ _,?_⟩;refine(Dc _ _ _ (by assumption) hk0 hk).mono ?_;rintro e w' ⟨rfl,hb⟩;refine⟨?_,hb⟩;rfl) ?_;refine wG (λW hE hN=>by go_simp;refine⟨Below.refl _ _,?_⟩;refine(lG _ _ _).mono ?_;rintro e w' ⟨rfl,hb⟩;refine⟨?_,hb⟩;rfl) ?_;refine aj λW2 hE2 hG2=>?_;have QY:=hE2.cF;have QZ:=hE2.fF;have s2:=hE2.size;simp at s2;have lc:w.heap.size<W2.heap.size:=oM;have lc1:w.heap.size+1<W2.heap.size:=oM;have lc2:w.heap.size+1+1<W2.heap.size:=oM;go_wp2_with fail;refine bodyPost_ret (v:= .tuple #[.agg #[.int .i64 (hi (l+m+l*(n-2))), .int .u64 (lo (l+m+l*(n-2)))], .agg #[.int .i64 (hi (l+m+m*(n-2))), .int .u64 (lo (l+m+m*(n-2)))]])
    (by simp[results,Tryz.results71,go_sem, *]) rfl ⟨rfl,?_⟩
   exact(by have hz:=hE2;have hy:=hE1;exact bY)
theorem BR(c n s l m:Int)(w:World)(h:n<0\/c<n\/1073741824<c):
  Calls Tryz.prog 42 #[.agg #[.int .i64 c, .int .i64 n, .int .i64 (hi s), .int .u64 (lo s), .int .i64 l, .int .i64 m]] w λe w'=>
   e= .returned (.int .i64 230)/\Below w.heap.size w w':=by
 by_cases h1:c<0
 .go_enter Tryz.func42,Tryz.ntmps42;go_wp2;go_ret;exact⟨rfl,bW⟩
 by_cases h2:1073741824<c
 .go_enter Tryz.func42,Tryz.ntmps42;go_wp2;go_ret;exact⟨rfl,bW⟩
 by_cases h3:n<0
 .go_enter Tryz.func42,Tryz.ntmps42;go_wp2;go_ret;exact⟨rfl,bW⟩
 have h4:c<n:=oM;go_enter Tryz.func42,Tryz.ntmps42;go_wp2;go_ret;exact⟨rfl,bW⟩
theorem FU(c s l m:Int)(w:World)(h1:0<=c)(h2:c<=1073741824):
  Calls Tryz.prog 42 #[.agg #[.int .i64 c, .int .i64 0, .int .i64 (hi s), .int .u64 (lo s), .int .i64 l, .int .i64 m]] w λe w'=>
   e= .returned (.int .i64 (Jj (decide (hi s=0/\lo s=0/\l=0/\m=0))))/\Below w.heap.size w w':=by
 generalize hb:decide (hi s=0/\lo s=0/\l=0/\m=0)=b;have Hb:=Hd hb;clear hb;go_enter Tryz.func42,Tryz.ntmps42;go_wp2;all_goals (go_ret;refine⟨iK ?_,bW⟩;have hb:=Hb.o;cases b<;>simp_all[Jj]<;>omega)
theorem FV(c s l m:Int)(w:World)(h1:1<=c)(h2:c<=1073741824)(hl:I64 l):
  Calls Tryz.prog 42 #[.agg #[.int .i64 c, .int .i64 1, .int .i64 (hi s), .int .u64 (lo s), .int .i64 l, .int .i64 m]] w λe w'=>
   e= .returned (.int .i64 (Jj (decide (l=m/\hi s=hi l/\lo s=lo l))))/\Below w.heap.size w w':=by
 generalize hb:decide (l=m/\hi s=hi l/\lo s=lo l)=b;have Hb:=Hd hb;clear hb;by_cases hlm:l=m
 .subst hlm;go_enter Tryz.func42,Tryz.ntmps42;go_wp2_with fail;refine' ah [.inl _, .inl _, .inl _, .inl _, .inl _, .inl _, .inl _, .inl _, .inl _, .inl _, .inl _, .inl _, .inl _, .inl _] kR kR ?dN
  case dN=>
   refine wD ?_;refine wE ?_;refine wD ?_;refine wE ?_;iterate 2 refine wD ?_
   refine wE ?_;refine wG (λW hE hN=>by go_simp;refine⟨Below.refl _ _,?_⟩;refine(jM _ _ _ _ _ _).mono ?_;rintro e w' ⟨rfl,hb⟩;refine⟨?_,hb⟩;rfl) ?_;refine wD ?_;refine wE ?_;refine wG (λW hE hN=>by go_simp;refine⟨Below.refl _ _,?_⟩;refine(zF _ _ hl).mono ?_;rintro e w' ⟨rfl,hb⟩;refine⟨?_,hb⟩;rfl) ?_;iterate 3 refine wD ?_
   refine aj λW1 hE1 hG1=>?_;have jC:=hE1.cF;have kK:=hE1.fF;go_wp2;all_goals (go_ret;refine⟨iK ?_,(by have hz:=hE1;exact bV)⟩;have hb:=Hb.o;cases b<;>simp_all[Jj]<;>omega)
 .have Uz:(l==m)=false:=by simpa using hlm
  have hd:decide (l=m)=false:=by simpa using hlm
  go_enter Tryz.func42,Tryz.ntmps42;go_wp2_with fail;refine' ah [.inl _, .inl _, .inl _, .inl _, .inl _, .inl _, .inl undef, .inl undef, .inl undef, .inl undef, .inl undef, .inl undef, .inl _, .inl _] kR kR ?fZ
  case fZ=>
   refine wD ?_;refine wE ?_;refine wD ?_;refine wE ?_;iterate 2 refine wD ?_
   iterate 6 refine wS ?_
   iterate 2 refine wD ?_
   refine aj λW1 hE1 hG1=>?_;have jC:=hE1.cF;have kK:=hE1.fF;go_wp2;all_goals (go_ret;refine⟨iK ?_,(by have hz:=hE1;exact bV)⟩;have hb:=Hb.o;cases b<;>simp_all[Jj]<;>omega)
theorem FW(c n s l m:Int)(w:World)(h0:2<=n)(h1:n<=c)(h2:c<=1073741824)(hl:I64 l)(hm:I64 m):
  Calls Tryz.prog 42 #[.agg #[.int .i64 c, .int .i64 n, .int .i64 (hi s), .int .u64 (lo s), .int .i64 l, .int .i64 m]] w λe w'=>
   e= .returned (.int .i64 (Jj (decide (l<=m)&&(!jB (l+m+l*(n-2)) s&& !jB s (l+m+m*(n-2))))))/\Below w.heap.size w w':=by
 generalize hb:(decide (l<=m)&&(!jB (l+m+l*(n-2)) s&& !jB s (l+m+m*(n-2))))=b;have Hb:=Hd hb;clear hb;have hn':I64 n:=by unfold I64;omega
 by_cases hlm:l<=m
 .go_enter Tryz.func42,Tryz.ntmps42;go_wp2_with fail;refine(zJ _ _ _ _ _ _ h0 hn' hl hm).mono ?_;rintro e w1 ⟨rfl,hb1⟩;obtain⟨hc1,hf1,hs1⟩:=after hb1;simp at hs1;have nC:w.heap.size<w1.heap.size:=oM;have nD:w.heap.size<w1.heap.size+1:=oM;have rE:w.heap.size<w1.heap.size+1+1:=oM;generalize g1:l+m+l*(n-2)=x at*;generalize g2:l+m+m*(n-2)=y at*;clear g1 g2;by_cases ha:jB x s=true
  .go_wp2_with fail;refine' ah [.inl _, .inl _, .inl _, .inl _, .inl _, .inl _, .inl _, .inl _, .inl _, .inl _, .inl _, .inl _, .inl _, .inl undef, .inl undef, .inl undef, .inl undef, .inl undef, .inl _, .inl _] kR kR ?iT
   case iT=>
    refine wD ?_;refine wE ?_;refine wD ?_;refine wE ?_;iterate 2 refine wD ?_
    iterate 2 refine wE ?_
    refine wG (λW hE hN=>by go_simp;refine⟨Below.refl _ _,?_⟩;refine(jM _ _ _ _ _ _).mono ?_;rintro e w' ⟨rfl,hb⟩;refine⟨?_,hb⟩;rfl) ?_;refine wG (λW hE hN=>by go_simp;refine⟨Below.refl _ _,?_⟩;refine(xk _ _ _).mono ?_;rintro e w' ⟨rfl,hb⟩;refine⟨?_,hb⟩;rfl) ?_;iterate 3 refine wD ?_
    iterate 5 refine wS ?_
    iterate 2 refine wD ?_
    refine aj λW2 hE2 hG2=>?_;have QY:=hE2.cF;have QZ:=hE2.fF;go_wp2;all_goals (go_ret;refine⟨iK ?_,(by have hz:=hE2;have hy:=hb1;exact bY)⟩;have hb:=Hb.o;cases b<;>simp_all[Jj]<;>omega)
  .have ha':jB x s=false:=by simpa using ha
   clear ha;go_wp2_with fail;refine' ah [.inl _, .inl _, .inl _, .inl _, .inl _, .inl _, .inl _, .inl _, .inl _, .inl _, .inl _, .inl _, .inl _, .inl _, .inl _, .inl _, .inl _, .inl _, .inl _, .inl _] kR kR ?jI
   case jI=>
    refine wD ?_;refine wE ?_;refine wD ?_;refine wE ?_;iterate 2 refine wD ?_
    iterate 2 refine wE ?_
    refine wG (λW hE hN=>by go_simp;refine⟨Below.refl _ _,?_⟩;refine(jM _ _ _ _ _ _).mono ?_;rintro e w' ⟨rfl,hb⟩;refine⟨?_,hb⟩;rfl) ?_;refine wG (λW hE hN=>by go_simp;refine⟨Below.refl _ _,?_⟩;refine(xk _ _ _).mono ?_;rintro e w' ⟨rfl,hb⟩;refine⟨?_,hb⟩;rfl) ?_;iterate 3 refine wD ?_
    refine wE ?_;refine wG (λW hE hN=>by go_simp;refine⟨Below.refl _ _,?_⟩;refine(jM _ _ _ _ _ _).mono ?_;rintro e w' ⟨rfl,hb⟩;refine⟨?_,hb⟩;rfl) ?_;refine wE ?_;refine wG (λW hE hN=>by go_simp;refine⟨Below.refl _ _,?_⟩;refine(xk _ _ _).mono ?_;rintro e w' ⟨rfl,hb⟩;refine⟨?_,hb⟩;rfl) ?_;iterate 3 refine wD ?_
    refine aj λW2 hE2 hG2=>?_;have QY:=hE2.cF;have QZ:=hE2.fF;go_wp2;all_goals (go_ret;refine⟨iK ?_,(by have hz:=hE2;have hy:=hb1;exact bY)⟩;have hb:=Hb.o;cases b<;>simp_all[Jj]<;>omega)
 .have hd:decide (l<=m)=false:=by simpa using hlm
  go_enter Tryz.func42,Tryz.ntmps42;go_wp2_with fail;refine(zJ _ _ _ _ _ _ h0 hn' hl hm).mono ?_;rintro e w1 ⟨rfl,hb1⟩;obtain⟨hc1,hf1,hs1⟩:=after hb1;simp at hs1;have nC:w.heap.size<w1.heap.size:=oM;have nD:w.heap.size<w1.heap.size+1:=oM;have rE:w.heap.size<w1.heap.size+1+1:=oM;generalize g1:l+m+l*(n-2)=x at*;generalize g2:l+m+m*(n-2)=y at*;clear g1 g2;go_wp2_with fail;refine' ah [.inl _, .inl _, .inl _, .inl _, .inl _, .inl _, .inl undef, .inl undef, .inl undef, .inl undef, .inl undef, .inl _, .inl _, .inl undef, .inl undef, .inl undef, .inl undef, .inl undef, .inl _, .inl _] kR kR ?main5
  case main5=>
   refine wD ?_;refine wE ?_;refine wD ?_;refine wE ?_;iterate 2 refine wD ?_
   iterate 5 refine wS ?_
   iterate 2 refine wD ?_
   iterate 5 refine wS ?_
   iterate 2 refine wD ?_
   refine aj λW2 hE2 hG2=>?_;have QY:=hE2.cF;have QZ:=hE2.fF;go_wp2;all_goals (go_ret;refine⟨iK ?_,(by have hz:=hE2;have hy:=hb1;exact bY)⟩;have hb:=Hb.o;cases b<;>simp_all[Jj]<;>omega)
theorem vG(n:Int)(w:World)(h:I64 n):
  Calls Tryz.prog 140 #[.int .i64 n] w λe w'=>e= .returned (.agg #[.int .i64 (hi n), .int .u64 (lo n)])/\Below w.heap.size w w':=by
 have e2:=VL n;by_cases hn:n<0
 .rw[VO h hn];clear h;have H2:=Hd e2;clear e2;go_enter Tryz.func140,Tryz.ntmps140;go_wp2;refine bodyPost_ret (v:= .agg #[.int .i64 (-1), .int .u64 (lo n)]) (by simp[results,Tryz.results140,go_sem,H2.o]) rfl ⟨rfl,?_⟩;exact bW
 .rw[VP h hn];clear h;have H2:=Hd e2;clear e2;go_enter Tryz.func140,Tryz.ntmps140;go_wp2;refine bodyPost_ret (v:= .agg #[.int .i64 0, .int .u64 (lo n)]) (by simp[results,Tryz.results140,go_sem,H2.o]) rfl ⟨rfl,?_⟩;exact bW
theorem kL(c n s l m:Int)(w:World):
  Calls Tryz.prog 85 #[.agg #[.int .i64 c, .int .i64 n, .int .i64 (hi s), .int .u64 (lo s), .int .i64 l, .int .i64 m]] w λe w'=>
   e= .returned (.agg #[.int .i64 (hi s), .int .u64 (lo s)])/\Below w.heap.size w w':=by
 go_enter Tryz.func85,Tryz.ntmps85;go_wp2;refine bodyPost_ret (v:= .agg #[.int .i64 (hi s), .int .u64 (lo s)]) (by simp[results,Tryz.results85,go_sem]) rfl ⟨rfl,?_⟩;exact bW
theorem nG(x y:Int)(w:World):
  Calls Tryz.prog 139 #[.agg #[.int .i64 (hi x), .int .u64 (lo x)], .agg #[.int .i64 (hi y), .int .u64 (lo y)]] w λe w'=>
   e= .returned (.agg #[.int .i64 (hi (x+y)), .int .u64 (lo (x+y))])/\Below w.heap.size w w':=by
 have el:=TN x y;have en:=Rk x;by_cases h:Jk x<lo y
 .have e1:=Oz x y h;go_enter Tryz.func139,Tryz.ntmps139;go_wp2;refine bodyPost_ret (v:= .agg #[.int .i64 (hi (x+y)), .int .u64 (lo (x+y))]) (by simp[results,Tryz.results139,go_sem]) rfl ⟨rfl,?_⟩;exact bW
 .have e1:=LU x y h;have e2:=OA (x+y);go_enter Tryz.func139,Tryz.ntmps139;go_wp2;refine bodyPost_ret (v:= .agg #[.int .i64 (hi (x+y)), .int .u64 (lo (x+y))]) (by simp[results,Tryz.results139,go_sem]) rfl ⟨rfl,?_⟩;exact bW
theorem xq(x y:Int)(w:World):
  Calls Tryz.prog 185 #[.agg #[.int .i64 (hi x), .int .u64 (lo x)], .agg #[.int .i64 (hi y), .int .u64 (lo y)]] w λe w'=>
   e= .returned (.bool (jB y x))/\Below w.heap.size w w':=by
 rw[<- Rl];generalize hi x=a;generalize hi y=b;generalize lo x=c;generalize lo y=d;by_cases g:a=b
 .rw[if_pos g];subst g;go_enter Tryz.func185,Tryz.ntmps185;go_wp2;go_ret;exact⟨rfl,bW⟩
 .rw[if_neg g];have g3:(a==b)=false:=by simpa using g
  go_enter Tryz.func185,Tryz.ntmps185;go_wp2;go_ret;exact⟨rfl,bW⟩
theorem zK(f:Nat):∀(x k:Int) (w:World),k<=f->I64 x->0<=k->I64 k->
  Calls Tryz.prog 184 #[.int .i64 x, .int .i64 k] w λe w'=>e= .returned (.agg #[.int .i64 (hi (x*k)), .int .u64 (lo (x*k))])/\Below w.heap.size w w':=by
 induction f with
 |zero=>
  intro x k w hk hx h0 _;obtain rfl:k=0:=oM;rw[Int.mul_zero,jF,jG];clear hx hk h0;go_enter Tryz.func184,Tryz.ntmps184;go_wp2;refine bodyPost_ret (v:= .agg #[.int .i64 0, .int .u64 0]) (by simp[results,Tryz.results184,go_sem]) rfl ⟨rfl,?_⟩;exact bW
 |succ f ih=>
  intro x k w hk hx h0 ZC;by_cases hz:k=0
  .subst hz;rw[Int.mul_zero,jF,jG];clear hx hk h0 ih;go_enter Tryz.func184,Tryz.ntmps184;go_wp2;refine bodyPost_ret (v:= .agg #[.int .i64 0, .int .u64 0]) (by simp[results,Tryz.results184,go_sem]) rfl ⟨rfl,?_⟩;exact bW
  .have hpos:0<k:=oM;have g1:k/2<=f:=oM;have g2:0<=k/2:=oM;have g3:I64 (k/2):=by unfold I64 at*;omega
   have q1:=Rn h0 ZC;have q2:=Ro h0;have q3:=OB (k:=k);have IH:=Hd (ih x (k/2));clear ih;have K1:=Hd hk;clear hk;have G1:=Hd g1;clear g1;by_cases hodd:k%2=1
   .have e1:x*(k/2)+x*(k/2)+x=x*k:=by
     have hk2:k=2*(k/2)+1:=oM;conv=>rhs;rw[hk2,Int.mul_add,Int.mul_left_comm]
     omega
    have E1:=Hd e1;clear e1;have Ho:=Hd hodd;have Yb:(k%2==1)=true:=by simpa using hodd
    clear hodd;go_enter Tryz.func184,Tryz.ntmps184;go_wp2_with fail;(with_reducible refine(IH.o _ G1.o hx g2 g3).mono ?_);rintro e w1 ⟨rfl,hb1⟩;obtain⟨hc1,hf1,hs1⟩:=after hb1
    simp at hs1;have nC:w.heap.size<w1.heap.size:=oM;have nD:w.heap.size<w1.heap.size+1:=oM;have rE:w.heap.size<w1.heap.size+1+1:=oM;go_wp2_with fail;refine(nG _ _ _).mono ?_;rintro e w2 ⟨rfl,hb2⟩;obtain⟨hc2,hf2,hs2⟩:=after hb2;simp at hs2;have OQ:w.heap.size<w2.heap.size:=oM;have OT:w.heap.size<w2.heap.size+1:=oM;have OU:w.heap.size<w2.heap.size+1+1:=oM;have OV:w1.heap.size<w2.heap.size:=oM;have OW:w1.heap.size<w2.heap.size+1:=oM;have OX:w1.heap.size<w2.heap.size+1+1:=oM;go_wp2_with fail;refine' ah [.inl _, .inl _, .inl _, .inl _] kR kR ?dN
    case dN=>
     refine wE ?_;refine wD ?_;refine wG (λW hE hN=>by go_simp;refine⟨Below.refl _ _,?_⟩;refine(vG _ _ hx).mono ?_;rintro e w' ⟨rfl,hb⟩;refine⟨?_,hb⟩;rfl) ?_;refine wG (λW hE hN=>by go_simp;refine⟨Below.refl _ _,?_⟩;refine(nG _ _ _).mono ?_;rintro e w' ⟨rfl,hb⟩;refine⟨?_,hb⟩;rfl) ?_;refine aj λW3 hE3 hG3=>?_;have L6:=hE3.cF;have L8:=hE3.fF;have s3:=hE3.size;simp at s3;have VQ:w.heap.size<W3.heap.size:=oM;have VR:w.heap.size<W3.heap.size+1:=oM;have VT:w.heap.size<W3.heap.size+1+1:=oM;have VU:w1.heap.size<W3.heap.size:=oM;have VW:w1.heap.size<W3.heap.size+1:=oM;have VX:w1.heap.size<W3.heap.size+1+1:=oM;have VY:w2.heap.size<W3.heap.size:=oM;have VZ:w2.heap.size<W3.heap.size+1:=oM;have V3:w2.heap.size<W3.heap.size+1+1:=oM;go_wp2_with fail;rw[<- E1.o];refine bodyPost_ret (v:= .agg #[.int .i64 (hi (x*(k/2)+x*(k/2)+x)), .int .u64 (lo (x*(k/2)+x*(k/2)+x))]) (by simp[results,Tryz.results184,go_sem, *]) rfl ⟨rfl,?_⟩;exact(by have hz:=hE3;have hy:=hb2;have hx:=hb1;exact bX)
   .have hev:k%2=0:=oM;have e1:x*(k/2)+x*(k/2)=x*k:=by
     have hk2:k=2*(k/2):=oM;conv=>rhs;rw[hk2,Int.mul_left_comm]
     omega
    have E1:=Hd e1;clear e1;have Yb:(k%2==1)=false:=by simpa using hodd
    clear hodd hev;go_enter Tryz.func184,Tryz.ntmps184;go_wp2_with fail;(with_reducible refine(IH.o _ G1.o hx g2 g3).mono ?_);rintro e w1 ⟨rfl,hb1⟩;obtain⟨hc1,hf1,hs1⟩:=after hb1
    simp at hs1;have nC:w.heap.size<w1.heap.size:=oM;have nD:w.heap.size<w1.heap.size+1:=oM;have rE:w.heap.size<w1.heap.size+1+1:=oM;go_wp2_with fail;refine(nG _ _ _).mono ?_;rintro e w2 ⟨rfl,hb2⟩;obtain⟨hc2,hf2,hs2⟩:=after hb2;simp at hs2;have OQ:w.heap.size<w2.heap.size:=oM;have OT:w.heap.size<w2.heap.size+1:=oM;have OU:w.heap.size<w2.heap.size+1+1:=oM;have OV:w1.heap.size<w2.heap.size:=oM;have OW:w1.heap.size<w2.heap.size+1:=oM;have OX:w1.heap.size<w2.heap.size+1+1:=oM;go_wp2_with fail;rw[<- E1.o];refine bodyPost_ret (v:= .agg #[.int .i64 (hi (x*(k/2)+x*(k/2))), .int .u64 (lo (x*(k/2)+x*(k/2)))]) (by simp[results,Tryz.results184,go_sem, *]) rfl ⟨rfl,?_⟩;exact(by have hz:=hb2;have hy:=hb1;exact bY)
end Go.Proofs.YtenmnhnlcnmloaaGreat
