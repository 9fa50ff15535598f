/- Part of a proof of a law of the layer of trees. -/
import Derived.Test.YtenmnhnlcnmloaaGreatQa08
import Derived.Test.YtenmnhnlcnmloaaGreatQa09
import Derived.Test.YtenmnhnlcnmloaaGreatQa10
import Derived.Laws.EntriesVeiled
import Derived.Deep.DeepCutAuto
import Derived.Test.YtenmnhnlcnmloaaGreatQa01
set_option linter.unusedVariables false
set_option linter.unusedSimpArgs false
set_option maxHeartbeats 8000000
set_option maxRecDepth 8000
namespace Go.Dav
open Go Go.RowKit
def iZ(x:aP):List UInt8:=UInt8.ofNat x.key.length::x.key++(UInt8.ofNat x.value.length::x.value)++[if x.int then 1 else 0]++bQ (x.n%18446744073709551616).toNat 8
def jS(x:dS):List UInt8:=UInt8.ofNat x.key.length::x.key++(bQ (x.at_%18446744073709551616).toNat 4++bQ (x.red.c%18446744073709551616).toNat 4++bQ (x.red.n%18446744073709551616).toNat 4)++(bQ (hi x.red.s%18446744073709551616).toNat 8++bQ (lo x.red.s).toNat 8++bQ (x.red.l%18446744073709551616).toNat 8++bQ (x.red.m%18446744073709551616).toNat 8)
def vS:dw->List UInt8
 | .inl x=>iZ x
 | .inr x=>jS x
def aJ(n:aT):List UInt8:=[if n.leaf then 1 else 2,UInt8.ofNat (partsOf n).length]++(partsOf n).flatMap vS
def jZ(l:List Nat)(w:Nat):List UInt8:=l.flatMap (bQ · w)
theorem MI{l:List Nat}{w k x:Nat}(h:l[k]? =some x):jZ (l.take (k+1)) w=jZ (l.take k) w++bQ x w:=by
 unfold jZ;rw[List.take_add_one,h];simp
theorem vT(l:List Nat)(w:Nat):(jZ l w).length=l.length*w:=by
 unfold jZ;induction l with
 |nil=>simp
 |cons x l ih=>simp[bG,Nat.add_mul]at ih⊢;omega
def nX(e:TypeId)(base:Nat)(l:List UInt8)(w:World)(en:Ending)(w':World):Prop:=
 ∃v',en= .returned v'/\w'.ownsRow base e 1 v' l.length (u8s l)/\Grew base e w w'
def numCells(l:List Nat):List Value:=l.map λ(x:Nat)=> .int .u64 (x:Int)
theorem Gw{l:List Nat}{k x:Nat}(h:l[k]? =some x):(numCells l)[k]? =some (.int .u64 (x:Int)):=by unfold numCells;rw[List.getElem?_map,h];rfl
def jE(cs:List Value)(t:TypeId)(k:Nat)(v:Value)(W:World):Prop:=∃p,v= .slice (some ⟨p,0,none⟩) k k/\Blk W p cs t
theorem jE.later{cs:List Value}{t:TypeId}{k:Nat}:∀v W W',jE cs t k v W->Below W.heap.size W W'->jE cs t k v W':=
 λ_ _ _ ⟨p,h1,h2⟩ hb=>⟨p,h1,h2.ext hb⟩
theorem jE.grew{cs:List Value}{t e:TypeId}{k n:Nat}(ht:t≠e):∀v W W',jE cs t k v W->Grew n e W W'->jE cs t k v W':=
 λ_ _ _ ⟨p,h1,h2⟩ hb=>⟨p,h1,hb.blk h2 ht⟩
def dW(base:Nat)(e:TypeId)(l:List UInt8)(v:Value)(W:World):Prop:=W.ownsRow base e 1 v l.length (u8s l)
theorem dW.later{base:Nat}{e:TypeId}{l:List UInt8}:∀v W W',dW base e l v W->Below W.heap.size W W'->dW base e l v W':=λ_ _ _ h hb=>aK h hb
theorem vU(n:Nat)(e:TypeId):Goes (Grew n e):=⟨λ_ _ h=>Grew.of_below h,λ_ _ _ h k=>h.trans k⟩
theorem kQ{cs:List Value}{t:TypeId}{k:Nat}{W:World}:Below W.heap.size W (W.alloc (.cells cs.toArray t))/\jE cs t k (.slice (some ⟨W.heap.size,0,none⟩) k k) (W.alloc (.cells cs.toArray t)):=
 ⟨(Below.refl _ _).alloc (Nat.le_refl _) _,_,rfl,Blk.new _ _ _⟩
theorem au.grew{W W':World}{S:Nat->Prop}{a:Option Addr}{n c base:Nat}{e:TypeId}{l:List UInt8}(h:au W S a n c l)(hS:∀b,S b->b<base)(hg:Grew base e W W'):au W' S a n c l:=
 h.same hg.size λb h1 h2=>hg.block b h2 (.inl (hS b h1))
def RD(b:Bool):Nat:=if b then 1 else 0
theorem MJ(n:Nat):bQ n 1=[UInt8.ofNat n]:=by simp[bQ,List.range_succ]
theorem yt(x:aP):iZ x=(UInt8.ofNat x.key.length::x.key)++(UInt8.ofNat x.value.length::x.value)++jZ [RD x.int] 1++jZ [(x.n%18446744073709551616).toNat] 8:=by
 unfold iZ jZ RD;cases x.int<;>simp[MJ]
theorem Jz(x:dS):jS x=(UInt8.ofNat x.key.length::x.key)++jZ [(x.at_%18446744073709551616).toNat,(x.red.c%18446744073709551616).toNat,(x.red.n%18446744073709551616).toNat] 4++jZ [(hi x.red.s%18446744073709551616).toNat,(lo x.red.s).toNat,(x.red.l%18446744073709551616).toNat,(x.red.m%18446744073709551616).toNat] 8:=by
 unfold jS jZ;simp
theorem Gx{x:dw}(h:pOk x=true):(qX x).length<=120/\∀i,x= .inl i->i.value.length<=100:=by
 unfold pOk at h;simp only[Bool.and_eq_true,decide_eq_true_eq]at h;refine⟨h.2.1,λi e=>?_⟩;subst e;have:=h.2.2;unfold O1 at this;simp only[Bool.and_eq_true,decide_eq_true_eq]at this;exact this.1
end Go.Dav
namespace Go.Proofs.YtenmnhnlcnmloaaGreat
open Go.RowKit Go.Dav
attribute [local go_sem] Gives dG ite_val ay
theorem rH(base p width n:Nat)(xs:List Nat)(v:Value)(l:List UInt8)(w:World)(hp:Blk w p (numCells xs) 33)(hn:xs.length=n)(hn8:n<=8)(hv:w.ownsRow base 5 1 v l.length (u8s l))(hb:base<=w.heap.size)(hlo:l.length<=100000)(hw:width<=8)(hx:∀x∈xs,x<18446744073709551616):
  Calls Tryz.prog 213 #[v, .int .i64 (width:Int), .slice (some ⟨p,0,none⟩) n n] w (nX 5 base (l++jZ xs width) w):=by
 have lp:=hp.lt;have HP:=Hd hp;have HN:=Hd hn;have HV:=Hd hv;have HB:=Hd hb;have HLO:=Hd hlo;have HX:=Hd hx;have hw':(width:Int)<=8:=oM;have hn':(n:Int)<=8:=oM;clear hp hn hv hb hlo hx;go_enter Tryz.func213,Tryz.ntmps213;go_wp2_with fail;go_loopg [0,12] n (λg vx ix wr=>∃k:Nat,k<=n/\g=n-k/\ix= .int .i64 k/\wr.ownsRow base 5 1 vx (l++jZ (xs.take k) width).length (u8s (l++jZ (xs.take k) width))/\Grew base 5 w wr)
 case atStart=>exact⟨0,Nat.zero_le _,rfl,rfl,by simpa[jZ]using HV.o,Grew.refl _ _ _⟩
 case round=>
  obtain⟨k,hk,rfl,rfl,hown,hgr⟩:=hrel;have HO:=Hd hown;have HG:=Hd hgr;clear hown hgr;by_cases hkn:k<n
  .obtain⟨x,hx⟩:∃x,xs[k]? =some x:=⟨_,List.getElem?_eq_getElem (by have:=HN.o;omega)⟩;have hcell:=(HG.o.blk HP.o dC).cell k (Gw hx);have hlt:=(HG.o.blk HP.o dC).lt;have hkn':(k:Int)<(n:Int):=oM;have HXX:=Hd hx;have HKN:=Hd hkn;obtain⟨lk,hlk⟩:∃lk,l++jZ (xs.take k) width=lk:=⟨_,rfl⟩;have HLK:=Hd hlk;have hll:lk.length<=100100:=by
    rw[<- hlk,List.length_append,vT];have h1:=HLO.o;have h2:(xs.take k).length*width<=8*8:=Nat.mul_le_mul (by rw[List.length_take];omega) hw;omega
   have HLL:=Hd hll;have HO2:=Hd (show wr.ownsRow base 5 1 u0 lk.length (u8s lk) by have:=HO.o;rw[hlk]at this;exact this);have hxl:=HX.o x (List.mem_of_getElem? hx);have HXL:=Hd hxl;obtain⟨wo,rfl⟩:∃wo:World,wo=wr:=⟨_,rfl⟩;clear hx hkn hk hlk hll hxl;go_wp2_with fail;go_loopg [0,9] width (λg vx bx w2=>∃j:Nat,j<=width/\g=width-j/\bx= .int .i64 (8*((width:Int)-(j:Int))-8)/\w2.ownsRow base 5 1 vx (lk++(bQ x width).take j).length (u8s (lk++(bQ x width).take j))/\Grew base 5 wo w2)
   case atStart=>exact⟨0,Nat.zero_le _,rfl,by go_num,by simpa using HO2.o,Grew.refl _ _ _⟩
   case round=>
    obtain⟨j,hj,rfl,rfl,f1,f2⟩:=hrel;have F1:=Hd f1;have F2:=Hd f2;clear f1 f2;by_cases hjw:j<width
    .obtain⟨e,he⟩:∃e,8*(width-1-j)=e:=⟨_,rfl⟩;have he2:8*((width:Int)-(j:Int))-8=(e:Int):=oM;rw[he2];have hel:e<=56:=oM;have hmin:min e 64=e:=oM;have HE:=Hd he;have HJW:=Hd hjw;clear he he2 hjw hj;have s3:=F2.o.size;have HBx:=Hd (show base<=(wr.alloc (.cells #[.int .u8 ((x:Int)/2^e%256)] 5)).heap.size by have:=HB.o;have:=HG.o.size;simp;omega);have HFx:=Hd (aK F1.o ((Below.refl _ wr).alloc (Nat.le_refl _) (.cells #[.int .u8 ((x:Int)/2^e%256)] 5)));have HCx:=Hd (show bP (wr.alloc (.cells #[.int .u8 ((x:Int)/2^e%256)] 5)) (λb=>b=wr.heap.size) (some ⟨wr.heap.size,0,none⟩) 1 (u8s [UInt8.ofNat (x/2^e)]) by rw[Ru];exact cells_one rfl (by simp) (Blk.new wr [.int .u8 ((x:Int)/2^e%256)] 5|>.cell 0 rfl))
     have HLx:=Hd (show(lk++(bQ x width).take j).length+1<=140737488355328 by have:=HLL.o;have:=bG x width;simp;omega);clear s3;go_wp2_with (at_builtin;refine ak rfl (.tmp 23) (.tmp 28) 22 rfl aF base _ (lk++(bQ x width).take j).length (u8s (lk++(bQ x width).take j)) rfl HFx.o (λb=>b=wr.heap.size) (some ⟨wr.heap.size,0,none⟩) 1 1 (u8s [UInt8.ofNat (x/2^e)]) rfl HCx.o (iy _) (λh=>by cases h) (by have:=HLx.o;unfold maxLen;omega) (by have:=HLx.o;omega) HBx.o ?_;intro v' w' hown' hgrow)
     have ZF:=Grew.Gn HFx.o hgrow;have e1:lk++(bQ x width).take j++[UInt8.ofNat (x/2^e)]=lk++(bQ x width).take (j+1):=by rw[Jv HJW.o,HE.o,List.append_assoc]
     have hln:(lk++(bQ x width).take j).length+1=(lk++(bQ x width).take (j+1)).length:=by rw[<- e1];simp only[List.length_append,List.length_singleton]
     rw[<- aW,e1,hln]at hown';have HO3:=Hd hown';have HG3:=Hd ZF;clear hown' ZF e1 hln hgrow;go_wp2_with fail;go_roundg (width-(j+1))
     case measure=>have:=HJW.o;omega
     case rel=>
      exact⟨j+1,HJW.o,rfl,by rw[show 8*((width:Int)-((j+1:Nat):Int))-8=(e:Int)-8 by have:=HE.o;have:=HJW.o;omega],HO3.o,F2.o.trans ((Grew.of_below ((Below.refl _ wr).alloc (Nat.le_refl _) _)).trans HG3.o)⟩
    .obtain rfl:j=width:=oM;have hz:8*((j:Int)-(j:Int))-8= -8:=oM;rw[hz];clear hjw;go_wp2_with fail;go_roundg (n-(k+1))
     case measure=>have:=HKN.o;omega
     case rel=>
      have hle:(bQ x j).take j=bQ x j:=List.take_of_length_le (by rw[bG];omega);have h1:=F1.o;rw[hle,<- HLK.o,List.append_assoc,<- MI HXX.o]at h1;exact⟨k+1,HKN.o,rfl,by go_num,h1,HG.o.trans F2.o⟩
  .obtain rfl:k=n:=oM;have hk3:¬(k:Int)<(k:Int):=oM;have h1:=HO.o;rw[List.take_of_length_le (by have:=HN.o;omega)]at h1;have H1:=Hd h1;clear hkn h1;go_wp2;go_ret;exact⟨_,rfl,H1.o,HG.o⟩
theorem rJ(base:Nat)(S:Nat->Prop)(a:Option Addr)(n c:Nat)(x:List UInt8)(v:Value)(l:List UInt8)(w:World)(hx:au w S a n c x)(hS:∀b,S b->b<base)(hv:w.ownsRow base 5 1 v l.length (u8s l))(hb:base<=w.heap.size)(hlo:l.length<=100000)(hn:n<=100000):
  Calls Tryz.prog 212 #[v, .slice a n c] w (nX 5 base (l++(UInt8.ofNat x.length::x)) w):=by
 have hxl:=hx.at_.hlen;have hn':(n:Int)<=100000:=oM;have HX:=Hd hx;have HXL:=Hd hxl;have HS:=Hd hS;have HB:=Hd hb;have HLO:=Hd hlo;have hnil:=hx.at_.hnil;have RG:=Hd hnil;have HOW:=Hd (aK hv ((Below.refl _ w).alloc (Nat.le_refl _) (.cells #[.int .u8 ((n:Int)%256)] 5)));have HCx:=Hd (show bP (w.alloc (.cells #[.int .u8 ((n:Int)%256)] 5)) (λb=>b=w.heap.size) (some ⟨w.heap.size,0,none⟩) 1 (u8s [UInt8.ofNat n]) by
  rw[show u8s [UInt8.ofNat n]=[.int .u8 ((n:Int)%256)] by simp[u8s]];exact cells_one rfl (by simp) (Blk.new w [.int .u8 ((n:Int)%256)] 5|>.cell 0 rfl))
 have tok1:True:=trivial;have tok2:True:=trivial;clear hx hxl hS hv hb hlo hnil;go_enter Tryz.func212,Tryz.ntmps212;go_wp2_with (first
  |(at_builtin;refine ak rfl (.tmp 5) (.tmp 9) 22 rfl aF base _ l.length (u8s l) rfl HOW.o (λb=>b=w.heap.size) (some ⟨w.heap.size,0,none⟩) 1 1 (u8s [UInt8.ofNat n]) rfl HCx.o (iy _) (λh=>by cases h) (by have:=HLO.o;unfold maxLen;omega) (by have:=HLO.o;omega) (by have:=HB.o;simp;omega) ?_;intro v1 w1 hown1 hgrow1;have HO1:=Hd hown1;have HG1:=Hd ((Grew.of_below ((Below.refl _ w).alloc (Nat.le_refl _) (.cells #[.int .u8 ((n:Int)%256)] 5))).trans (Grew.Gn HOW.o hgrow1));clear hown1 hgrow1 tok1)
  |(at_builtin;refine ak rfl (.tmp 10) (.tmp 11) 22 rfl aF base _ (l.length+1) (u8s l++u8s [UInt8.ofNat n]) rfl HO1.o S a n c (u8s x) rfl (HX.o.grew HS.o HG1.o).cells (iy _) RG.o (by have:=HLO.o;unfold maxLen;omega) (by have:=HLO.o;omega) (by have:=HB.o;have:=HG1.o.size;omega) ?_;intro v2 w2 hown2 hgrow2;have HO2:=Hd hown2;have HG2:=Hd (HG1.o.trans (Grew.Gn HO1.o hgrow2));clear hown2 hgrow2 tok2))
 go_ret;refine⟨_,rfl,?_,HG2.o⟩;have h:=HO2.o;rw[<- aW,<- aW,List.append_assoc,show l.length+1+n=(l++([UInt8.ofNat n]++x)).length by have:=HXL.o;simp;omega]at h;rw[HXL.o];exact h
theorem vV(base p n:Nat)(xs:List Nat)(v:Value)(l:List UInt8)(w:World)(hp:Blk w p (numCells xs) 33)(hn:xs.length=n)(hn8:n<=8)(hv:w.ownsRow base 5 1 v l.length (u8s l))(hb:base<=w.heap.size)(hlo:l.length<=100000)(hx:∀x∈xs,x<18446744073709551616):
  Calls Tryz.prog 213 #[v, .int .i64 1, .slice (some ⟨p,0,none⟩) n n] w (nX 5 base (l++jZ xs 1) w):=rH base p 1 n xs v l w hp hn hn8 hv hb hlo oM hx
theorem ED(base p n:Nat)(xs:List Nat)(v:Value)(l:List UInt8)(w:World)(hp:Blk w p (numCells xs) 33)(hn:xs.length=n)(hn8:n<=8)(hv:w.ownsRow base 5 1 v l.length (u8s l))(hb:base<=w.heap.size)(hlo:l.length<=100000)(hx:∀x∈xs,x<18446744073709551616):
  Calls Tryz.prog 213 #[v, .int .i64 4, .slice (some ⟨p,0,none⟩) n n] w (nX 5 base (l++jZ xs 4) w):=rH base p 4 n xs v l w hp hn hn8 hv hb hlo oM hx
theorem qy(base p n:Nat)(xs:List Nat)(v:Value)(l:List UInt8)(w:World)(hp:Blk w p (numCells xs) 33)(hn:xs.length=n)(hn8:n<=8)(hv:w.ownsRow base 5 1 v l.length (u8s l))(hb:base<=w.heap.size)(hlo:l.length<=100000)(hx:∀x∈xs,x<18446744073709551616):
  Calls Tryz.prog 213 #[v, .int .i64 8, .slice (some ⟨p,0,none⟩) n n] w (nX 5 base (l++jZ xs 8) w):=rH base p 8 n xs v l w hp hn hn8 hv hb hlo oM hx
theorem Gy(base:Nat)(S:Nat->Prop)(i:aP)(u v:Value)(l:List UInt8)(w:World)(h:jR w S u i)(hS:∀b,S b->b<base)(hv:w.ownsRow base 5 1 v l.length (u8s l))(hb:base<=w.heap.size)(hlo:l.length<=10000)(hk:i.key.length<=1000)(hv8:i.value.length<=1000):
  Calls Tryz.prog 208 #[u,v] w (nX 5 base (l++iZ i) w):=by
 obtain⟨ka,kl,kc,va,vl,vc,h1,h2,h3,h4⟩:=h;subst h1;have e1:=h2.at_.hlen;have e2:=h3.at_.hlen;obtain⟨w0,hw0⟩:∃w0,w.alloc (.cells #[.slice ka kl kc, .slice va vl vc, .bool i.int, .int .i64 i.n] 273)=w0:=⟨_,rfl⟩;have hbw:Below w.heap.size w w0:=by rw[<- hw0];exact bW
 have hBX:Blk w0 w.heap.size [.slice ka kl kc, .slice va vl vc, .bool i.int, .int .i64 i.n] 273:=by rw[<- hw0];exact Blk.new w _ _
 have HBX:=Hd hBX;have H2:=Hd (h2.ext hbw);have H3:=Hd (h3.ext hbw);have HV:=Hd (aK hv hbw);have HS:=Hd hS;have HB:=Hd (show base<=w0.heap.size by have:=hbw.size;omega);have HBW:=Hd hbw;have HK:=Hd (show kl<=1000 by omega);have HV8:=Hd (show vl<=1000 by omega);have HLO:=Hd hlo;have E1:=Hd e1;have E2:=Hd e2;have HI:=Hd h4;have HNN:=Hd (show(IntKind.u64.wrap i.n)=(((i.n%18446744073709551616).toNat:Nat):Int) by rw[wrap_u64,Int.toNat_of_nonneg oM]);clear hBX h2 h3 hv hS hb hbw e1 e2 hk hv8 hlo h4;go_enter Tryz.func208,Tryz.ntmps208;go_wp2_with fail;clear hw0;refine' aN (Grew base 5) (vU _ _) 3 [.inl _, .inl _, .inl _, .inr (dW base 5 (l++(UInt8.ofNat i.key.length::i.key))), .inl _, .inl _] kR kR ?dN
 case dN=>
  iterate 2 refine kD ?_
  refine kG (λW hE hN=>by have q1:=(hE.blk HBX.o dC).cells;exact gF) ?_;refine aH dC rfl (dW.later) (by rfl) (λW hE hN=>?_) (λu3=>?_)
  .go_simp;refine⟨Below.refl _ _,?_⟩;refine(rJ base S ka kl kc i.key v l W (H2.o.ext hE) HS.o (aK HV.o hE) (by have:=HB.o;have:=hE.size;omega) (by have:=HLO.o;omega) (by have:=HK.o;omega)).mono ?_;rintro e w' ⟨v',rfl,ho,hg⟩;exact⟨v',rfl,hg,ho⟩
  simp only[Act.put,pB,pC,pD];refine kD ?_;refine kG (λW hE hN=>by have q1:=(hE.blk HBX.o dC).cells;exact gF) ?_;refine aU λW1 hE1 hG1=>?_;have HO1:=Hd (show W1.ownsRow base 5 1 u3 (l++(UInt8.ofNat i.key.length::i.key)).length (u8s (l++(UInt8.ofNat i.key.length::i.key)))/\True from hG1).1;have HE1:=Hd hE1;clear hE1 hG1;go_wp2_with fail;(with_reducible refine(rJ base S va vl vc i.value u3 (l++(UInt8.ofNat i.key.length::i.key)) W1 (H3.o.grew HS.o HE1.o) HS.o HO1.o (by have:=HB.o;have:=HE1.o.size;omega) (by have:=HLO.o;have:=HK.o;have:=E1.o;simp;omega) (by have:=HV8.o;omega)).mono ?_);rintro e w2 ⟨v2,rfl,ho2,hg2⟩
  obtain⟨l2,hl2⟩:∃l2,l++(UInt8.ofNat i.key.length::i.key)++(UInt8.ofNat i.value.length::i.value)=l2:=⟨_,rfl⟩;rw[hl2]at ho2;have HL2:=Hd hl2;have Vy:=Hd (show l2.length<=13000 by rw[<- hl2];have:=HLO.o;have:=HK.o;have:=E1.o;have:=E2.o;have:=HV8.o;simp;omega);have HO2:=Hd ho2;have HE2:=Hd (HE1.o.trans hg2);have q2:=(HE2.o.blk HBX.o dC).cells;have XE:=Hd (HE2.o.blk HBX.o dC);have HB2:=Hd (show base<=w2.heap.size by have:=HB.o;have:=HE2.o.size;omega);clear hl2 ho2 hg2;cases hint:i.int with
  |true=>
   rw[hint]at q2 XE;go_wp2_with fail;clear q2;refine' aN (Grew base 5) (vU _ _) 3 [.inl _, .inl _, .inr (jE (numCells [1]) 33 1), .inr (dW base 5 (l2++jZ [1] 1)), .inl _, .inl _, .inl _, .inr (jE (numCells [(i.n%18446744073709551616).toNat]) 33 1)] kR kR ?fZ
   case fZ=>
    iterate 2 refine kD ?_
    refine bZ dC rfl (jE.later) (jE.grew dC) (by rfl) (λW hE hN=>?_) (λu2=>?_)
    .go_simp;exact kQ
    simp only[Act.put,pB,pC,pD];refine aH dC rfl (dW.later) (by rfl) (λW hE hN=>?_) (λu3=>?_)
    .obtain⟨q,rfl,hq⟩:=(show jE (numCells [1]) 33 1 u2 W/\True from hN).1;go_simp;refine⟨Below.refl _ _,?_⟩;refine(vV base q 1 [1] v2 l2 W hq rfl oM (aK HO2.o hE) (by have:=HB2.o;have:=hE.size;omega) (by have:=Vy.o;omega) (by intro x hx;simp at hx;subst hx;omega)).mono ?_;rintro e w' ⟨v',rfl,ho,hg⟩;exact⟨v',rfl,hg,ho⟩
    simp only[Act.put,pB,pC,pD];refine kD ?_;refine kG (λW hE hN=>by have q1:=(hE.blk XE.o dC).cells;exact gF) ?_;refine kD ?_;refine bZ dC rfl (jE.later) (jE.grew dC) (by rfl) (λW hE hN=>?_) (λu7=>?_)
    .go_simp;rw[HNN.o];exact kQ
    simp only[Act.put,pB,pC,pD];refine aU λW3 hE3 hG3=>?_;obtain⟨⟨q,rfl,hq⟩,hrow,_⟩:=(show jE (numCells [(i.n%18446744073709551616).toNat]) 33 1 u7 W3/\W3.ownsRow base 5 1 u3 (l2++jZ [1] 1).length (u8s (l2++jZ [1] 1))/\jE (numCells [1]) 33 1 u2 W3/\True from hG3);have HR:=Hd hrow;have HQ:=Hd hq;have HE3:=Hd hE3;clear hrow hq hE3 hG3;go_wp2_with fail;(with_reducible refine(qy base q 1 [(i.n%18446744073709551616).toNat] u3 (l2++jZ [1] 1) _ HQ.o rfl oM HR.o (by have:=HB2.o;have:=HE3.o.size;omega) (by have:=Vy.o;rw[List.length_append,vT];simp;omega) (by intro x hx;simp at hx;subst hx;omega)).mono ?_);rintro e w4 ⟨v4,rfl,ho4,hg4⟩
    have HO4:=Hd ho4;have HG4:=Hd hg4;clear ho4 hg4;go_wp2;go_ret;refine⟨v4,rfl,?_,(Grew.of_below HBW.o).trans ((HE2.o.trans HE3.o).trans HG4.o)⟩;have h:=HO4.o;rw[<- HL2.o]at h;rw[yt,hint,show RD true=1 from rfl];simpa only[List.append_assoc]using h
  |false=>
   rw[hint]at q2 XE;go_wp2_with fail;clear q2;refine' aN (Grew base 5) (vU _ _) 3 [.inl _, .inl _, .inr (jE (numCells [0]) 33 1), .inr (dW base 5 (l2++jZ [0] 1)), .inl _, .inl _, .inl _, .inr (jE (numCells [(i.n%18446744073709551616).toNat]) 33 1)] kR kR ?iT
   case iT=>
    iterate 2 refine kD ?_
    refine bZ dC rfl (jE.later) (jE.grew dC) (by rfl) (λW hE hN=>?_) (λu2=>?_)
    .go_simp;exact kQ
    simp only[Act.put,pB,pC,pD];refine aH dC rfl (dW.later) (by rfl) (λW hE hN=>?_) (λu3=>?_)
    .obtain⟨q,rfl,hq⟩:=(show jE (numCells [0]) 33 1 u2 W/\True from hN).1;go_simp;refine⟨Below.refl _ _,?_⟩;refine(vV base q 1 [0] v2 l2 W hq rfl oM (aK HO2.o hE) (by have:=HB2.o;have:=hE.size;omega) (by have:=Vy.o;omega) (by intro x hx;simp at hx;subst hx;omega)).mono ?_;rintro e w' ⟨v',rfl,ho,hg⟩;exact⟨v',rfl,hg,ho⟩
    simp only[Act.put,pB,pC,pD];refine kD ?_;refine kG (λW hE hN=>by have q1:=(hE.blk XE.o dC).cells;exact gF) ?_;refine kD ?_;refine bZ dC rfl (jE.later) (jE.grew dC) (by rfl) (λW hE hN=>?_) (λu7=>?_)
    .go_simp;rw[HNN.o];exact kQ
    simp only[Act.put,pB,pC,pD];refine aU λW3 hE3 hG3=>?_;obtain⟨⟨q,rfl,hq⟩,hrow,_⟩:=(show jE (numCells [(i.n%18446744073709551616).toNat]) 33 1 u7 W3/\W3.ownsRow base 5 1 u3 (l2++jZ [0] 1).length (u8s (l2++jZ [0] 1))/\jE (numCells [0]) 33 1 u2 W3/\True from hG3);have HR:=Hd hrow;have HQ:=Hd hq;have HE3:=Hd hE3;clear hrow hq hE3 hG3;go_wp2_with fail;(with_reducible refine(qy base q 1 [(i.n%18446744073709551616).toNat] u3 (l2++jZ [0] 1) _ HQ.o rfl oM HR.o (by have:=HB2.o;have:=HE3.o.size;omega) (by have:=Vy.o;rw[List.length_append,vT];simp;omega) (by intro x hx;simp at hx;subst hx;omega)).mono ?_);rintro e w4 ⟨v4,rfl,ho4,hg4⟩
    have HO4:=Hd ho4;have HG4:=Hd hg4;clear ho4 hg4;go_wp2;go_ret;refine⟨v4,rfl,?_,(Grew.of_below HBW.o).trans ((HE2.o.trans HE3.o).trans HG4.o)⟩;have h:=HO4.o;rw[<- HL2.o]at h;rw[yt,hint,show RD false=0 from rfl];simpa only[List.append_assoc]using h
theorem JA(base:Nat)(S:Nat->Prop)(i:dS)(u v:Value)(l:List UInt8)(w:World)(h:Eu w S u i)(hS:∀b,S b->b<base)(hv:w.ownsRow base 5 1 v l.length (u8s l))(hb:base<=w.heap.size)(hlo:l.length<=10000)(hk:i.key.length<=1000):
  Calls Tryz.prog 214 #[u,v] w (nX 5 base (l++jS i) w):=by
 obtain⟨ka,kl,kc,h1,h2,h3,h4⟩:=h;subst h1;have e1:=h2.at_.hlen;obtain⟨w0,hw0⟩:∃w0,(w.alloc (.cells #[.slice ka kl kc, .int .i64 i.at_, .int .i64 i.red.c, .int .i64 i.red.n, .int .i64 (hi i.red.s), .int .u64 (lo i.red.s), .int .i64 i.red.l, .int .i64 i.red.m] 274)).alloc (.cells #[.int .i64 i.red.c, .int .i64 i.red.n, .int .i64 (hi i.red.s), .int .u64 (lo i.red.s), .int .i64 i.red.l, .int .i64 i.red.m] 35)=w0:=⟨_,rfl⟩;have hbw:Below w.heap.size w w0:=by rw[<- hw0];exact bW
 have hBX:Blk w0 w.heap.size [.slice ka kl kc, .int .i64 i.at_, .int .i64 i.red.c, .int .i64 i.red.n, .int .i64 (hi i.red.s), .int .u64 (lo i.red.s), .int .i64 i.red.l, .int .i64 i.red.m] 274:=by rw[<- hw0];exact(Blk.new w _ _).alloc _
 have hRX:Blk w0 (w.heap.size+1) [.int .i64 i.red.c, .int .i64 i.red.n, .int .i64 (hi i.red.s), .int .u64 (lo i.red.s), .int .i64 i.red.l, .int .i64 i.red.m] 35:=by rw[<- hw0];exact Blk.new' _ _ _ (by simp)
 have HBX:=Hd hBX;have HRX:=Hd hRX;have H2:=Hd (h2.ext hbw);have HV:=Hd (aK hv hbw);have HS:=Hd hS;have HB:=Hd (show base<=w0.heap.size by have:=hbw.size;omega);have HBW:=Hd hbw;have HK:=Hd (show kl<=1000 by omega);have HLO:=Hd hlo;have E1:=Hd e1;obtain⟨ln,hln⟩:∃n:Int->Nat,n=λx=>(x%18446744073709551616).toNat:=⟨_,rfl⟩;have wrp:∀x:Int,IntKind.u64.wrap x=((ln x:Nat):Int):=λx=>by rw[hln,wrap_u64];dsimp only;rw[Int.toNat_of_nonneg oM]
 have lnl:∀x:Int,ln x<18446744073709551616:=λx=>by rw[hln];dsimp only;omega
 have WRP:=Hd wrp;have LNL:=Hd lnl;have LOB:=Hd (show((lo i.red.s).toNat:Int)=lo i.red.s/\(lo i.red.s).toNat<18446744073709551616 by have:=Ou i.red.s;omega);have HLN:=Hd hln;clear hBX hRX h2 hv hS hb hbw e1 hk hlo h3 h4 hln wrp lnl;go_enter Tryz.func214,Tryz.ntmps214;go_wp2_with fail;clear hw0;refine' aN (Grew base 5) (vU _ _) 3 [.inl _, .inl _, .inl _, .inr (dW base 5 (l++(UInt8.ofNat i.key.length::i.key))), .inl _, .inl _, .inl _, .inl _, .inl _, .inl _, .inl _, .inl _, .inl _, .inr (jE (numCells [ln i.at_,ln i.red.c,ln i.red.n]) 33 3)] kR kR ?jI
 case jI=>
  iterate 2 refine kD ?_
  refine kG (λW hE hN=>by have q1:=(hE.blk HBX.o dC).cells;have q2:=(hE.blk HRX.o dC).cells;exact gF) ?_;refine aH dC rfl (dW.later) (by rfl) (λW hE hN=>?_) (λu3=>?_)
  .go_simp;refine⟨Below.refl _ _,?_⟩;refine(rJ base S ka kl kc i.key v l W (H2.o.ext hE) HS.o (aK HV.o hE) (by have:=HB.o;have:=hE.size;omega) (by have:=HLO.o;omega) (by have:=HK.o;omega)).mono ?_;rintro e w' ⟨v',rfl,ho,hg⟩;exact⟨v',rfl,hg,ho⟩
  simp only[Act.put,pB,pC,pD];refine kD ?_;refine kG (λW hE hN=>by have q1:=(hE.blk HBX.o dC).cells;have q2:=(hE.blk HRX.o dC).cells;exact gF) ?_;iterate 2 refine kD ?_
  refine kG (λW hE hN=>by have q1:=(hE.blk HBX.o dC).cells;have q2:=(hE.blk HRX.o dC).cells;exact gF) ?_;iterate 2 refine kD ?_
  refine kG (λW hE hN=>by have q1:=(hE.blk HBX.o dC).cells;have q2:=(hE.blk HRX.o dC).cells;exact gF) ?_;refine kD ?_;refine bZ dC rfl (jE.later) (jE.grew dC) (by rfl) (λW hE hN=>?_) (λu13=>?_)
  .go_simp;rw[WRP.o,WRP.o,WRP.o];exact kQ
  simp only[Act.put,pB,pC,pD];refine aU λW1 hE1 hG1=>?_;obtain⟨⟨q,rfl,hq⟩,hrow,_⟩:=(show jE (numCells [ln i.at_,ln i.red.c,ln i.red.n]) 33 3 u13 W1/\W1.ownsRow base 5 1 u3 (l++(UInt8.ofNat i.key.length::i.key)).length (u8s (l++(UInt8.ofNat i.key.length::i.key)))/\True from hG1);have HR:=Hd hrow;have HQ:=Hd hq;have HE1:=Hd hE1;clear hE1 hG1 hrow hq;go_wp2_with fail;(with_reducible refine(ED base q 3 [ln i.at_,ln i.red.c,ln i.red.n] u3 (l++(UInt8.ofNat i.key.length::i.key)) _ HQ.o rfl oM HR.o (by have:=HB.o;have:=HE1.o.size;omega) (by have:=HLO.o;have:=HK.o;have:=E1.o;simp;omega) (by intro x hx;simp at hx;rcases hx with rfl|rfl|rfl<;>exact LNL.o _)).mono ?_);rintro e w2 ⟨v2,rfl,ho2,hg2⟩
  obtain⟨l2,hl2⟩:∃l2,l++(UInt8.ofNat i.key.length::i.key)++jZ [ln i.at_,ln i.red.c,ln i.red.n] 4=l2:=⟨_,rfl⟩;rw[hl2]at ho2;have HL2:=Hd hl2;have Vy:=Hd (show l2.length<=13000 by rw[<- hl2,List.length_append,vT];have:=HLO.o;have:=HK.o;have:=E1.o;simp;omega);have HO2:=Hd ho2;have HE2:=Hd (HE1.o.trans hg2);have q2:=(HE2.o.blk HRX.o dC).cells;have l2':=(HE2.o.blk HRX.o dC).lt;have HB2:=Hd (show base<=w2.heap.size by have:=HB.o;have:=HE2.o.size;omega);have w1':=WRP.o (hi i.red.s);have w2':=WRP.o i.red.l;have w3':=WRP.o i.red.m;clear hl2 ho2 hg2;have HQ4:=Hd (show Blk (w2.alloc (.cells #[.int .u64 (ln (hi i.red.s):Nat), .int .u64 (lo i.red.s), .int .u64 (ln i.red.l:Nat), .int .u64 (ln i.red.m:Nat)] 33)) w2.heap.size (numCells [ln (hi i.red.s),(lo i.red.s).toNat,ln i.red.l,ln i.red.m]) 33 by
   have e:numCells [ln (hi i.red.s),(lo i.red.s).toNat,ln i.red.l,ln i.red.m]=[.int .u64 (ln (hi i.red.s):Nat), .int .u64 (lo i.red.s), .int .u64 (ln i.red.l:Nat), .int .u64 (ln i.red.m:Nat)]:=by unfold numCells;simp only[List.map_cons,List.map_nil,LOB.o.1]
   rw[e];exact Blk.new w2 _ _)
  have HO4:=Hd (aK HO2.o ((Below.refl _ w2).alloc (Nat.le_refl _) (.cells #[.int .u64 (ln (hi i.red.s):Nat), .int .u64 (lo i.red.s), .int .u64 (ln i.red.l:Nat), .int .u64 (ln i.red.m:Nat)] 33)));go_wp2_with fail;(with_reducible refine(qy base w2.heap.size 4 [ln (hi i.red.s),(lo i.red.s).toNat,ln i.red.l,ln i.red.m] v2 l2 _ HQ4.o rfl oM HO4.o (by have:=HB2.o;simp;omega) (by have:=Vy.o;omega) (by intro x hx;simp at hx;rcases hx with rfl|rfl|rfl|rfl<;>first|exact LNL.o _|exact LOB.o.2)).mono ?_);rintro e w4 ⟨v4,rfl,ho4,hg4⟩
  have HO5:=Hd ho4;have HG5:=Hd hg4;clear ho4 hg4;go_wp2;go_ret;refine⟨v4,rfl,?_,((Grew.of_below HBW.o).trans HE2.o).trans ((Grew.of_below ((Below.refl _ w2).alloc (Nat.le_refl _) _)).trans HG5.o)⟩;have h:=HO5.o;rw[<- HL2.o,HLN.o]at h;dsimp only at h;rw[Jz];simpa only[List.append_assoc]using h
theorem yu(base:Nat)(S:Nat->Prop)(x:dw)(u v:Value)(l:List UInt8)(w:World)(h:dD w S u x)(hS:∀b,S b->b<base)(hv:w.ownsRow base 5 1 v l.length (u8s l))(hb:base<=w.heap.size)(hlo:l.length<=10000)(hok:pOk x=true):
  Calls Tryz.prog (zh x) #[u,v] w (nX 5 base (l++vS x) w):=by
 obtain⟨h1,h2⟩:=Gx hok;cases x with
 |inl i=>exact Gy base S i u v l w h hS hv hb hlo (by unfold qX at h1;dsimp only at h1;omega) (by have:=h2 i rfl;omega)
 |inr k=>exact JA base S k u v l w h hS hv hb hlo (by unfold qX at h1;dsimp only at h1;omega)
end Go.Proofs.YtenmnhnlcnmloaaGreat
