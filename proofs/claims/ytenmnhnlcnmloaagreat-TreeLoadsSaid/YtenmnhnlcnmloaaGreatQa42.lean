/- Part of a proof of a law of the layer of trees. -/
import Derived.Test.YtenmnhnlcnmloaaGreatQa41
import Derived.RegionTactic
import Derived.BigRegion
import Derived.Deep.DeepCutAuto
import Derived.Test.YtenmnhnlcnmloaaGreatQa40
import Derived.Test.YtenmnhnlcnmloaaGreatQa16
import Derived.Test.YtenmnhnlcnmloaaGreatQa22
import Derived.Test.YtenmnhnlcnmloaaGreatQa01
set_option linter.unusedVariables false
set_option linter.unusedSimpArgs false
set_option maxHeartbeats 8000000
set_option maxRecDepth 8000
namespace Go.Dav
open Go Go.RowKit
def KU(B:Nat)(v:Value)(W:World)(b:Nat):Prop:=B<=b/\b<W.heap.size/\¬OwnB v b
def wkL:List aP:=[wkI 97,wkI 98,wkI 99,wkI 100,wkI 101,wkI 102,wkI 103]
theorem Xv:∀ {k:Nat},k<7->wkL[k]? =some (wkI (UInt8.ofNat (97+k)))/\((UInt8.ofNat (97+k)).toNat:Int)=97+(k:Int)
 |0,_=>⟨rfl,rfl⟩
 |1,_=>⟨rfl,rfl⟩
 |2,_=>⟨rfl,rfl⟩
 |3,_=>⟨rfl,rfl⟩
 |4,_=>⟨rfl,rfl⟩
 |5,_=>⟨rfl,rfl⟩
 |6,_=>⟨rfl,rfl⟩
 |k+7,h=>by omega
theorem TI{k:Nat}(h:k<7):IntKind.u8.wrap (97+(k:Int)+1)=97+((k+1:Nat):Int):=by
 rw[show IntKind.u8.wrap (97+(k:Int)+1)=(97+(k:Int)+1)%256 from rfl];omega
theorem Vr{n0 k g cap:Nat}{v:Value}{w1 w7:World}{cs:List Value}{L:List aP}{c:UInt8}{e tb:TypeId}{o2:Obj}(hown:w1.ownsRow (n0+2) e 4 v k cs)(hcs:aS w1 (KU (n0+2) v w1) cs L)(hn:n0+2<=w1.heap.size)
  (hgrow:((w1.alloc (.cells #[.int .u8 (c.toNat:Int)] tb)).alloc o2).grownBy w7 v.ownBlock) (hg:v.ownBlock=some g\/g=w1.heap.size+2) (u:Value):
  aS (w7.setCell ⟨n0+1,1,none⟩ u) (KU (n0+2) (.slice (some ⟨g,0,none⟩) (k+1) cap) (w7.setCell ⟨n0+1,1,none⟩ u)) (cs++[.slice (some ⟨w1.heap.size,0,none⟩) 1 1, .slice none 0 0, .bool false, .int .i64 0]) (L++[wkI c]):=by
 have hb:Below w1.heap.size w1 ((w1.alloc (.cells #[.int .u8 (c.toNat:Int)] tb)).alloc o2):=((Below.refl _ _).alloc (Nat.le_refl _) _).alloc (by simp) _;have hs7:=hgrow.size;simp only[World.size_alloc]at hs7;have hov:∀b,OwnB v b->n0+2<=b/\b<w1.heap.size:=λb h=>World.ownsRow.lt hown b h;have hno:∀b,b<w1.heap.size+2->¬OwnB v b->¬OwnB (.slice (some ⟨g,0,none⟩) (k+1) cap) b:=λb hl hn e=>by
  have e2:g=b:=Option.some.inj e;subst e2;rcases hg with h|h
  .exact hn h
  .omega
 have hkeep:∀b,n0+2<=b->b<w1.heap.size+2->¬OwnB v b->(w7.setCell ⟨n0+1,1,none⟩ u).heap[b]? =((w1.alloc (.cells #[.int .u8 (c.toNat:Int)] tb)).alloc o2).heap[b]?:=λb h1 h2 h3=>
  (Below.heap_setCell w7 ⟨n0+1,1,none⟩ u b (λe=>by have e2:b=n0+1:=e;omega)).trans (hgrow.block b (by simp;omega) (λe=>h3 e.symm))
 have h1:aS (w7.setCell ⟨n0+1,1,none⟩ u) (KU (n0+2) (.slice (some ⟨g,0,none⟩) (k+1) cap) (w7.setCell ⟨n0+1,1,none⟩ u)) cs L:=
  (hcs.same (by simp;omega) λb hk _=>(hkeep b hk.1 (by have:=hk.2.1;omega) hk.2.2).trans (hb.block b hk.2.1)).mono λb hk=>⟨hk.1,by have:=hk.2.1;simp;omega,hno b (by have:=hk.2.1;omega) hk.2.2⟩
 have hnv:¬OwnB v w1.heap.size:=λh=>by have:=(hov _ h).2;omega
 have hk0:Blk ((w1.alloc (.cells #[.int .u8 (c.toNat:Int)] tb)).alloc o2) w1.heap.size (u8s [c]) tb:=(Blk.new w1 (u8s [c]) tb).alloc o2;have hk2:Blk (w7.setCell ⟨n0+1,1,none⟩ u) w1.heap.size (u8s [c]) tb:=(hkeep _ hn oM hnv).trans hk0;exact h1.snoc (x:=wkI c) ((jf (n:=1) hk2 rfl oM).mono λb hb=>by subst hb;exact⟨hn,hk2.lt,hno _ oM hnv⟩) au.nil_ (by show eY (0:Int);unfold eY;omega)
theorem au.aay{W:World}{S:Nat->Prop}{a:Option Addr}{n c p t:Nat}{l:List UInt8}{cs:List Value}(h:au W S a n c l)(hp:Blk W p cs t)(hc:∀v∈cs,∀x,v≠ .int .u8 x):au W (λb=>S b/\b≠p) a n c l:=
 ⟨h.at_,λk x hk=>by
  obtain⟨b,o,h1,h2⟩:=h.in_ k x hk;obtain⟨b',o',h1',_,h3⟩:=h.at_.hat k x hk;rw[h1]at h1';cases h1';refine⟨b,o,h1,h2,λe=>?_⟩;subst e;rw[hp.cells]at h3;exact hc _ (List.mem_of_getElem? h3) _ rfl⟩
theorem gI(W:World)(l:List UInt8)(t:TypeId)(fz:Nat×Nat)(n:Nat)(hn:l.length=n)(h:n<=1000000):BytesAt (W.alloc (.cells (u8s l).toArray t fz)) (some ⟨W.heap.size,0,none⟩) n n l:=by
 have e:(W.alloc (.cells (u8s l).toArray t fz)).heap[W.heap.size]? =some (.cells (u8s l).toArray t fz):=by unfold World.alloc;simp
 refine⟨hn,Nat.le_refl _,by unfold maxLen;omega,oM,λk x hx=>⟨W.heap.size,0,rfl,by simp,?_⟩,λe=>by cases e⟩;rw[Nat.zero_add];unfold World.cell?;simp only[e];simpa using oG hx
structure Ee(W:World)(S:Nat->Prop)(s:bJ):Prop where
 ok:s.ok=true
 hB:au W S s.a s.n s.c s.l
 hf:iH s.a
theorem Ee.ext{W W':World}{S:Nat->Prop}{s:bJ}(h:Ee W S s)(hb:Below W.heap.size W W'):Ee W' S s:=⟨h.ok,h.hB.ext hb,h.hf⟩
theorem Ee.can{W:World}{S:Nat->Prop}{s:bJ}(h:Ee W S s){k:Nat}(hk:k<=s.n):s.can k=true:=by unfold bJ.can;rw[h.ok,Bool.true_and];simpa using hk
theorem Ee.cannot{W:World}{S:Nat->Prop}{s:bJ}(h:Ee W S s){k:Nat}(hk:¬k<=s.n):s.can k=false:=by unfold bJ.can;rw[h.ok,Bool.true_and];simpa using hk
theorem Ee.QM{W:World}{S:Nat->Prop}{s:bJ}(h:Ee W S s){k:Nat}(hk:k<=s.n):s.next k=⟨qR s.a s.c k,s.n-k,s.c-k,s.l.drop k,true⟩:=by unfold bJ.next;rw[h.can hk,if_pos rfl]
theorem Ee.next{W:World}{S:Nat->Prop}{s:bJ}(h:Ee W S s){k:Nat}(hk:k<=s.n):Ee W S (s.next k):=by
 rw[h.QM hk];exact⟨rfl,h.hB.drop hk,h.hf.adv _ _⟩
theorem Ee.not{W:World}{S:Nat->Prop}{s:bJ}(h:Ee W S s){k:Nat}(hk:¬k<=s.n):(s.next k).ok=false:=by unfold bJ.next;rw[h.cannot hk];rfl
theorem Ee.bytes{W:World}{S:Nat->Prop}{s:bJ}(h:Ee W S s){k:Nat}(hk:k<=s.n):s.bytes k=s.l.take k:=by unfold bJ.bytes;rw[h.can hk,if_pos rfl]
theorem TJ{a:Option Addr}(h:iH a){c k:Nat}(hne:c≠k):qR a c k=a.map λx=>x.add k:=by
 unfold qR;rw[if_neg hne];rcases h with rfl|⟨b,o,rfl⟩
 .rfl
 .simp[Addr.add_lit]
theorem QN(x:UInt8):numOf [x]=x.toNat:=by simp[numOf]
theorem N9{l:List UInt8}{k:Nat}{x:UInt8}(h:l[k]? =some x):numOf (l.take (k+1))=numOf (l.take k)*256+x.toNat:=by
 rw[List.take_add_one,h];exact Dn _ _
end Go.Dav
namespace Go.Proofs.YtenmnhnlcnmloaaGreat
open Go.RowKit Go.Dav
attribute [local go_sem] Gives dG ite_val ay
theorem Ja(w:World):Calls Tryz.prog 19 #[] w λe w'=>e= .returned (.bool true)/\Below w.heap.size w w':=by
 have b0:Below w.heap.size w ((w.alloc (.cells #[.int .i64 0] 3)).alloc (.cells #[.slice none 0 0, .slice none 0 0, .slice (some ⟨w.heap.size,0,none⟩) 1 1, .int .i64 0, .int .i64 0] 55)):=bW;obtain⟨W0,hW0⟩:∃W0,(w.alloc (.cells #[.int .i64 0] 3)).alloc (.cells #[.slice none 0 0, .slice none 0 0, .slice (some ⟨w.heap.size,0,none⟩) 1 1, .int .i64 0, .int .i64 0] 55)=W0:=⟨_,rfl⟩;have q0:Blk W0 w.heap.size [.int .i64 0] 3:=by rw[<- hW0];exact(Blk.new _ _ _).alloc _
 have q1:Blk W0 (w.heap.size+1) [.slice none 0 0, .slice none 0 0, .slice (some ⟨w.heap.size,0,none⟩) 1 1, .int .i64 0, .int .i64 0] 55:=by rw[<- hW0];exact Blk.new' _ _ _ (by simp)
 have hsz:w.heap.size+2=W0.heap.size:=by rw[<- hW0];simp
 rw[hW0]at b0;have HB0:=Hd b0;have HQ0:=Hd q0;have HQ1:=Hd q1;have HSZ:=Hd hsz;have HW0:=Hd hW0;clear b0 q0 q1 hsz hW0;go_enter Tryz.func19,Tryz.ntmps19;go_wp2_with fail;rw[HW0.o];clear HW0;go_loopw [2] (λcv wr=>∃(k:Nat) (v:Value) (cs:List Value),cv= .int .u8 (97+(k:Int))/\k<=7/\Blk wr (w.heap.size+1) [.slice none 0 0,v, .slice (some ⟨w.heap.size,0,none⟩) 1 1, .int .i64 0, .int .i64 0] 55/\Blk wr w.heap.size [.int .i64 0] 3/\wr.ownsRow (w.heap.size+2) 60 4 v k cs/\aS wr (KU (w.heap.size+2) v wr) cs (wkL.take k)/\Below w.heap.size w wr/\w.heap.size+2<=wr.heap.size) (λcv _=>200-(intOf cv).toNat)
 case atStart=>exact⟨0, .slice none 0 0,[],rfl,oM,HQ1.o,HQ0.o,World.ownsRow_nil _ _ _ _,aS.nil,HB0.o,Nat.le_of_eq HSZ.o⟩
 case round=>
  obtain⟨k,v,cs,rfl,hk,hq1,hq0,hown,hcs,hbel,hsz⟩:=hrel;rename World=>w1
  clear HQ0 HQ1 HB0 HSZ;by_cases hlt:k<7
  .have hk1:(97:Int)+(k:Int)<=103:=oM;obtain⟨hx,hxc⟩:=Xv hlt;have hu8:=TI hlt;have c1:=hq1.cells;have l1:=hq1.lt;have m1:=hq1.marks;have HC1:=Hd hq1;have HC0:=Hd hq0;have HOWN:=Hd hown;have HCS:=Hd hcs;have Oj:=Hd hbel;have HSZ:=Hd hsz;have HX:=Hd (And.intro hx hxc);have HLT:=Hd hlt;obtain⟨i0,hi0,hz0,hz1,hz2⟩:=info_parts jm;clear hq1 hq0 hown hcs hbel hsz hx hxc hlt hk;have BP:=Hd ((HOWN.o.alloc (.cells #[.int .u8 (97+(k:Int))] 5)).alloc (.cells #[.slice (some ⟨w1.heap.size,0,none⟩) 1 1, .slice none 0 0, .bool false, .int .i64 0] 60));have Vb:=Hd (show ∀j u,([.slice (some ⟨w1.heap.size,0,none⟩) 1 1, .slice none 0 0, .bool false, .int .i64 0]:List Value)[j]? =some u->((w1.alloc (.cells #[.int .u8 (97+(k:Int))] 5)).alloc (.cells #[.slice (some ⟨w1.heap.size,0,none⟩) 1 1, .slice none 0 0, .bool false, .int .i64 0] 60)).cell? ((⟨w1.heap.size+1,0,none⟩:Addr).add j)=some u from λj u hu=>by
    rw[Addr.add_mid,Nat.zero_add];exact(Blk.new' (w1.alloc (.cells #[.int .u8 (97+(k:Int))] 5)) [.slice (some ⟨w1.heap.size,0,none⟩) 1 1, .slice none 0 0, .bool false, .int .i64 0] 60 (by simp)).cell j hu)
   go_wp2_with (at_builtin;go_loud (refine wpList_append_lies _ rfl (.tmp 21) (.tmp 25) 23 rfl (w.heap.size+2) 60 i0 _ 4 64 Tryz.underlying23 hi0 hz0 hz1 hz2 rfl dC v k cs rfl BP.o ⟨w1.heap.size+1,0,none⟩ 1 1 [.slice (some ⟨w1.heap.size,0,none⟩) 1 1, .slice none 0 0, .bool false, .int .i64 0] rfl rfl Vb.o (by intro u hu;simp at hu;rcases hu with rfl|rfl|rfl|rfl<;>rfl) oM (by have:=HLT.o;unfold maxLen;omega) (by have:=HLT.o;omega) (by have:=HSZ.o;simp;omega) _ rfl ?_;intro g cap w7 hown hgrow hgl Xo;have HG7:=Hd hgrow;have HO7:=Hd hown;have HGL:=Hd hgl;have hbx:=(hgrow.block (w.heap.size+1) (by have:=HSZ.o;simp;omega) (λe=>by have:=(World.ownsRow.lt HOWN.o _ e.symm).1;omega)).trans ((HC1.o.alloc _).alloc _);have hbx0:=(hgrow.block w.heap.size (by have:=HSZ.o;simp;omega) (λe=>by have:=(World.ownsRow.lt HOWN.o _ e.symm).1;omega)).trans ((HC0.o.alloc _).alloc _);have HX7:=Hd (show Blk w7 (w.heap.size+1) _ _ from hbx);have HX0:=Hd (show Blk w7 w.heap.size _ _ from hbx0);have d1:=HX7.o.cells;have d1l:=HX7.o.lt;have d1m:=HX7.o.marks;clear hown hgrow hgl Xo hbx hbx0 hi0 hz0 hz1 hz2))
   go_roundw
   case rel=>
    have hst:=Vr (c:=UInt8.ofNat (97+k)) (cap:=cap) HOWN.o HCS.o HSZ.o (by rw[HX.o.2];exact HG7.o) (by have h:=HGL.o;simpa using h) (.slice (some ⟨g,0,none⟩) (k+1) cap);have hne:∀b,OwnB (.slice (some ⟨g,0,none⟩) (k+1) cap) b->w.heap.size+2<=b:=λb h=>(World.ownsRow.lt HO7.o b h).1;have hb2:Below w1.heap.size w1 ((w1.alloc (.cells #[.int .u8 (97+(k:Int))] 5)).alloc (.cells #[.slice (some ⟨w1.heap.size,0,none⟩) 1 1, .slice none 0 0, .bool false, .int .i64 0] 60)):=bW;have hsz:=HSZ.o;have hs7:=HG7.o.size;simp only[World.size_alloc]at hs7;have hbel:=((Oj.o.trans (hb2.mono Oj.o.size)).grown HG7.o (by simp;omega) (λb e=>by have:=(World.ownsRow.lt HOWN.o b e).1;omega));refine⟨k+1, .slice (some ⟨g,0,none⟩) (k+1) cap,_,?_,HLT.o,HX7.o.set 1 _,HX0.o.other oM 1 _,xw HO7.o HX7.o dC,?_,?_,by simp;omega⟩
    .push_cast;rfl
    .rw[List.take_add_one,HX.o.1];exact hst
    .exact hbel.trans (((Below.refl _ _).setCell (p:=⟨w.heap.size+1,1,none⟩) (Nat.le_succ _) _))
   case measure=>have:=HLT.o;simp[intOf];omega
  .have tokA:=True.intro;obtain rfl:k=7:=oM;obtain⟨ia,ic,rfl,hI⟩:=hcs.shut2 hown oM;have HBS:=Hd (show Bo w1 (λb=>b<w1.heap.size) none 0 0 ia 7 ic (some ⟨w.heap.size,0,none⟩) 1 1 wkB from⟨au.nil_,hI.bound.mono λb h=>h.2,(cells_one (S:=λb=>b<w1.heap.size) (g:=w.heap.size) (v:= .int .i64 0) hq0.lt hq0.lt (hq0.cell 0 rfl)),Nat.le_refl _,oM,by show eY (0:Int);unfold eY;omega,by show eY (0:Int);unfold eY;omega⟩);have nS:=Hd (show Calls Tryz.prog 20 #[.agg #[.slice none 0 0, .slice ia 7 ic, .slice (some ⟨w.heap.size,0,none⟩) 1 1, .int .i64 0, .int .i64 0]] w1 _ from I7 wkB none ia (some ⟨w.heap.size,0,none⟩) 0 0 7 ic 1 1 w1 _ HBS.o (λb h=>h));have c1:=hq1.cells;have l1:=hq1.lt;have Oj:=Hd hbel;clear hq1 hq0 hown hcs hbel hsz hI hlt hk;go_wp2_with fail;refine nS.o.mono ?_;rintro e W1 ⟨fa,fl,fc,la,ll,lc,ra,rn,rc,rfl,hF,hR,hb⟩;rw[Vm]at hF⊢;rw[show(fU (wkF,wkT).2).toArray= #[.int .i64 102, .int .i64 1, .int .i64 7, .int .i64 0, .int .i64 0, .int .u64 0, .int .i64 0, .int .i64 0] by simp[fU,wkT,jF,jG]];dsimp only at hF⊢;have HF:=Hd hF;have HB1:=Hd (Oj.o.trans (hb.mono Oj.o.size));clear hF hR hb nS HBS Oj c1 l1;go_upto_region 7 with fail;obtain⟨W2,hW2⟩:∃W2,(W1.alloc (.cells #[.slice fa fl fc, .slice la ll lc, .int .i64 wkF.fuse, .int .i64 wkF.fault, .bool wkF.off] 32)).alloc (.cells #[.int .i64 102, .int .i64 1, .int .i64 7, .int .i64 0, .int .i64 0, .int .u64 0, .int .i64 0, .int .i64 0] 37)=W2:=⟨_,rfl⟩;have hb2:Below W1.heap.size W1 W2:=by rw[<- hW2];exact bW
   have HQF:=Hd (show Blk W2 W1.heap.size [.slice fa fl fc, .slice la ll lc, .int .i64 wkF.fuse, .int .i64 wkF.fault, .bool wkF.off] 32 by rw[<- hW2];exact(Blk.new _ _ _).alloc _);have HQT:=Hd (show Blk W2 (W1.heap.size+1) [.int .i64 102, .int .i64 1, .int .i64 7, .int .i64 0, .int .i64 0, .int .u64 0, .int .i64 0, .int .i64 0] 37 by rw[<- hW2];exact Blk.new' _ _ _ (by simp));rw[hW2];have HF2:=Hd (HF.o.wL.ext hb2);have HB2:=Hd (HB1.o.trans (hb2.mono HB1.o.size));have HSS:=Hd hb2.size;have HWS:=Hd HB1.o.size;clear hW2 hb2 HF HB1;have HI1:=Hd (show eY wkT.at_ by show eY (102:Int);unfold eY;omega);have HFT:=Hd (show wkT.red.fits by show I64 7/\I64 0/\I64 0/\I64 0;unfold I64;omega);have HTV:=Hd (show(fU wkT).toArray= #[.int .i64 102, .int .i64 1, .int .i64 7, .int .i64 0, .int .i64 0, .int .u64 0, .int .i64 0, .int .i64 0] by simp[fU,wkT,jF,jG]);have tf:=HQF.o.cells;have tfl:=HQF.o.lt;have tt:=HQT.o.cells;have ttl:=HQT.o.lt;have hcv:=λ(w:World) (C:Array Value) (n c:Nat)=>Lib.run_convert_bytes_const (P:=Tryz.prog) w 22 5 C n c Tryz.underlying22 Tryz.underlying5;have hcv2:=λ(w:World) (C D:Array Value) (n c:Nat)=>(show(convert 22 22 (.slice (some ⟨w.heap.size+1,0,none⟩) n c)).run Tryz.prog ((w.alloc (.cells C 5 (1,2))).alloc (.cells D 5))= .ok (.slice (some ⟨w.heap.size+1,0,none⟩) n c) ((w.alloc (.cells C 5 (1,2))).alloc (.cells D 5 (D.size,D.size+1)))from by
    have h:=hcv (w.alloc (.cells C 5 (1,2))) D n c;rw[World.size_alloc]at h;exact h)
   have HG1:=Hd (λ(W:World) (hE:Below W2.heap.size W2 W) (g:Nat) (hg:BytesAt W (some ⟨g,0,none⟩) 1 1 [100])=>by have q:=I9 wkF fa la fl fc ll lc wkT (some ⟨g,0,none⟩) 1 1 [100] W (HF2.o.at_.ext hE) HI1.o HFT.o hg oM;rw[Xu,HTV.o]at q;exact q);go_wp2_with fail;refine(HG1.o _ ((Below.refl _ _).alloc (Nat.le_refl _) _) W2.heap.size (gI W2 [100] _ _ 1 rfl oM)).mono ?_;rintro e W3 ⟨⟨xv,rfl,ka,kl,kc,va,vl,vc,rfl,hK,hV,_⟩,hb⟩;have hb3:Below W2.heap.size W2 W3:=((Below.refl W2.heap.size W2).alloc (Nat.le_refl _) _).trans (hb.mono (by simp));have HK3:=Hd hK;have E3:=Hd hb3;have tf:=(HQF.o.ext hb3).cells;have tfl:=(HQF.o.ext hb3).lt;have tt:=(HQT.o.ext hb3).cells;have ttl:=(HQT.o.ext hb3).lt;clear hK hV hb3 hb HG1;dsimp only[wkI];go_upto_region 8 with fail;obtain⟨W4,hW⟩:∃X,W3.alloc (.cells #[.slice ka kl kc, .slice va vl vc, .bool false, .int .i64 0] 60)=X:=⟨_,rfl⟩;have hb4:Below W3.heap.size W3 W4:=by rw[<- hW];exact(Below.refl _ _).alloc (Nat.le_refl _) _
   have E4:=Hd (E3.o.trans (hb4.mono E3.o.size));clear tf tfl tt ttl;have tf:=(HQF.o.ext E4.o).cells;have tfl:=(HQF.o.ext E4.o).lt;have tt:=(HQT.o.ext E4.o).cells;have ttl:=(HQT.o.ext E4.o).lt;rw[hW];have HX4:=Hd (show Blk W4 W3.heap.size [.slice ka kl kc, .slice va vl vc, .bool false, .int .i64 0] 60 by rw[<- hW];exact Blk.new _ _ _);have HK4:=Hd (HK3.o.at_.s.ext hb4);clear hW hb4 HK3;have HG2:=Hd (λ(W:World) (hE:Below W2.heap.size W2 W) (g:Nat) (hg:BytesAt W (some ⟨g,0,none⟩) 2 2 [100,97])=>by have q:=I9 wkF fa la fl fc ll lc wkT (some ⟨g,0,none⟩) 2 2 [100,97] W (HF2.o.at_.ext hE) HI1.o HFT.o hg oM;rw[Vo,HTV.o]at q;exact q);go_wp2_with fail;refine(HG2.o _ (E4.o.trans (((Below.refl W4.heap.size W4).alloc (Nat.le_refl _) _).mono E4.o.size)) W4.heap.size (gI W4 [100,97] _ _ 2 rfl oM)).mono ?_;rintro e W5 ⟨⟨xv,rfl,k2a,k2l,k2c,v2a,v2l,v2c,rfl,_,_,_⟩,hb⟩;have hb5:Below W4.heap.size W4 W5:=((Below.refl W4.heap.size W4).alloc (Nat.le_refl _) _).trans (hb.mono (by simp));have E5:=Hd (E4.o.trans (hb5.mono E4.o.size));clear tf tfl tt ttl;have tf:=(HQF.o.ext E5.o).cells;have tfl:=(HQF.o.ext E5.o).lt;have tt:=(HQT.o.ext E5.o).cells;have ttl:=(HQT.o.ext E5.o).lt;have HX5:=Hd (HX4.o.ext hb5);have HK5:=Hd (HK4.o.ext hb5);clear hb5 hb HX4 HK4 HG2;dsimp only[I8];go_upto_region 9 with fail;obtain⟨W6,hW⟩:∃X,W5.alloc (.cells #[.slice k2a k2l k2c, .slice v2a v2l v2c, .bool false, .int .i64 0] 60)=X:=⟨_,rfl⟩;have hb4:Below W5.heap.size W5 W6:=by rw[<- hW];exact(Below.refl _ _).alloc (Nat.le_refl _) _
   have E6:=Hd (E5.o.trans (hb4.mono E5.o.size));clear tf tfl tt ttl;have tf:=(HQF.o.ext E6.o).cells;have tfl:=(HQF.o.ext E6.o).lt;have tt:=(HQT.o.ext E6.o).cells;have ttl:=(HQT.o.ext E6.o).lt;rw[hW];have HX6:=Hd (HX5.o.ext hb4);have HK6:=Hd (HK5.o.ext hb4);clear hW hb4 HX5 HK5;have HG3:=Hd (λ(W:World) (hE:Below W2.heap.size W2 W) (g h:Nat) (hg:BytesAt W (some ⟨g,0,none⟩) 1 1 [98]) (hh:BytesAt W (some ⟨h,0,none⟩) 1 1 [101])=>by have q:=BD wkF fa la fl fc ll lc wkT ⟨[98],true,[101]⟩ (some ⟨g,0,none⟩) (some ⟨h,0,none⟩) 1 1 1 1 true 2 W (HF2.o.at_.ext hE) HI1.o HFT.o hg hh;rw[TD,HTV.o]at q;exact q);go_wp2_with fail;refine(HG3.o _ (E6.o.trans ((((Below.refl W6.heap.size W6).alloc (Nat.le_refl _) _).alloc (by simp) _).mono E6.o.size)) W6.heap.size (W6.heap.size+1) ((gI W6 [98] _ _ 1 rfl oM).ext ((Below.refl _ _).alloc (Nat.le_refl _) _)) (by have h:=gI (W6.alloc (.cells #[.int .u8 98] 5 (1,2))) [101] 5 (1,2) 1 rfl oM;rw[World.size_alloc]at h;exact h)).mono ?_;rintro e W7 ⟨⟨ga,gn,gc,rfl,hG,_⟩,hb⟩;have hb5:Below W6.heap.size W6 W7:=(((Below.refl W6.heap.size W6).alloc (Nat.le_refl _) _).alloc (by simp) _).trans (hb.mono (by simp;omega));have E7:=Hd (E6.o.trans (hb5.mono E6.o.size));clear tf tfl tt ttl;have tf:=(HQF.o.ext E7.o).cells;have tfl:=(HQF.o.ext E7.o).lt;have tt:=(HQT.o.ext E7.o).cells;have ttl:=(HQT.o.ext E7.o).lt;obtain rfl:2=gn:=hG.hlen;have HGI:=Hd hG;have HX7:=Hd (HX6.o.ext hb5);have HK7:=Hd (HK6.o.ext hb5);clear hb5 hb hG HX6 HK6 HG3;go_upto_region 10 with fail;obtain⟨M,hM,hM2⟩:∃M,jo wkF.all 102 1=some M/\M.kids.length=2:=by
    have h:=Vp;cases hl:jo wkF.all 102 1 with
    |none=>rw[hl]at h;cases h
    |some M=>rw[hl]at h;exact⟨M,rfl,by simpa using h⟩
   have HG4:=Hd (λ(W:World) (hE:Below W2.heap.size W2 W)=>by have q:=tJ wkF fa la fl fc ll lc 102 1 W _ ((HF2.o.wL.ext hE).mono (T:=λb=>b<W.heap.size) (λb h=>Nat.lt_of_lt_of_le h.2 hE.size)) (λb h=>h) TB (by unfold eY;omega);rw[hM]at q;exact q);go_wp2_with fail;refine(HG4.o W7 E7.o).mono ?_;rintro e W8 ⟨na,nl,nc,ma,ml,mc,rfl,hN,hb5⟩;have E8:=Hd (E7.o.trans (hb5.mono E7.o.size));clear tf tfl tt ttl;have tf:=(HQF.o.ext E8.o).cells;have tfl:=(HQF.o.ext E8.o).lt;have tt:=(HQT.o.ext E8.o).cells;have ttl:=(HQT.o.ext E8.o).lt;obtain rfl:2=ml:=by rw[<- hM2];exact hN.kids.hlen
   have HX8:=Hd (HX7.o.ext hb5);have HK8:=Hd (HK7.o.ext hb5);have HGJ:=Hd (HGI.o.ext1 hb5);clear hb5 hN hM hM2 HX7 HK7 HG4 HGI;go_upto_region 11 with fail;obtain⟨W9,hW⟩:∃X,W8.alloc (.cells #[.bool M.leaf, .slice na nl nc, .slice ma 2 mc] 67)=X:=⟨_,rfl⟩;have hb4:Below W8.heap.size W8 W9:=by rw[<- hW];exact(Below.refl _ _).alloc (Nat.le_refl _) _
   have E9:=Hd (E8.o.trans (hb4.mono E8.o.size));clear tf tfl tt ttl;have tf:=(HQF.o.ext E9.o).cells;have tfl:=(HQF.o.ext E9.o).lt;have tt:=(HQT.o.ext E9.o).cells;have ttl:=(HQT.o.ext E9.o).lt;rw[hW];have HN9:=Hd (show Blk W9 W8.heap.size [.bool M.leaf, .slice na nl nc, .slice ma 2 mc] 67 by rw[<- hW];exact Blk.new _ _ _);have HX9:=Hd (HX8.o.ext hb4);have HK9:=Hd (HK8.o.ext hb4);have HG9:=Hd (HGJ.o.ext1 hb4);clear hW hb4 HX8 HK8 HGJ;have HG5:=Hd (λ(W:World) (hE:Below W2.heap.size W2 W)=>by have q:=Bd wkF fa la fl fc ll lc wkT W (HF2.o.at_.ext hE) HI1.o HFT.o;rw[TF,HTV.o]at q;exact q);go_wp2_with fail;refine(HG5.o W9 E9.o).mono ?_;rintro e W10 ⟨rfl,hb⟩;have E10:=Hd (E9.o.trans (hb.mono E9.o.size));have Zk:=Hd (HX9.o.ext hb);have Us:=Hd (HN9.o.ext hb);have aaz:=Hd (show au W10 _ ka kl kc [100]from HK9.o.ext hb);have aaA:=Hd (HG9.o.ext1 hb);clear hb HX9 HN9 HK9 HG9 HG5 tf tfl tt ttl;have tx:=Zk.o.cells;have txl:=Zk.o.lt;go_wp2_with fail;have hba:Below W10.heap.size W10 (W10.alloc (.cells #[.int .u8 100] 5 (1,2))):=(Below.refl _ _).alloc (Nat.le_refl _) _;refine(fE ka (some ⟨W10.heap.size,0,none⟩) kl kc 1 1 [100] [100] _ (aaz.o.at_.ext hba) (gI W10 [100] _ _ 1 rfl oM)).mono ?_;rintro e W11 ⟨rfl,hb⟩;have hb5:Below W10.heap.size W10 W11:=hba.trans (hb.mono (by simp));have E11:=Hd (E10.o.trans (hb5.mono E10.o.size));have Ri:=Hd (Us.o.ext hb5);have Zl:=Hd (aaA.o.ext1 hb5);clear hb hba hb5 Zk Us aaz aaA tx txl;have tn:=Ri.o.cells;have tnl:=Ri.o.lt;have tt:=(HQT.o.ext E11.o).cells;have ttl:=(HQT.o.ext E11.o).lt;have ttm:=(HQT.o.ext E11.o).marks;have hde:decide (([100]:List UInt8)=[100])=true:=rfl;go_upto_region 14 with fail;have hqt:=HQT.o.ext E11.o;obtain⟨b0,o0,x0a,x0l,x0c,_,_,_,rfl,hb0,_,d0,_,_,_,h0,_,_⟩:=Zl.o.hat 0 (wkI 100) rfl;obtain⟨b1,o1,x1a,x1l,x1c,_,_,_,he1,_,_,d1,_,_,_,h1,_,_⟩:=Zl.o.hat 1 (wkI 99) rfl;cases he1;have hbp:b0≠W1.heap.size+1:=λe=>by
    subst e;rw[hqt.cells]at d0;have:=List.mem_of_getElem? d0;simp at this
   have Zm:∀v∈([.int .i64 102, .int .i64 1, .int .i64 7, .int .i64 0, .int .i64 0, .int .u64 0, .int .i64 0, .int .i64 0]:List Value),∀x,v≠ .int .u8 x:=λv hv x e=>by subst e;simp at hv
   have h0':=h0.aay hqt Zm;have h1':=h1.aay hqt Zm;have ho:=(aA.refl (· =W1.heap.size+1) W11).set (W1.heap.size+1) 2 (.int .i64 8) rfl;have Zn:=hqt.set 2 (.int .i64 8);obtain⟨W12,aaB⟩:∃X,W11.setCell ⟨W1.heap.size+1,2,none⟩ (.int .i64 8)=X:=⟨_,rfl⟩;rw[aaB]at ho Zn⊢;have hss:=HSS.o;have Xw:=Hd ((HQF.o.ext E11.o).aQ ho oM);have Xx:=Hd (show Blk W12 (W1.heap.size+1) [.int .i64 102, .int .i64 1, .int .i64 8, .int .i64 0, .int .i64 0, .int .u64 0, .int .i64 0, .int .i64 0] 37 from Zn);have ab7:=Hd ((HF2.o.ext E11.o).same ho.size λb h hl=>ho.block b hl (by have:=h.2;omega));have aaC:=Hd ((HB2.o.trans (E11.o.mono HB2.o.size)).trans (ho.below (Nat.le_trans HB2.o.size E11.o.size) (λk e=>by have:=HWS.o;omega)));have HK0:=Hd (show au W12 _ x0a x0l x0c [100]from h0'.gG ho λb h=>h.2);have HK1:=Hd (show au W12 _ x1a x1l x1c [99]from h1'.gG ho λb h=>h.2);have e0:W12.cell? ⟨b0,o0,none⟩=some (.slice x0a x0l x0c):=by
    have h:=(World.cell?_of_block (a:=⟨b0,o0,none⟩) (ho.block b0 hb0 hbp)).trans (by simpa using d0);exact h
   have e1:W12.cell? ⟨b0,o0+4,none⟩=some (.slice x1a x1l x1c):=by
    have h:=(World.cell?_of_block (a:=⟨b0,o0+4,none⟩) (ho.block b0 hb0 hbp)).trans (by simpa using d1);exact h
   have e0l:b0<W12.heap.size:=Nat.lt_of_lt_of_le hb0 ho.size;have aaD:=Hd (And.intro e0 e1);clear h0 h1 h0' h1' d0 d1 hb0 hbp Zm ho hqt Zn aaB hss hde tn tnl tt ttl ttm HQF HQT HF2 Ri Zl HTV HI1 HFT;go_wp2_with fail;have hba:Below W12.heap.size W12 (W12.alloc (.cells #[.int .u8 100] 5 (1,2))):=(Below.refl _ _).alloc (Nat.le_refl _) _;refine(fE x0a (some ⟨W12.heap.size,0,none⟩) x0l x0c 1 1 [100] [100] _ (HK0.o.at_.ext hba) (gI W12 [100] _ _ 1 rfl oM)).mono ?_;rintro e W13 ⟨rfl,hb⟩;have TW:Below W12.heap.size W12 W13:=hba.trans (hb.mono (by simp));have E13:=Hd TW;have hde:decide (([100]:List UInt8)=[100])=true:=rfl;have ac2:decide (([99]:List UInt8)=[99])=true:=rfl;have g1:W13.cell? ⟨b0,o0+4,none⟩=some (.slice x1a x1l x1c):=(TW.cell (p:=⟨b0,o0+4,none⟩) e0l).trans aaD.o.2;have g1l:b0<W13.heap.size:=Nat.lt_of_lt_of_le e0l TW.size;clear e0 e1 hb hba TW aaD;go_wp2_with fail;have hba:Below W13.heap.size W13 (W13.alloc (.cells #[.int .u8 99] 5 (1,2))):=(Below.refl _ _).alloc (Nat.le_refl _) _;refine(fE x1a (some ⟨W13.heap.size,0,none⟩) x1l x1c 1 1 [99] [99] _ ((HK1.o.at_.ext E13.o).ext hba) (gI W13 [99] _ _ 1 rfl oM)).mono ?_;rintro e W14 ⟨rfl,hb⟩;have E14:=Hd (E13.o.trans ((hba.trans (hb.mono (by simp))).mono E13.o.size));clear hb hba g1 g1l e0l;have tf:=(Xw.o.ext E14.o).cells;have tfl:=(Xw.o.ext E14.o).lt;have tt:=(Xx.o.ext E14.o).cells;have ttl:=(Xx.o.ext E14.o).lt;have HG6:=Hd (by have q:=Bd wkF fa la fl fc ll lc ⟨102,1,⟨8,0,0,0,0⟩⟩ W14 (ab7.o.at_.ext E14.o) (by show eY (102:Int);unfold eY;omega) (by show I64 8/\I64 0/\I64 0/\I64 0;unfold I64;omega);rw[TG,show(fU ⟨102,1,⟨8,0,0,0,0⟩⟩).toArray= #[.int .i64 102, .int .i64 1, .int .i64 8, .int .i64 0, .int .i64 0, .int .u64 0, .int .i64 0, .int .i64 0] by simp[fU,jF,jG]]at q;exact q);go_wp2_with fail;refine HG6.o.mono ?_;rintro e W15 ⟨rfl,hb⟩;have E15:=Hd (E14.o.trans (hb.mono E14.o.size));clear hb tf tfl tt ttl HG6;go_wp2_with fail;refine(J6 ⟨[98],false,[]⟩ (some ⟨W15.heap.size,0,none⟩) none (some ⟨W15.heap.size+1,0,none⟩) 1 1 0 0 2 2 [98,97] _ ((gI W15 [98] 5 (1,2) 1 rfl oM).ext ((Below.refl _ _).alloc (Nat.le_refl _) _)) (au.nil_ (S:=λ_=>True)).at_ (by have h:=gI (W15.alloc (.cells #[.int .u8 98] 5 (1,2))) [98,97] 5 (2,3) 2 rfl oM;rw[World.size_alloc]at h;exact h)).mono ?_;rintro e W16 ⟨rfl,hb⟩;rw[QL];have hb16:Below W15.heap.size W15 W16:=(((Below.refl W15.heap.size W15).alloc (Nat.le_refl _) _).alloc (by simp) _).trans (hb.mono (by simp;omega));have HBE:=Hd (aaC.o.trans ((E15.o.trans (hb16.mono E15.o.size)).mono aaC.o.size));clear hb hb16;go_wp2;go_ret;exact⟨rfl,HBE.o⟩
end Go.Proofs.YtenmnhnlcnmloaaGreat
namespace Go.Proofs.YtenmnhnlcnmloaaGreat
open Go.RowKit Go.Dav
attribute [local go_sem] Gives ite_val ay
theorem CS(a:Option Addr)(al ac:Nat)(x:List UInt8)(S:Nat->Prop)(w:World)(hx:au w S a al ac x):
  Calls Tryz.prog 48 #[.slice a al ac] w (KR 5 w x):=by
 cases a with
 |none=>
  have h0:=hx.at_.hnil rfl;have h1:=hx.at_.hcap;obtain rfl:al=0:=oM;subst h0;have hx0:x=[]:=List.length_eq_zero_iff.1 hx.at_.hlen;subst hx0;clear hx h1;have Ye:=@sZ;go_enter Tryz.func48,Tryz.ntmps48;go_wp2;go_ret;exact⟨_,rfl,World.ownsRow_nil _ _ _ _,bW⟩
 |some ad=>
  have hc:=(hx.cells.ext ((Below.refl _ w).alloc (Nat.le_refl _) (.cells #[] 5)));have hf:=hx.at_.hfew;have hl:=hx.at_.hlen;have HX:=Hd hc;clear hx hc;have Ye:=@sZ;go_enter Tryz.func48,Tryz.ntmps48;have hown:=World.ownsRow_made (e:=5) (size:=1) w #[] 0 (Nat.le_refl _) (by unfold maxLen;omega) rfl;go_wp2_with (at_builtin;refine ak rfl (.tmp 5) (.tmp 6) 22 rfl aF w.heap.size _ 0 [] rfl hown S (some ad) al ac (u8s x) rfl HX.o (iy x) (λh=>by cases h) (by unfold maxLen;omega) oM (by simp) ?_;intro v' w1 hown1 hgrow)
  rw[Nat.zero_add,List.nil_append]at hown1;have hbel:Below w.heap.size w w1:=((Below.refl _ w).alloc (Nat.le_refl _) _).grown hgrow (by simp) (λk hk=>(hown.lt k hk).1);have HO:=Hd hown1;clear hown1 hgrow;go_wp2;go_ret;exact⟨_,rfl,by rw[hl];exact HO.o,hbel⟩
theorem KA(F:aB)(fa la:Option Addr)(fl fc ll lc:Nat)(w:World)(hF:lF w fa fl fc la ll lc F)(hm:F.many<=140737488355328):
  Calls Tryz.prog 27 #[.agg #[.slice fa fl fc, .slice la ll lc, .int .i64 F.fuse, .int .i64 F.fault, .bool F.off]] w (oZ w F.all):=by
 have e1:=hF.loose.hlen;have e2:=hF.jH.hlen;have b1:=hF.loose.hfew;have hW:Below w.heap.size w (w.alloc (.cells [.slice fa fl fc, .slice la ll lc, .int .i64 F.fuse, .int .i64 F.fault, .bool F.off].toArray 32)):=bW;have HF:=Hd (hF.ext hW);have H1:=Hd e1;have H2:=Hd e2;have HCL:=Hd (CS fa fl fc F.jH _ _ ((hF.ext hW).jH.s));have HM:=Hd hm;clear hF e1 e2 hm;go_enter Tryz.func27,Tryz.ntmps27;go_wp2_with fail;refine HCL.o.mono ?_;rintro e w1 ⟨v1,rfl,hown1,hb1⟩;have Ut:w1.ownsRow (w.heap.size+1) 5 1 v1 F.jH.length (u8s F.jH):=by simpa using hown1
 have xu:Below (w.heap.size+1) (w.alloc (.cells [.slice fa fl fc, .slice la ll lc, .int .i64 F.fuse, .int .i64 F.fault, .bool F.off].toArray 32)) w1:=by simpa using hb1
 have HO1:=Hd Ut;have HBE:=Hd xu;have hB:=(Blk.new w [_,_,_,_,_] 32).below xu (Nat.lt_succ_self _);have c1:=hB.cells;have l1:=hB.lt;clear hown1 Ut hb1 xu hB HCL;go_wp2_with fail;go_loopw [12,3] (λix v wr=>Dk w F [.slice fa fl fc, .slice la ll lc, .int .i64 F.fuse, .int .i64 F.fault, .bool F.off] ix v wr) (λix _ _=>ll-(intOf ix).toNat)
 case atStart=>
  refine⟨0,Nat.zero_le _,rfl,?_,HBE.o⟩;have e:mD F 0=F.jH:=by simp[mD]
  rw[e];exact HO1.o
 case round=>
  obtain⟨k,hk,rfl,hown,hbel⟩:=hrel;have hk2:k<=ll:=by have:=H1.o;omega
  have hbs:=hbel.size;simp only[World.size_alloc]at hbs;have HAL:=Hd (vP F k);have HOW:=Hd hown;have hB:=(Blk.new w [_,_,_,_,_] 32).below hbel (Nat.lt_succ_self _);have c2:=hB.cells;have l2:=hB.lt;clear hown c1 l1 HO1 HBE;by_cases hlt:k<F.loose.length
  .obtain⟨p,hp⟩:∃p,F.loose[k]? =some p:=⟨_,List.getElem?_eq_getElem hlt⟩;have hF2:=HF.o.ext (hbel.mono (by simp));obtain⟨b,o,pa,pl,pc,rfl,hb,hc,hP⟩:=hF2.loose.hat k p hp;have hpl:=hP.hlen;have hnil:=hP.hnil;have hpc:=hP.s.cells;have HS:=Hd (Dj hp);have Wn:=Hd (vP F (k+1));have hkl:(k:Int)<(ll:Int):=by have:=H1.o;omega
   have HLT:=Hd hlt;have HP:=Hd hpl;have HPC:=Hd hpc;have HPN:=Hd hnil;have hlen:(mD F (k+1)).length=(mD F k).length+pl:=by rw[HS.o,List.length_append,HP.o]
   have HLE:=Hd hlen;clear hp hlt hP hpl hk hF2 hpc hnil hlen;go_wp2_with (at_builtin;go_loud (refine ak rfl (.tmp 16) (.tmp 17) 22 rfl aF (w.heap.size+1) _ (mD F k).length (u8s (mD F k)) rfl HOW.o (λb=>b<wr.heap.size) pa pl pc (u8s p) rfl HPC.o (iy _) HPN.o (by have:=HM.o;have:=Wn.o;have:=HLE.o;unfold maxLen;omega) (by have:=HM.o;have:=Wn.o;have:=HLE.o;omega) oM ?_;intro v1 w1 hown1 hgrow1))
   have xu:Below (w.heap.size+1) (w.alloc (.cells #[.slice fa fl fc, .slice (some ⟨b,o,none⟩) ll lc, .int .i64 F.fuse, .int .i64 F.fault, .bool F.off] 32)) w1:=hbel.grown hgrow1 oM (λk hk=>(HOW.o.lt k hk).1);rw[<- aW,<- HS.o,<- HLE.o]at hown1;go_roundw
   case rel=>exact⟨k+1,HLT.o,by go_num,hown1,xu⟩
   case measure=>simp[intOf];omega
  .have hkl:k=F.loose.length:=oM;have hk3:¬((k:Int)<(ll:Int)):=by have:=H1.o;omega
   have hall:mD F k=F.all:=by rw[hkl,Gv]
   have hown:=HOW.o;rw[hall]at hown;obtain⟨a',c',rfl,hB'⟩:=fM hown (by rw[F.gu];have:=HM.o;omega);have HB':=Hd hB';clear hkl hk hlt hown hall HOW hB';go_wp2;go_ret;exact⟨_,_,_,rfl,HB'.o.mono (λb h=>oM),((Below.refl _ w).alloc (Nat.le_refl _) _).trans (hbel.mono oM)⟩
theorem sG(s:bJ)(k:Nat)(w:World)(hk:¬k<=s.n)(hk8:k<=1000)(hn:s.n<=140737488355328):
  Calls Tryz.prog 156 #[.slice s.a s.n s.c, .int .i64 (k:Int)] w λe w'=>e= .returned (.tuple #[.slice none 0 0, .slice none 0 0, .bool false])/\Below w.heap.size w w':=by
 obtain⟨a,n,c,l,ok⟩:=s;dsimp only at*;have g1:(n:Int)<(k:Int):=oM;go_enter Tryz.func156,Tryz.ntmps156;go_wp2;exact bodyPost_ret (v:= .tuple #[.slice none 0 0, .slice none 0 0, .bool false]) (by simp[results,Tryz.results156,go_sem]) rfl ⟨rfl,Below.refl _ _⟩
theorem wM(S:Nat->Prop)(s:bJ)(k:Nat)(w:World)(h:Ee w S s)(hk:k<=s.n)(hk8:k<=1000):
  Calls Tryz.prog 156 #[.slice s.a s.n s.c, .int .i64 (k:Int)] w λe w'=>e= .returned (.tuple #[.slice s.a k s.c, .slice (qR s.a s.c k) (s.n-k) (s.c-k), .bool true])/\Below w.heap.size w w':=by
 have hcap:=h.hB.at_.hcap;have hfew:=h.hB.at_.hfew;have hmax:=h.hB.at_.hmax;unfold maxLen at hmax;have hf:=h.hf;obtain⟨a,n,c,l,ok⟩:=s;dsimp only at*;clear h;have g1:¬(n:Int)<(k:Int):=oM;have g2:¬(k:Int)<0:=oM;have g3:(k:Int)<=(c:Int):=oM;have g4:(k:Int)<=(n:Int):=oM;have g5:(n:Int)<=(c:Int):=oM;by_cases hck:c=k
 .subst hck;obtain rfl:n=c:=oM;go_enter Tryz.func156,Tryz.ntmps156;go_wp2_with fail;refine' ah [.inl _, .inl _, .inl _, .inl _, .inl _, .inl _, .inl _, .inl _, .inl _] kR kR ?dN
  case dN=>
   iterate 9 refine wD ?_
   refine aj λW1 hE1 hG1=>?_;have jC:=hE1.cF;have kK:=hE1.fF;have HE1:=Hd hE1;clear hE1 hG1 jC kK;go_wp2;refine bodyPost_ret (v:= .tuple #[.slice a n n, .slice a 0 0, .bool true]) (by simp[results,Tryz.results156,go_sem]) rfl ⟨?_,HE1.o⟩;unfold qR;simp
 .have ac3:¬c-k=0:=oM;go_enter Tryz.func156,Tryz.ntmps156;go_wp2_with fail;refine' ah [.inl _, .inl _, .inl _, .inl _, .inl _, .inl _, .inl _, .inl _, .inl _] kR kR ?fZ
  case fZ=>
   iterate 9 refine wD ?_
   refine aj λW1 hE1 hG1=>?_;have jC:=hE1.cF;have kK:=hE1.fF;have HE1:=Hd hE1;clear hE1 hG1 jC kK;go_wp2;refine bodyPost_ret (v:= .tuple #[.slice a k c, .slice (a.map λx=>x.add k) (n-k) (c-k), .bool true]) (by simp[results,Tryz.results156,go_sem]) rfl ⟨?_,HE1.o⟩;rw[TJ hf hck]
theorem xR(s:bJ)(w:World)(h:s.n=0):
  Calls Tryz.prog 155 #[.slice s.a s.n s.c] w λe w'=>e= .returned (.tuple #[.slice none 0 0, .slice none 0 0, .bool false])/\Below w.heap.size w w':=by
 obtain⟨a,n,c,l,ok⟩:=s;dsimp only at*;subst h;go_enter Tryz.func155,Tryz.ntmps155;go_wp2;exact bodyPost_ret (v:= .tuple #[.slice none 0 0, .slice none 0 0, .bool false]) (by simp[results,Tryz.results155,go_sem]) rfl ⟨rfl,Below.refl _ _⟩
theorem qP(S:Nat->Prop)(s:bJ)(w:World)(h:Ee w S s)(hn:1<=s.n)(ra rb:Option Addr)(rn rc tn tc:Nat)(q:Bool)
  (hcut:∀W,Below w.heap.size w W->Calls Tryz.prog 156 #[.slice (qR s.a s.c 1) (s.n-1) (s.c-1), .int .i64 (s.num 1:Nat)] W λe w'=>e= .returned (.tuple #[.slice ra rn rc, .slice rb tn tc, .bool q])/\Below W.heap.size W w'):
  Calls Tryz.prog 155 #[.slice s.a s.n s.c] w λe w'=>e= .returned (.tuple #[.slice ra rn rc, .slice rb tn tc, .bool q])/\Below w.heap.size w w':=by
 have hcap:=h.hB.at_.hcap;have hfew:=h.hB.at_.hfew;have hmax:=h.hB.at_.hmax;unfold maxLen at hmax;have hf:=h.hf;obtain⟨x,hx⟩:∃x,s.l[0]? =some x:=⟨_,List.getElem?_eq_getElem (by rw[h.hB.at_.hlen];omega)⟩;have hnum:s.num 1=x.toNat:=by
  unfold bJ.num;rw[h.bytes hn,List.take_add_one,hx];simp[QN]
 rw[hnum]at hcut;obtain⟨b,o,e0,hb,hc0⟩:=h.hB.at_.hat 0 x hx;obtain⟨a,n,c,l,ok⟩:=s;dsimp only at*;subst e0;rw[Nat.add_zero]at hc0;clear h hx hnum;have g1:(1:Int)<=(n:Int):=oM;have g2:(n:Int)<=(c:Int):=oM;have g3:((n:Int)==0)=false:=by simp;omega
 have g4:(0:Int)<(n:Int):=oM;have g5:0<n:=oM;have HC:=Hd hcut;have HW:=Hd (show IntKind.i64.wrap (x.toNat:Int)=(x.toNat:Int) by have:=x.toNat_lt;rw[aZ];omega);clear hcut;by_cases hc1:c=1
 .subst hc1;obtain rfl:n=1:=oM;have ha:qR (some ⟨b,o,none⟩) 1 1=some ⟨b,o,none⟩:=by unfold qR;simp
  rw[ha]at HC;clear ha;go_enter Tryz.func155,Tryz.ntmps155;go_wp2_with fail;refine' ah [.inl _, .inl _, .inl _, .inl _, .inl _, .inl _, .inl _, .inl _, .inl _, .inl _, .inl _, .inl _, .inl _] kR kR ?iT
  case iT=>
   iterate 4 refine wD ?_
   refine wE ?_;refine wG (λW hE hN=>by go_simp;refine⟨Below.refl _ _,?_⟩;rw[HW.o]) ?_;refine wG (λW hE hN=>by go_simp;refine⟨Below.refl _ _,?_⟩;refine(HC.o W hE).mono ?_;rintro e w' ⟨rfl,hb⟩;refine⟨?_,hb⟩;rfl) ?_;iterate 6 refine wD ?_
   refine aj λW1 hE1 hG1=>?_;have jC:=hE1.cF;have kK:=hE1.fF;have HE1:=Hd hE1;clear hE1 hG1 jC kK;go_wp2;exact bodyPost_ret (v:= .tuple #[.slice ra rn rc, .slice rb tn tc, .bool q]) (by simp[results,Tryz.results155,go_sem]) rfl ⟨rfl,HE1.o⟩
 .
  have ha:qR (some ⟨b,o,none⟩) c 1=some ⟨b,o+1,none⟩:=by unfold qR;rw[if_neg hc1];rfl
  rw[ha]at HC;clear ha;have hc2:¬c-1=0:=oM;go_enter Tryz.func155,Tryz.ntmps155;go_wp2_with fail;refine' ah [.inl _, .inl _, .inl _, .inl _, .inl _, .inl _, .inl _, .inl _, .inl _, .inl _, .inl _, .inl _, .inl _] kR kR ?jI
  case jI=>
   iterate 4 refine wD ?_
   refine wE ?_;refine wG (λW hE hN=>by go_simp;refine⟨Below.refl _ _,?_⟩;rw[HW.o]) ?_;refine wG (λW hE hN=>by go_simp;refine⟨Below.refl _ _,?_⟩;refine(HC.o W hE).mono ?_;rintro e w' ⟨rfl,hb⟩;refine⟨?_,hb⟩;rfl) ?_;iterate 6 refine wD ?_
   refine aj λW1 hE1 hG1=>?_;have jC:=hE1.cF;have kK:=hE1.fF;have HE1:=Hd hE1;clear hE1 hG1 jC kK;go_wp2;exact bodyPost_ret (v:= .tuple #[.slice ra rn rc, .slice rb tn tc, .bool q]) (by simp[results,Tryz.results155,go_sem]) rfl ⟨rfl,HE1.o⟩
end Go.Proofs.YtenmnhnlcnmloaaGreat
