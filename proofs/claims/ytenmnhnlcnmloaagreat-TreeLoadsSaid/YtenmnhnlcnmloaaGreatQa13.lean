/- Part of a proof of a law of the layer of trees. -/
import Derived.Test.YtenmnhnlcnmloaaGreatQa12
import Derived.Test.YtenmnhnlcnmloaaGreatQa01
set_option linter.unusedVariables false
set_option linter.unusedSimpArgs false
set_option maxHeartbeats 8000000
set_option maxRecDepth 8000
namespace Go.Dav
open Go Go.RowKit
structure bJ where
 a:Option Addr
 n:Nat
 c:Nat
 l:List UInt8
 ok:Bool
def qR(a:Option Addr)(c k:Nat):Option Addr:=if c=k then a else a.map λx=>⟨x.block,x.off+k,none⟩
def bJ.can(s:bJ)(k:Nat):Bool:=s.ok&&decide (k<=s.n)
def bJ.next(s:bJ)(k:Nat):bJ:=if s.can k then⟨qR s.a s.c k,s.n-k,s.c-k,s.l.drop k,true⟩else⟨s.a,s.n,s.c,s.l,false⟩
def bJ.outA(s:bJ)(k:Nat):Option Addr:=if s.can k then s.a else none
def bJ.yx(s:bJ)(k:Nat):Nat:=if s.can k then k else 0
def bJ.bytes(s:bJ)(k:Nat):List UInt8:=if s.can k then s.l.take k else []
def iH(a:Option Addr):Prop:=a=none\/∃b o,a=some ⟨b,o,none⟩
theorem iH.adv{a:Option Addr}(h:iH a)(c k:Nat):iH (qR a c k):=by
 unfold qR;split
 .exact h
 .rcases h with rfl|⟨b,o,rfl⟩
  .exact .inl rfl
  .exact .inr ⟨b,o+k,rfl⟩
theorem au.drop{W:World}{S:Nat->Prop}{a:Option Addr}{n c k:Nat}{l:List UInt8}(h:au W S a n c l)(hk:k<=n):au W S (qR a c k) (n-k) (c-k) (l.drop k):=by
 have h1:=h.at_.hcap;refine⟨⟨by rw[List.length_drop,h.at_.hlen],oM,by have:=h.at_.hmax;omega,by have:=h.at_.hfew;omega,λj x hx=>?_,λha=>?_⟩,λj x hx=>?_⟩
 .rw[List.getElem?_drop]at hx;obtain⟨b,o,e,hb,hc⟩:=h.at_.hat (k+j) x hx;have hl:=(List.getElem?_eq_some_iff.1 hx).1;have hne:c≠k:=by have:=h.at_.hlen;omega
  refine⟨b,o+k,by unfold qR;rw[if_neg hne,e];rfl,hb,by rw[Nat.add_assoc];exact hc⟩
 .unfold qR at ha;split at ha
  .have:=h.at_.hnil ha;omega
  .cases a with
   |none=>have:=h.at_.hnil rfl;omega
   |some _=>cases ha
 .rw[List.getElem?_drop]at hx;obtain⟨b,o,e,hs⟩:=h.in_ (k+j) x hx;have hl:=(List.getElem?_eq_some_iff.1 hx).1;have hne:c≠k:=by have:=h.at_.hlen;omega
  exact⟨b,o+k,by unfold qR;rw[if_neg hne,e];rfl,hs⟩
theorem au.takes{W:World}{S:Nat->Prop}{a:Option Addr}{n c k:Nat}{l:List UInt8}(h:au W S a n c l)(hk:k<=n):au W S a k k (l.take k):=by
 have h1:=h.at_.hcap;refine⟨⟨by rw[List.length_take,h.at_.hlen];omega,Nat.le_refl _,by have:=h.at_.hmax;omega,by have:=h.at_.hfew;omega,λj x hx=>?_,λha=>?_⟩,λj x hx=>?_⟩
 .rw[List.getElem?_take]at hx;split at hx
  .exact h.at_.hat j x hx
  .cases hx
 .have:=h.at_.hnil ha;omega
 .rw[List.getElem?_take]at hx;split at hx
  .exact h.in_ j x hx
  .cases hx
structure tX(tb tq:TypeId)(W:World)(S:Nat->Prop)(pR pO:Nat)(s:bJ):Prop where
 hR:Blk W pR [.slice s.a s.n s.c] tb
 hO:Blk W pO [.bool s.ok] tq
 hB:au W S s.a s.n s.c s.l
 hf:iH s.a
def kZ(p q b:Nat):Prop:=b=p\/b=q
theorem au.aQ{W W':World}{S p:Nat->Prop}{a:Option Addr}{n c:Nat}{l:List UInt8}(h:au W S a n c l)(ho:aA p W W')(hd:∀b,S b->¬p b):au W' S a n c l:=
 h.same ho.size λb h1 h2=>ho.block b h2 (hd b h1)
theorem aA.trans{p:Nat->Prop}{a b c:World}(h:aA p a b)(k:aA p b c):aA p a c:=
 ⟨k.os.trans h.os,k.tape.trans h.tape,k.output.trans h.output,Nat.le_trans h.size k.size,λj hj hn=>(k.block j (Nat.lt_of_lt_of_le hj h.size) hn).trans (h.block j hj hn)⟩
theorem tX.ext{tb tq:TypeId}{W W':World}{S:Nat->Prop}{pR pO:Nat}{s:bJ}(h:tX tb tq W S pR pO s)(hb:Below W.heap.size W W'):tX tb tq W' S pR pO s:=⟨h.hR.ext hb,h.hO.ext hb,h.hB.ext hb,h.hf⟩
theorem bJ.Po{tb tq:TypeId}{W:World}{S:Nat->Prop}{pR pO:Nat}{s:bJ}(h:tX tb tq W S pR pO s)(k:Nat):au W S (s.outA k) (s.yx k) (s.yx k) (s.bytes k):=by
 unfold bJ.outA bJ.yx bJ.bytes;cases hc:s.can k with
 |false=>exact au.nil_
 |true=>
  unfold bJ.can at hc;simp only[Bool.and_eq_true,decide_eq_true_eq]at hc;simp only[if_true];exact h.hB.takes hc.2
theorem vX{tb tq:TypeId}{W:World}{S:Nat->Prop}{pR pO n c k:Nat}{a:Option Addr}{l:List UInt8}{v:Value}(hR:Blk W pR [.slice a n c] tb)(hO:Blk W pO [.bool true] tq)(hB:au W S a n c l)(hf:iH a)(hS:∀b,S b->¬kZ pR pO b)(hne:pR≠pO)(hkn:k<=n)(hv:v= .slice (qR a c k) (n-k) (c-k)):
  tX tb tq ((W.setCell ⟨pO,0,none⟩ (.bool true)).setCell ⟨pR,0,none⟩ v) S pR pO ⟨qR a c k,n-k,c-k,l.drop k,true⟩/\aA (kZ pR pO) W ((W.setCell ⟨pO,0,none⟩ (.bool true)).setCell ⟨pR,0,none⟩ v):=by
 subst hv;have ho:=((aA.refl (kZ pR pO) W).set pO 0 (.bool true) (.inr rfl)).set pR 0 (.slice (qR a c k) (n-k) (c-k)) (.inl rfl);exact⟨⟨(hR.other hne 0 _).set 0 _,(hO.set 0 _).other (Ne.symm hne) 0 _,(hB.aQ ho hS).drop hkn,hf.adv _ _⟩,ho⟩
theorem aA.Wp{p:Nat->Prop}{w w':World}(h:aA p w w')(q i:Nat)(v:Value)(hq:w.heap.size<=q):aA p w (w'.setCell ⟨q,i,none⟩ v):=
 ⟨h.os,h.tape,h.output,by simpa using h.size,λk hk hne=>(Below.heap_setCell w' ⟨q,i,none⟩ v k (λe=>by have e2:k=q:=e;omega)).trans (h.block k hk hne)⟩
theorem lK(l:List UInt8)(h:l.length<=1):numOf l<=255:=by
 have:=vW l;have h2:256^l.length<=256^1:=Nat.pow_le_pow_right oM h;omega
theorem gY(s:bJ)(k:Nat):(s.bytes k).length<=k:=by
 unfold bJ.bytes;split
 .exact List.length_take_le _ _
 .simp
theorem xB(l:List UInt8)(h:l.length<=8):numOf l<18446744073709551616:=by
 have:=vW l;have h2:256^l.length<=256^8:=Nat.pow_le_pow_right oM h;omega
theorem jk(l:List UInt8)(h:l.length<=4):numOf l<4294967296:=by
 have:=vW l;have h2:256^l.length<=256^4:=Nat.pow_le_pow_right oM h;omega
def bJ.num(s:bJ)(k:Nat):Nat:=numOf (s.bytes k)
def bJ.cnt(s:bJ):List UInt8:=(s.next 1).bytes (s.num 1)
def bJ.skip(s:bJ):bJ:=(s.next 1).next (s.num 1)
def lM(s:bJ):aP:=⟨s.cnt,s.skip.cnt,decide (s.skip.skip.num 1=1),wrap64 ((s.skip.skip.next 1).num 8:Nat)⟩
def jy(s:bJ):bJ:=(s.skip.skip.next 1).next 8
theorem tX.other{tb tq:TypeId}{W:World}{S:Nat->Prop}{pR pO q i:Nat}{s:bJ}{v:Value}(h:tX tb tq W S pR pO s)(h1:q≠pR)(h2:q≠pO)(h3:¬S q):tX tb tq (W.setCell ⟨q,i,none⟩ v) S pR pO s:=
 ⟨h.hR.other (Ne.symm h1) i v,h.hO.other (Ne.symm h2) i v,h.hB.aQ (((aA.refl (λb=>b=q) W).set q i v rfl)) (λb hb e=>h3 (by rw[<- e];exact hb)),h.hf⟩
end Go.Dav
namespace Go.Proofs.YtenmnhnlcnmloaaGreat
open Go.RowKit Go.Dav
attribute [local go_sem] Gives nY ite_val ay
theorem GK(pR pO k:Nat)(s:bJ)(S:Nat->Prop)(w:World)(h:tX 22 4 w S pR pO s)(hS:∀b,S b->¬kZ pR pO b)(hne:pR≠pO)(hk:k<=1000):
  Calls Tryz.prog 102 #[.int .i64 (k:Int), .pointer (some ⟨pO,0,none⟩), .pointer (some ⟨pR,0,none⟩)] w λe w'=>e= .returned (.slice (s.outA k) (s.yx k) (s.yx k))/\tX 22 4 w' S pR pO (s.next k)/\aA (kZ pR pO) w w':=by
 obtain⟨hR,hO,hB,hf⟩:=h;have hk':(k:Int)<=1000:=oM;have q1:=hR.cells;have q2:=hO.cells;have q3:=hO.marks;have q4:=hR.marks;have l1:=hR.lt;have l2:=hO.lt;have hne':pO≠pR:=λe=>hne e.symm;obtain⟨a,n,c,l,ok⟩:=s;dsimp only at hR hO hB hf q1 q2;have HR:=Hd hR;have HO:=Hd hO;have HB:=Hd hB;have HF:=Hd hf;have HS:=Hd hS;have hn:=hB.at_.hfew;have hn':(n:Int)<=140737488355328:=oM;have hnc:=hB.at_.hcap;have hcm:=hB.at_.hmax;clear hR hO hB hS hn;cases ok with
 |false=>
  have hcan:bJ.can ⟨a,n,c,l,false⟩ k=false:=rfl;unfold bJ.outA bJ.yx bJ.next;rw[hcan];simp only[Bool.false_eq_true,if_false];go_enter Tryz.func102,Tryz.ntmps102;go_wp2;go_ret;exact⟨rfl,⟨HR.o.other hne _ _,HO.o.set 0 _,(HB.o.aQ ((aA.refl (kZ pR pO) w).set pO 0 _ (.inr rfl)) HS.o),HF.o⟩,(aA.refl _ w).set pO 0 _ (.inr rfl)⟩
 |true=>
  by_cases hkn:k<=n
  .have hcan:bJ.can ⟨a,n,c,l,true⟩ k=true:=by unfold bJ.can;simp[hkn]
   unfold bJ.outA bJ.yx bJ.next;rw[hcan];simp only[if_true];have hkn':(k:Int)<=(n:Int):=oM;have hkc:k<=c:=oM;have acD:(k:Int)<=(c:Int):=oM;have HKN:=Hd hkn;rcases hf with rfl|⟨b,o,rfl⟩
   .obtain rfl:c=0:=HB.o.at_.hnil rfl;obtain rfl:n=0:=oM;obtain rfl:k=0:=oM;go_enter Tryz.func102,Tryz.ntmps102;go_wp2;go_ret;exact⟨rfl,vX HR.o HO.o HB.o HF.o HS.o hne oM (by unfold qR;simp)⟩
   .by_cases hck:c=k
    .subst hck;obtain rfl:n=c:=oM;by_cases hk0:n=0
     .subst hk0;go_enter Tryz.func102,Tryz.ntmps102;go_wp2;go_ret;exact⟨rfl,vX HR.o HO.o HB.o HF.o HS.o hne oM (by unfold qR;simp[*])⟩
     .have hk0':¬0=n:=λe=>hk0 e.symm;go_enter Tryz.func102,Tryz.ntmps102;go_wp2;go_ret;exact⟨rfl,vX HR.o HO.o HB.o HF.o HS.o hne oM (by unfold qR;simp[*])⟩
    .have acE:¬k=c:=λe=>hck e.symm;by_cases hk0:k=0
     .subst hk0;go_enter Tryz.func102,Tryz.ntmps102;go_wp2;go_ret;exact⟨rfl,vX HR.o HO.o HB.o HF.o HS.o hne oM (by unfold qR;simp[*])⟩
     .have hk0':¬0=k:=λe=>hk0 e.symm;go_enter Tryz.func102,Tryz.ntmps102;go_wp2;go_ret;exact⟨rfl,vX HR.o HO.o HB.o HF.o HS.o hne oM (by unfold qR;simp[*])⟩
  .have hcan:bJ.can ⟨a,n,c,l,true⟩ k=false:=by unfold bJ.can;simp;omega
   unfold bJ.outA bJ.yx bJ.next;rw[hcan];simp only[Bool.false_eq_true,if_false];have hkn':¬(k:Int)<=(n:Int):=oM;have hkn2:decide (k<=n)=false:=by simp;omega
   have acF:decide ((k:Int)<=(n:Int))=false:=by simp;omega
   go_enter Tryz.func102,Tryz.ntmps102;go_wp2;go_ret;exact⟨rfl,⟨HR.o.other hne _ _,HO.o.set 0 _,(HB.o.aQ ((aA.refl (kZ pR pO) w).set pO 0 _ (.inr rfl)) HS.o),HF.o⟩,(aA.refl _ w).set pO 0 _ (.inr rfl)⟩
def fG(pR pO:Nat):Value:= .func (.func 102) #[] #[.pointer (some ⟨pO,0,none⟩), .pointer (some ⟨pR,0,none⟩)]
theorem og(args:Array Value)(W:World):(callFunc 102 args).run Tryz.prog W= .ok (.enter 102 args) W:=kR
theorem UF(s:bJ)(k:Nat):s.yx k<=k:=by unfold bJ.yx;split<;>omega
theorem RH(pT pR pO k:Nat)(s:bJ)(S:Nat->Prop)(w:World)(h:tX 22 4 w S pR pO s)(hT:Blk w pT [fG pR pO] 184)(hS:∀b,S b->¬kZ pR pO b)(hne:pR≠pO)(hk:k<=8):
  Calls Tryz.prog 103 #[.int .i64 (k:Int), .pointer (some ⟨pT,0,none⟩)] w λe w'=>e= .returned (.int .u64 (numOf (s.bytes k):Nat))/\tX 22 4 w' S pR pO (s.next k)/\aA (kZ pR pO) w w':=by
 have hk':(k:Int)<=8:=oM;have q1:=hT.cells;unfold fG at q1;have l1:=hT.lt;have hen:=λargs W=>og args W;have hc:=GK pR pO k s S w h hS hne oM;have HC:=Hd hc;have HS:=Hd hS;have HOB:=Hd (bJ.Po h k);have HON:=Hd (UF s k);clear hc h hT hS;go_enter Tryz.func103,Tryz.ntmps103;go_wp2_with fail;(with_reducible refine HC.o.mono ?_);rintro e w1 ⟨rfl,hst,ho⟩
 have HL:=Hd (HOB.o.aQ ho HS.o);have HST:=Hd hst;have HO:=Hd ho;obtain⟨oa,hoa⟩:∃x,s.outA k=x:=⟨_,rfl⟩;obtain⟨n,hon⟩:∃x,s.yx k=x:=⟨_,rfl⟩;obtain⟨l,hol⟩:∃x,s.bytes k=x:=⟨_,rfl⟩;rw[hoa,hon,hol]at HL;rw[hon]at HON;rw[hoa,hon];have HLL:=Hd hol;have hn8:(n:Int)<=8:=by have:=HON.o;omega
 clear hst ho hoa hon hol;go_wp2_with fail;go_loopg [3,10] n (λg xx ix wr=>∃j:Nat,j<=n/\g=n-j/\ix= .int .i64 j/\xx= .int .u64 (numOf (l.take j):Int)/\w1=wr)
 case atStart=>exact⟨0,Nat.zero_le _,rfl,rfl,rfl,rfl⟩
 case round=>
  obtain⟨j,hj,rfl,rfl,rfl,rfl⟩:=hrel;by_cases hjn:j<n
  .obtain⟨y,hy⟩:∃y,l[j]? =some y:=⟨_,List.getElem?_eq_getElem (by have:=HL.o.at_.hlen;omega)⟩;obtain⟨b,o,rfl,hb,hc⟩:=HL.o.at_.hat j y hy;have aaY:(j:Int)<(n:Int):=oM;have hlt:=vW (l.take j);rw[List.length_take,Nat.min_eq_left (by have:=HL.o.at_.hlen;omega)]at hlt;have hp:256^j<=256^7:=Nat.pow_le_pow_right oM (by have:=HON.o;omega);obtain⟨x,hx⟩:∃x,numOf (l.take j)=x:=⟨_,rfl⟩;rw[hx]at hlt⊢;have hxl:x<72057594037927936:=Nat.lt_of_lt_of_le hlt hp;have h1:(x:Int)*256%18446744073709551616=(x:Int)*256:=oM;have hyl:=y.toNat_lt;have h2:=ML hxl hyl;have h3:(y.toNat:Int)%18446744073709551616=(y.toNat:Int):=oM;obtain⟨z,hz⟩:∃z,x*256+y.toNat=z:=⟨_,rfl⟩;rw[hz]at h2;have HZ:=Hd hz;have HX:=Hd hx;have HY:=Hd hy;have HJN:=Hd hjn;clear hy hlt hp hxl hyl hz hx hj hjn;go_wp2_with fail;go_roundg (n-(j+1))
   case measure=>have:=HJN.o;omega
   case rel=>exact⟨j+1,HJN.o,rfl,by go_num,by rw[List.take_add_one,HY.o,Option.toList_some,Dn,HX.o,HZ.o],rfl⟩
  .obtain rfl:j=n:=oM;have aaY:¬(j:Int)<(j:Int):=oM;have HE:=Hd (show l.take j=l from List.take_of_length_le (by have:=HL.o.at_.hlen;omega));clear hjn;go_wp2;go_ret;exact⟨by rw[HE.o,HLL.o];rfl,HST.o,HO.o⟩
def dL(pT:Nat):Value:= .func (.func 103) #[] #[.pointer (some ⟨pT,0,none⟩)]
theorem uQ(args:Array Value)(W:World):(callFunc 103 args).run Tryz.prog W= .ok (.enter 103 args) W:=kR
structure aI(S:Nat->Prop)(pT pN pR pO p:Nat)(t:TypeId)(w:World)(s:bJ)(cs:List Value)(W:World):Prop where
 st:tX 22 4 W S pR pO s
 tk:Blk W pT [fG pR pO] 184
 nm:Blk W pN [dL pT] 185
 x:Blk W p cs t
 only:aA (kZ pR pO) w W
theorem aI.ext{S:Nat->Prop}{pT pN pR pO p:Nat}{t:TypeId}{w:World}{s:bJ}{cs:List Value}{W W':World}(h:aI S pT pN pR pO p t w s cs W)(hb:Below W.heap.size W W'):aI S pT pN pR pO p t w s cs W':=
 ⟨h.st.ext hb,h.tk.ext hb,h.nm.ext hb,h.x.ext hb,h.only.ext hb⟩
structure jd(S:Nat->Prop)(pT pN pR pO:Nat):Prop where
 hS:∀b,S b->¬kZ pR pO b
 ro:pR≠pO
 t:¬kZ pR pO pT
 n:¬kZ pR pO pN
theorem aI.Pq{S:Nat->Prop}{pT pN pR pO p:Nat}{t:TypeId}{w:World}{s s':bJ}{cs:List Value}{W W':World}(h:aI S pT pN pR pO p t w s cs W)(ha:jd S pT pN pR pO)(hp:¬kZ pR pO p)(ho:aA (kZ pR pO) W W')(hs:tX 22 4 W' S pR pO s'):aI S pT pN pR pO p t w s' cs W':=
 ⟨hs,h.tk.aQ ho ha.t,h.nm.aQ ho ha.n,h.x.aQ ho hp,h.only.trans ho⟩
theorem aI.zn{S:Nat->Prop}{pT pN pR pO p i:Nat}{t:TypeId}{w:World}{s:bJ}{cs:List Value}{W:World}{v:Value}(h:aI S pT pN pR pO p t w s cs W)(hp:¬kZ pR pO p)(hT:p≠pT)(hN:p≠pN)(hSp:¬S p)(hnew:w.heap.size<=p):aI S pT pN pR pO p t w s (cs.set i v) (W.setCell ⟨p,i,none⟩ v):=
 ⟨h.st.other (λe=>hp (.inl e)) (λe=>hp (.inr e)) hSp,h.tk.other (Ne.symm hT) i v,h.nm.other (Ne.symm hN) i v,h.x.set i v,h.only.Wp p i v hnew⟩
theorem uS{S:Nat->Prop}{pT pN pR pO p:Nat}{t:TypeId}{w:World}{s:bJ}{cs:List Value}{W:World}(h:aI S pT pN pR pO p t w s cs W)(ha:jd S pT pN pR pO)(hp:¬kZ pR pO p)(k:Nat)(hk:k<=8):
  Calls Tryz.prog 103 #[.int .i64 (k:Int), .pointer (some ⟨pT,0,none⟩)] W λe w'=>e= .returned (.int .u64 (s.num k:Nat))/\aI S pT pN pR pO p t w (s.next k) cs w':=
 (RH pT pR pO k s S W h.st h.tk ha.hS ha.ro hk).mono λe w' ⟨h1,h2,h3⟩=>⟨h1,h.Pq ha hp h3 h2⟩
theorem ni{S:Nat->Prop}{pT pN pR pO p:Nat}{t:TypeId}{w:World}{s:bJ}{cs:List Value}{W:World}(h:aI S pT pN pR pO p t w s cs W)(ha:jd S pT pN pR pO)(hp:¬kZ pR pO p):
  Calls Tryz.prog 103 #[.int .i64 1, .pointer (some ⟨pT,0,none⟩)] W λe w'=>e= .returned (.int .u64 (s.num 1:Nat))/\aI S pT pN pR pO p t w (s.next 1) cs w':=uS h ha hp 1 oM
theorem xE{S:Nat->Prop}{pT pN pR pO p:Nat}{t:TypeId}{w:World}{s:bJ}{cs:List Value}{W:World}(h:aI S pT pN pR pO p t w s cs W)(ha:jd S pT pN pR pO)(hp:¬kZ pR pO p):
  Calls Tryz.prog 103 #[.int .i64 4, .pointer (some ⟨pT,0,none⟩)] W λe w'=>e= .returned (.int .u64 (s.num 4:Nat))/\aI S pT pN pR pO p t w (s.next 4) cs w':=uS h ha hp 4 oM
theorem o7{S:Nat->Prop}{pT pN pR pO p:Nat}{t:TypeId}{w:World}{s:bJ}{cs:List Value}{W:World}(h:aI S pT pN pR pO p t w s cs W)(ha:jd S pT pN pR pO)(hp:¬kZ pR pO p):
  Calls Tryz.prog 103 #[.int .i64 8, .pointer (some ⟨pT,0,none⟩)] W λe w'=>e= .returned (.int .u64 (s.num 8:Nat))/\aI S pT pN pR pO p t w (s.next 8) cs w':=uS h ha hp 8 oM
theorem rM{S:Nat->Prop}{pT pN pR pO p:Nat}{t:TypeId}{w:World}{s:bJ}{cs:List Value}{W:World}(h:aI S pT pN pR pO p t w s cs W)(ha:jd S pT pN pR pO)(hp:¬kZ pR pO p)(k:Nat)(hk:k<=1000):
  Calls Tryz.prog 102 #[.int .i64 (k:Int), .pointer (some ⟨pO,0,none⟩), .pointer (some ⟨pR,0,none⟩)] W λe w'=>e= .returned (.slice (s.outA k) (s.yx k) (s.yx k))/\aI S pT pN pR pO p t w (s.next k) cs w':=
 (GK pR pO k s S W h.st ha.hS ha.ro hk).mono λe w' ⟨h1,h2,h3⟩=>⟨h1,h.Pq ha hp h3 h2⟩
def gU(s:bJ):Value:= .slice ((s.next 1).outA (s.num 1)) ((s.next 1).yx (s.num 1)) ((s.next 1).yx (s.num 1))
def Dq(S:Nat->Prop)(pT pN pR pO:Nat)(w:World)(s:bJ)(e:Ending)(w':World):Prop:=
 e= .returned (.tuple #[.agg #[gU s,gU s.skip, .bool (lM s).int, .int .i64 (lM s).n], .bool (jy s).ok])/\tX 22 4 w' S pR pO (jy s)/\aA (kZ pR pO) w w'
theorem JB(S:Nat->Prop)(pT pN pR pO:Nat)(s:bJ)(w:World)(hst:tX 22 4 w S pR pO s)(hT:Blk w pT [fG pR pO] 184)(hN:Blk w pN [dL pT] 185)(ha:jd S pT pN pR pO)(hS:∀b,S b->b<w.heap.size):
  Calls Tryz.prog 105 #[.pointer (some ⟨pT,0,none⟩), .pointer (some ⟨pN,0,none⟩), .pointer (some ⟨pO,0,none⟩)] w (Dq S pT pN pR pO w s):=by
 have hb0:Below w.heap.size w (w.alloc (.cells #[.slice none 0 0, .slice none 0 0, .bool false, .int .i64 0] 60)):=bW;have hd0:aI S pT pN pR pO w.heap.size 60 w s [.slice none 0 0, .slice none 0 0, .bool false, .int .i64 0] (w.alloc (.cells #[.slice none 0 0, .slice none 0 0, .bool false, .int .i64 0] 60)):=
  ⟨hst.ext hb0,hT.ext hb0,hN.ext hb0,Blk.new w _ _,aA.of_below hb0⟩
 have lt:=hT.lt;have ln:=hN.lt;have lr:=hst.hR.lt;have lo:=hst.hO.lt;have hp:¬kZ pR pO w.heap.size:=by unfold kZ;omega
 have hpT:w.heap.size≠pT:=oM;have hpN:w.heap.size≠pN:=oM;have hSp:¬S w.heap.size:=λh=>by have:=hS _ h;omega
 have hent:=λargs W=>og args W;have ZH:=λargs W=>uQ args W;have HD0:=Hd hd0;have HA:=Hd ha;have HP:=Hd hp;have HPT:=Hd hpT;have HPN:=Hd hpN;have HSP:=Hd hSp;have LT:=Hd (And.intro lt (And.intro ln (And.intro lr lo)));have aaZ:s.num 1<=255:=lK _ (gY s 1);have hkl2:((s.num 1:Nat):Int)<=255:=oM;have acG:s.skip.num 1<=255:=lK _ (gY s.skip 1);have acH:((s.skip.num 1:Nat):Int)<=255:=oM;have hwk:IntKind.i64.wrap ((s.num 1:Nat):Int)=((s.num 1:Nat):Int):=by rw[aZ];omega
 have hwv:IntKind.i64.wrap ((s.skip.num 1:Nat):Int)=((s.skip.num 1:Nat):Int):=by rw[aZ];omega
 clear hst hT hN ha hS hb0 hd0 hp hpT hpN hSp lt ln lr lo;go_enter Tryz.func105,Tryz.ntmps105;go_wp2_with fail;refine' eF (λc=>aI S pT pN pR pO w.heap.size 60 w (if c=0 then s else if c=1 then bJ.next s 1 else bJ.skip s) (if c=3 then [gU s, .slice none 0 0, .bool false, .int .i64 0]else [.slice none 0 0, .slice none 0 0, .bool false, .int .i64 0])) [2,4,6] [_,_,_,_,_,_,_] kR kR (λc W W' h hb=>h.ext hb) (HD0.o) ?dN
 case dN=>
  refine cG (λcc W hlo hhi hI=>by have q1:=hI.tk.cells;have q2:=hI.nm.cells;unfold fG at q1;unfold dL at q2;exact gF) ?_;refine cG (λcc W hlo hhi hI=>by have q1:=hI.tk.cells;have q2:=hI.nm.cells;unfold fG at q1;unfold dL at q2;exact gF) ?_;refine cW (λW hI=>by have hI:=(show aI S pT pN pR pO w.heap.size 60 w s [.slice none 0 0, .slice none 0 0, .bool false, .int .i64 0] W from hI);have hz:=Hd (ni hI HA.o HP.o);exact gC) ?_;refine cD ?_;refine cW (λW hI=>by have hI:=(show aI S pT pN pR pO w.heap.size 60 w (bJ.next s 1) [.slice none 0 0, .slice none 0 0, .bool false, .int .i64 0] W from hI);have hz:=Hd (rM hI HA.o HP.o (bJ.num s 1) oM);exact gC) ?_;refine cD ?_;refine cW (λW hI=>by have hI:=(show aI S pT pN pR pO w.heap.size 60 w (bJ.skip s) [.slice none 0 0, .slice none 0 0, .bool false, .int .i64 0] W from hI);have q1:=hI.x.cells;have q3:=hI.x.marks;have q2:=hI.x.lt;have h2:=hI.zn (i:=0) (v:=gU s) HP.o HPT.o HPN.o HSP.o (Nat.le_refl _);unfold gU at h2 q1;go_simp;refine⟨?_,h2⟩;rfl) ?_;refine iD λW1 hI1=>?_;have HD1:=Hd (show aI S pT pN pR pO w.heap.size 60 w s.skip [gU s, .slice none 0 0, .bool false, .int .i64 0] W1 from hI1);clear hI1;go_wp2_with fail;refine' eF (λc=>aI S pT pN pR pO w.heap.size 60 w (if c=0 then s.skip else if c=1 then bJ.next s.skip 1 else bJ.skip s.skip) (if c=3 then [gU s,gU s.skip, .bool false, .int .i64 0]else [gU s, .slice none 0 0, .bool false, .int .i64 0])) [2,4,6] [_,_,_,_,_,_,_] kR kR (λc W W' h hb=>h.ext hb) (HD1.o) ?fZ
  case fZ=>
   refine cG (λcc W hlo hhi hI=>by have q1:=hI.tk.cells;have q2:=hI.nm.cells;unfold fG at q1;unfold dL at q2;exact gF) ?_;refine cG (λcc W hlo hhi hI=>by have q1:=hI.tk.cells;have q2:=hI.nm.cells;unfold fG at q1;unfold dL at q2;exact gF) ?_;refine cW (λW hI=>by have hI:=(show aI S pT pN pR pO w.heap.size 60 w s.skip [gU s, .slice none 0 0, .bool false, .int .i64 0] W from hI);have hz:=Hd (ni hI HA.o HP.o);exact gC) ?_;refine cD ?_;refine cW (λW hI=>by have hI:=(show aI S pT pN pR pO w.heap.size 60 w (bJ.next s.skip 1) [gU s, .slice none 0 0, .bool false, .int .i64 0] W from hI);have hz:=Hd (rM hI HA.o HP.o (bJ.num s.skip 1) oM);exact gC) ?_;refine cD ?_;refine cW (λW hI=>by have hI:=(show aI S pT pN pR pO w.heap.size 60 w (bJ.skip s.skip) [gU s, .slice none 0 0, .bool false, .int .i64 0] W from hI);have q1:=hI.x.cells;have q3:=hI.x.marks;have q2:=hI.x.lt;have h2:=hI.zn (i:=1) (v:=gU s.skip) HP.o HPT.o HPN.o HSP.o (Nat.le_refl _);unfold gU at h2 q1;go_simp;refine⟨?_,h2⟩;rfl) ?_;refine iD λW2 hI2=>?_;have HD2:=Hd (show aI S pT pN pR pO w.heap.size 60 w s.skip.skip [gU s,gU s.skip, .bool false, .int .i64 0] W2 from hI2);have q1:=HD2.o.tk.cells;have q2:=HD2.o.nm.cells;unfold fG at q1;unfold dL at q2;clear hI2;go_wp2_with fail;(with_reducible refine(ni HD2.o HA.o HP.o).mono ?_);rintro e W3 ⟨rfl,h3⟩
   obtain⟨bq,hbq⟩:∃b,(lM s).int=b:=⟨_,rfl⟩;have hb1:(((s.skip.skip.num 1:Nat):Int)==1)=bq:=by
    rw[<- hbq,Bool.eq_iff_iff];unfold lM;simp;omega
   obtain⟨m,hm⟩:∃m,(s.skip.skip.next 1).num 8=m:=⟨_,rfl⟩;obtain⟨nn,hnn⟩:∃n,(lM s).n=n:=⟨_,rfl⟩;have hn1:wrap64 (m:Int)=nn:=by rw[<- hnn,<- hm];rfl
   have hn2:IntKind.i64.wrap (m:Int)=nn:=by rw[<- hn1,aZ,dQ]
   have HBQ:=Hd hbq;have HNN:=Hd hnn;have HD4:=Hd (h3.zn (i:=2) (v:= .bool bq) HP.o HPT.o HPN.o HSP.o (Nat.le_refl _));have c3:=h3.x.cells;have m3:=h3.x.marks;have l3:=h3.x.lt;have q3:=HD4.o.nm.cells;unfold dL at q3;have hcn:=o7 HD4.o HA.o HP.o;rw[hm]at hcn;have HCN:=Hd hcn;clear h3 q1 q2 hbq hnn hm hcn;go_wp2_with fail;(with_reducible refine HCN.o.mono ?_);rintro e W5 ⟨rfl,h5⟩
   have HD5:=Hd h5;have HD6:=Hd (h5.zn (i:=3) (v:= .int .i64 nn) HP.o HPT.o HPN.o HSP.o (Nat.le_refl _));have c5:=h5.x.cells;have m5:=h5.x.marks;have l5:=h5.x.lt;clear c3 m3 l3 q3 h5;go_wp2_with fail;clear c5 m5 l5 hn1 hn2 hb1;refine' eF (λc=>aI S pT pN pR pO w.heap.size 60 w (jy s) [gU s,gU s.skip, .bool bq, .int .i64 nn]) [2] [_,_,_,_] kR kR (λc W W' h hb=>h.ext hb) (HD6.o) ?iT
   case iT=>
    refine cG (λcc W hlo hhi hI=>by have q1:=hI.x.cells;unfold gU at q1;exact gF) ?_;refine cG (λcc W hlo hhi hI=>by have q1:=hI.st.hO.cells;exact gF) ?_;refine cW (λW hI=>by have q1:=hI.x.cells;have q2:=hI.x.marks;have q3:=hI.x.lt;have h2:=(((hI.zn (i:=0) (v:=gU s) HP.o HPT.o HPN.o HSP.o (Nat.le_refl _)).zn (i:=1) (v:=gU s.skip) HP.o HPT.o HPN.o HSP.o (Nat.le_refl _)).zn (i:=2) (v:= .bool bq) HP.o HPT.o HPN.o HSP.o (Nat.le_refl _)).zn (i:=3) (v:= .int .i64 nn) HP.o HPT.o HPN.o HSP.o (Nat.le_refl _);unfold gU at h2 q1;go_simp;refine⟨?_,h2⟩;rfl) ?_;refine cD ?_;refine iD λW7 hI7=>?_;have HD7:=Hd (show aI S pT pN pR pO w.heap.size 60 w (jy s) [gU s,gU s.skip, .bool bq, .int .i64 nn] W7 from hI7);have c7:=HD7.o.x.cells;unfold gU at c7;clear hI7;go_wp2;refine bodyPost_ret (v:= .tuple #[.agg #[gU s,gU s.skip, .bool bq, .int .i64 nn], .bool (jy s).ok]) (by simp[results,Tryz.results105,go_sem,c7,gU]) rfl ⟨by rw[HBQ.o,HNN.o],HD7.o.st,HD7.o.only⟩
end Go.Proofs.YtenmnhnlcnmloaaGreat
