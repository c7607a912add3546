/- Functions evaluated on the small machine: LinkText of DD: evaluated, Words, digits: evaluated, What is seen of nodes, plain. -/
import Derived.Lib.Join
import Derived.Test.YtbolhfegdocpeaaGreatEv9
import Derived.Test.YtbolhfegdocpeaaGreatJoinM
namespace Go.Proofs.YtbolhfegdocpeaaGreat.Ow
open Go
set_option linter.unusedVariables false
set_option linter.unusedSimpArgs false
set_option maxHeartbeats 4000000
variable {PK:Nat->List Arg->Option Res}
def linkText (x y:AG):ByteArray:=
 if Am x=true/\Am y=true/\ ¬x.id=y.id then
  if x.conn.getD y.id.toNat false&&y.conn.getD x.id.toNat false then
   if x.copies.getD y.id.toNat false then⟨#[102,114,111,109]⟩
   else if y.copies.getD x.id.toNat false then⟨#[116,111]⟩else⟨#[106,111,105,110,101,100]⟩
  else⟨#[97,112,97,114,116]⟩
 else⟨#[110,111,110,101]⟩
theorem ev_spec_LinkText (x y:AG) (hx:nS x) (hy:nS y):AH G PK md 46 [.a (AJ (fN x)),.a (AJ (fN y))]=some ⟨[.v (.sc (.string (linkText x y)))],[],[]⟩:=by
 refine AA (pf:=p46) rfl (by simp[p46]) ?_;have e0:=AZ (PK:=PK) x hx;have e1:=AZ (PK:=PK) y hy;simp only[AJ,lent,fN]at e0 e1;unfold linkText
 cases h0:Am x
 ·rw[h0]at e0;simp[p46,md,e0]
 rw[h0]at e0
 cases h1:Am y
 ·rw[h1]at e1;simp[p46,md,e0,e1]
 rw[h1]at e1;by_cases hid:x.id=y.id
 ·simp[p46,md,e0,e1,eq_true hid]
 have nx:=A3 h0;have ny:=A3 h1;obtain⟨i,hi,hxi⟩:=nx.nat;obtain⟨j,hj,hyj⟩:=ny.nat;obtain⟨c1,y1,_,a1,d1⟩:=A1 x.conn (j:=j) (by rw[nx.conn];omega);obtain⟨c2,y2,_,a2,d2⟩:=A1 y.conn (j:=i) (by rw[ny.conn];omega);obtain⟨c3,y3,_,a3,d3⟩:=A1 x.copies (j:=j) (by rw[nx.copies];omega);obtain⟨c4,y4,_,a4,d4⟩:=A1 y.copies (j:=i) (by rw[ny.copies];omega);have hij: ¬ (i:Int)=j:=by rw[←hxi,←hyj];exact hid
 rw[hxi]at e0;rw[hyj]at e1;simp only[hxi,hyj,Int.toNat_natCast,d1,d2,d3,d4]
 cases c1<;>cases c2<;>cases c3<;>cases c4<;>simp[p46,md,e0,e1,hxi,hyj,hij,y1,a1,y2,a2,y3,a3,y4,a4]
theorem ev_impl_LinkText (x y:AG) (hx:nS x) (hy:nS y):AH G PK md 45 [.a (AJ (fN x)),.a (AJ (fN y))]=some ⟨[.v (.sc (.string (linkText x y)))],[],[]⟩:=by
 refine AA (pf:=p45) rfl (by simp[p45]) ?_;have e0:=ML (PK:=PK) x hx;have e1:=ML (PK:=PK) y hy;simp only[AJ,lent,fN]at e0 e1;unfold linkText
 cases h0:Am x
 ·rw[h0]at e0;simp[p45,md,e0]
 rw[h0]at e0
 cases h1:Am y
 ·rw[h1]at e1;simp[p45,md,e0,e1]
 rw[h1]at e1;by_cases hid:x.id=y.id
 ·simp[p45,md,e0,e1,eq_true hid]
 have nx:=A3 h0;have ny:=A3 h1;obtain⟨i,hi,hxi⟩:=nx.nat;obtain⟨j,hj,hyj⟩:=ny.nat;obtain⟨c1,y1,_,a1,d1⟩:=A1 x.conn (j:=j) (by rw[nx.conn];omega);obtain⟨c2,y2,_,a2,d2⟩:=A1 y.conn (j:=i) (by rw[ny.conn];omega);obtain⟨c3,y3,_,a3,d3⟩:=A1 x.copies (j:=j) (by rw[nx.copies];omega);obtain⟨c4,y4,_,a4,d4⟩:=A1 y.copies (j:=i) (by rw[ny.copies];omega);have hij: ¬ (i:Int)=j:=by rw[←hxi,←hyj];exact hid
 rw[hxi]at e0;rw[hyj]at e1;simp only[hxi,hyj,Int.toNat_natCast,d1,d2,d3,d4]
 cases c1<;>cases c2<;>cases c3<;>cases c4<;>simp[p45,md,e0,e1,hxi,hyj,hij,y1,a1,y2,a2,y3,a3,y4,a4]
def sp:ByteArray:=⟨#[32]⟩
def nl:ByteArray:=⟨#[10]⟩
def dg (d:Nat):ByteArray:=⟨#[UInt8.ofNat (48+d)]⟩
@[simp] theorem dg_size (d:Nat):(dg d).size=1:=rfl
@[simp] theorem sp_size:sp.size=1:=rfl
@[simp] theorem nl_size:nl.size=1:=rfl
theorem ba_ext {a b:ByteArray} (h:a.data.toList=b.data.toList):a=b:=by
 cases a;cases b
 simp only[ByteArray.mk.injEq];exact Array.ext' h
theorem ba_app (a b:ByteArray):(a++b).data.toList=a.data.toList++b.data.toList:=by
 rw[ByteArray.data_append,Array.toList_append]
theorem joinTx_data (xs:List ByteArray) (s:ByteArray):(joinTx xs s).data.toList=Lib.join (xs.map (·.data.toList)) s.data.toList:=rfl
theorem joinTx_one (a s:ByteArray):joinTx [a] s=a:=ba_ext (by rw[joinTx_data];exact Lib.join_one _ _)
theorem joinTail_app (s:List UInt8) (l m:List (List UInt8)):Lib.joinTail s (l++m)=Lib.joinTail s l++Lib.joinTail s m:=by simp[Lib.joinTail]
theorem joinTx_snoc (x:ByteArray) (l:List ByteArray) (s a:ByteArray):joinTx (x::l++[a]) s=joinTx (x::l) s++s++a:=ba_ext (by
 rw[ba_app,ba_app,joinTx_data,joinTx_data];simp only[List.map_cons,List.map_append,List.cons_append,Lib.join_cons,joinTail_app];simp[Lib.joinTail])
theorem joinTx_two (a b s:ByteArray):joinTx [a,b] s=a++s++b:=by
 have:=joinTx_snoc a [] s b;rw[joinTx_one]at this;exact this
theorem joinTx_three (a b c s:ByteArray):joinTx [a,b,c] s=a++s++b++s++c:=by
 have:=joinTx_snoc a [b] s c;rw[joinTx_two]at this;exact this
theorem encS2 (W:List ByteArray) (a b:ByteArray):enc fS W++[[T.sc (.string a)],[T.sc (.string b)]]=enc fS (W++[a,b]):=by simp[enc]
theorem encS1 (W:List ByteArray) (a:ByteArray):enc fS W++[[T.sc (.string a)]]=enc fS (W++[a]):=by simp[enc]
theorem sp_eq:(⟨#[32]⟩:ByteArray)=sp:=rfl
theorem utf8_digit: ∀d:Nat,d<=9->Utf8.encode (48+d:Nat)=dg d
 |0,_=>rfl
 |1,_=>rfl
 |2,_=>rfl
 |3,_=>rfl
 |4,_=>rfl
 |5,_=>rfl
 |6,_=>rfl
 |7,_=>rfl
 |8,_=>rfl
 |9,_=>rfl
 |n+10,h=>absurd h (by omega)
theorem ev_impl_Digits (d:Nat) (hd:d<=9):AH G PK md 61 [.v (.sc (.int .i64 d))]=some ⟨[.v (.sc (.string (dg d)))],[],[]⟩:=by
 refine AA (pf:=p61) rfl (by simp[p61]) ?_;have h1: ¬ (d:Int)<0:=by omega
 have h2:(d:Int)<10:=by omega
 have h3:IntKind.wrap .i64 (48+(d:Int))=((48+d:Nat):Int):=by rw[AC (by omega) (by omega)];omega
 have h4:IntKind.wrap .i32 ((48+d:Nat):Int)=((48+d:Nat):Int):=by
  have h1:IntKind.wrap .i32 ((48+d:Nat):Int)=(if((48+d:Nat):Int)%4294967296 ≥ 2147483648 then((48+d:Nat):Int)%4294967296 - 4294967296 else((48+d:Nat):Int)%4294967296):=by
   simp[IntKind.wrap,IntKind.bits,IntKind.signed]
  rw[h1];split<;>omega
 have h5:=utf8_digit d hd;generalize ((48+d:Nat):Int)=N at h3 h4 h5;simp[p61,md,h1,h2,h3,h4,h5]
theorem tdiv10 {d:Nat} (hd:d<=9):((d:Nat):Int).tdiv 10=0:=by rw[Int.tdiv_eq_ediv_of_nonneg (by omega)];omega
theorem tmod10 {d:Nat} (hd:d<=9):((d:Nat):Int).tmod 10=d:=by rw[Int.tmod_eq_emod_of_nonneg (by omega)];omega
@[simp] def st62 (n:Int) (out:ByteArray):St:={n:=31,m:=0,tm:=[(0,.sc (.int .i64 n)),(3,.sc (.bool false)),(4,.sc (.string out))],ob:=[]}
theorem ba_size0:(⟨#[]⟩:ByteArray).size=0:=rfl
theorem ba_nil (a:ByteArray):a++(⟨#[]⟩:ByteArray)=a:=ba_ext (by rw[ba_app];simp)
theorem u8dg: ∀d:Nat,d<=9->(⟨[UInt8.ofNat (IntKind.wrap .u8 ((48+d:Nat):Int)).toNat].toArray⟩:ByteArray)=dg d:=fun d hd=>by
 have:IntKind.wrap .u8 ((48+d:Nat):Int)=((48+d:Nat):Int):=by rw[Fg];omega
 rw[this];rfl
theorem ev_spec_Digits (d:Nat) (hd:d<=9):AH G PK md 62 [.v (.sc (.int .i64 d))]=some ⟨[.v (.sc (.string (dg d)))],[],[]⟩:=by
 refine AA (pf:=p62) rfl (by simp[p62]) ?_;rcases Nat.eq_zero_or_pos d with h0|h0
 ·subst h0;simp[p62,md];rfl
 have hz: ¬ (d:Int)=0:=by omega
 have hz2: ¬d=0:=by omega
 have hn: ¬ (d:Int)<0:=by omega
 have h1:=tdiv10 hd;have h2:=tmod10 hd;have hw:IntKind.wrap .i64 (d:Int)=d:=AC (by omega) (by omega);have h3:IntKind.wrap .i64 (48+(d:Int))=((48+d:Nat):Int):=by rw[AC (by omega) (by omega)];omega
 have hw0:IntKind.wrap .i64 0=0:=rfl;have h4:=u8dg d hd;have hsz:=AL (G:=G) (PK:=PK) (md:=md) (o:=10000000) (live:=[0,3,4]) (c:=b62_0) (fun j=>if j=0 then st62 d ⟨#[]⟩else st62 0 (dg d)) 1 (fun j hj=>by
  obtain rfl:j=0:=by omega
  generalize ((48+d:Nat):Int)=N at h3 h4;simp[b62_0,md,hz,hz2,hn,h1,h2,hw,hw0,h3,B5,h4,ba_nil,ba_size0]) (by simp[b62_0])
 simp[p62,md,hz,hz2,hn];rw[hsz]
 ·simp[b62_0]
 ·simp
 ·simp
theorem ev_spaced (hJ0: ∀xs:List ByteArray,xs.length<=1000->(joinTx xs sp).size<=1000000->AH G PK md 122 [.v (.im 1 (enc fS xs)),.v (.sc (.string sp))]=some ⟨[.v (.sc (.string (joinTx xs sp)))],[],[]⟩) (xs:List ByteArray) (h1:xs.length<=1000) (h2:(joinTx xs sp).size<=1000000):AH G PK md 86 [.v (.im 1 (enc fS xs))]=some ⟨[.v (.sc (.string (joinTx xs sp)))],[],[]⟩:=by
 refine AA (pf:=p86) rfl (by simp[p86]) ?_;have e:=hJ0 xs h1 h2;have hs:(⟨#[32]⟩:ByteArray)=sp:=rfl;simp[p86,md,hs,e]
def roleText (x:AG):ByteArray:=if x.up then(if x.prime then⟨#[102,105,114,115,116]⟩else⟨#[115,101,99,111,110,100]⟩)else⟨#[100,111,119,110]⟩
def diskText (x:AG):ByteArray:=if x.mt.fine then(if x.mt.old then⟨#[111,108,100]⟩else⟨#[102,105,110,101]⟩)else⟨#[116,111,114,110]⟩
theorem role_size (x:AG):(roleText x).size<=6:=by
 unfold roleText;split
 ·split<;>decide
 ·decide
theorem disk_size (x:AG):(diskText x).size<=4:=by
 unfold diskText;split
 ·split<;>decide
 ·decide
theorem link_size (x y:AG):(linkText x y).size<=6:=by
 unfold linkText;split
 ·split
  ·split
   ·decide
   ·split<;>decide
  ·decide
 ·decide
def bl (x:AG) (j:Nat):Nat:=(x.mt.bits.getD j []).length
def wl (w:AB) (i:Nat):Nat->List ByteArray
 |0=>[dg i,roleText (nd w i),diskText (nd w i)]
 |j+1=>if j=i then wl w i j else wl w i j++[linkText (nd w i) (nd w j),dg (bl (nd w i) j)]
theorem wl_cons (w:AB) (i:Nat): ∀j,∃x l,wl w i j=x::l
 |0=>⟨_,_,rfl⟩
 |j+1=>by
  obtain⟨x,l,h⟩:=wl_cons w i j;unfold wl;split
  ·exact⟨x,l,h⟩
  ·exact⟨x,l++[linkText (nd w i) (nd w j),dg (bl (nd w i) j)],by rw[h];rfl⟩
def rowB (w:AB) (i j:Nat):ByteArray:=joinTx (wl w i j) sp
theorem rowB_succ (w:AB) (i j:Nat) (h: ¬j=i):rowB w i (j+1)=rowB w i j++sp++linkText (nd w i) (nd w j)++sp++dg (bl (nd w i) j):=by
 obtain⟨x,l,hl⟩:=wl_cons w i j;unfold rowB;rw[show wl w i (j+1)=wl w i j++[linkText (nd w i) (nd w j),dg (bl (nd w i) j)]by rw[wl,if_neg h],hl];have h1:=joinTx_snoc x l sp (linkText (nd w i) (nd w j));have h2:=joinTx_snoc x (l++[linkText (nd w i) (nd w j)]) sp (dg (bl (nd w i) j));rw[show x::l++[linkText (nd w i) (nd w j),dg (bl (nd w i) j)]=x::(l++[linkText (nd w i) (nd w j)])++[dg (bl (nd w i) j)]by simp,h2,show x::(l++[linkText (nd w i) (nd w j)])=x::l++[linkText (nd w i) (nd w j)]from rfl,h1]
theorem rowB_size (w:AB) (i:Nat): ∀j,(rowB w i j).size<=13+9*j
 |0=>by
  have h1:=role_size (nd w i);have h2:=disk_size (nd w i);unfold rowB wl;rw[joinTx_three];simp only[ByteArray.size_append,dg_size,sp_size];omega
 |j+1=>by
  have h:=rowB_size w i j;by_cases hji:j=i
  ·have:rowB w i (j+1)=rowB w i j:=by unfold rowB;rw[wl,if_pos hji]
   rw[this];omega
  ·have h3:=link_size (nd w i) (nd w j);rw[rowB_succ w i j hji];simp only[ByteArray.size_append,dg_size,sp_size];omega
def repT (w:AB):Nat->ByteArray
 |0=>⟨#[]⟩
 |i+1=>repT w i++(rowB w i 3++nl)
theorem sz32:(⟨#[32]⟩:ByteArray).size=1:=rfl
theorem rep_size (w:AB): ∀i,(repT w i).size<=41*i
 |0=>Nat.le_refl _
 |i+1=>by
  have h:=rep_size w i;have h2:=rowB_size w i 3;simp only[repT,ByteArray.size_append,nl_size];omega
def report (w:AB):ByteArray:=if BV w then repT w 3 else⟨#[]⟩
theorem mk_ascR {l:List Int} (h:C5 l=true): ∀j,j<l.length->(j:Int)<=l.getD j 0:=by
 intro j
 induction j with
 |zero=>
  intro hj;have:=Ar h hj;unfold mkP at this;rw[Bool.and_eq_true]at this;exact(Ab.1 this.1).1
 |succ j ih=>
  intro hj;have h1:=ih (by omega);have:=Ar h hj;unfold mkP at this;rw[Bool.and_eq_true]at this;have h2:=this.2;simp at h2;rw[List.getD_eq_getElem?_getD,List.getD_eq_getElem?_getD]at*;omega
theorem mk_lenR {l:List Int} (h:C5 l=true):l.length<=8:=by
 rcases Nat.lt_or_ge 8 l.length with h1|h1
 ·exfalso;have h2:=mk_ascR h 8 h1;have:=Ar h h1;unfold mkP at this;rw[Bool.and_eq_true]at this;have:=(Ab.1 this.1).2;omega
 ·exact h1
theorem NOk.bits {n:AG} (h:NOk n):n.mt.bits.length=3/\ ∀x∈n.mt.bits,x.length<=8:=by
 have h1:=h.mt;unfold BP at h1;simp only[Bool.and_eq_true,beq_iff_eq]at h1;refine⟨by omega,fun x hx=> ?_⟩;obtain⟨j,hj⟩:=List.getElem?_of_mem hx;have h2:=h1.1.1.2.2;unfold Dd at h2;have:=Ar h2 (List.getElem?_eq_some_iff.1 hj).1;simp only[CI hj]at this;exact mk_lenR this
theorem ev_spec_RoleText (x:AG):AH G PK md 42 [.a (AJ (fN x))]=some ⟨[.v (.sc (.string (roleText x)))],[],[]⟩:=by
 refine AA (pf:=p42) rfl (by simp[p42]) ?_
 cases h1:x.up<;>cases h2:x.prime<;>simp[p42,h1,h2,roleText]
theorem ev_spec_DiskText (x:AG):AH G PK md 44 [.a (AJ (fN x))]=some ⟨[.v (.sc (.string (diskText x)))],[],[]⟩:=by
 refine AA (pf:=p44) rfl (by simp[p44]) ?_
 cases h1:x.mt.fine<;>cases h2:x.mt.old<;>simp[p44,h1,h2,diskText]
theorem ev_impl_RoleText (x:AG):AH G PK md 41 [.a (AJ (fN x))]=some ⟨[.v (.sc (.string (roleText x)))],[],[]⟩:=by
 refine AA (pf:=p41) rfl (by simp[p41]) ?_
 cases h1:x.up<;>cases h2:x.prime<;>simp[p41,h1,h2,roleText]
theorem ev_impl_DiskText (x:AG):AH G PK md 43 [.a (AJ (fN x))]=some ⟨[.v (.sc (.string (diskText x)))],[],[]⟩:=by
 refine AA (pf:=p43) rfl (by simp[p43]) ?_
 cases h1:x.mt.fine<;>cases h2:x.mt.old<;>simp[p43,h1,h2,diskText]
@[simp] def stR31_0 (w:AB) (x:AG) (i:Nat) (out:ByteArray) (j:Nat):St:={n:=68,m:=0,tm:=[(1,.pb 10000200 0),(3,.sc (.string out)),(4,.sc (.int .i64 i)),(5,.pb 10000201 0),(6,.sc (.int .i64 j))],ob:=[(10000200,GO w),(10000201,OI x)]}
@[simp] def stR31_1 (w:AB) (out:ByteArray) (j:Nat):St:={n:=68,m:=0,tm:=[(1,.pb 10000000 0),(3,.sc (.string out)),(4,.sc (.int .i64 j))],ob:=[(10000000,GO w)]}
theorem nl_eq:(⟨#[10]⟩:ByteArray)=nl:=rfl
theorem lp31_0 (w:AB) (hw:wS w) (hN:Dv w) (i:Nat) (hi:i<3) (A:ByteArray) (hA:A.size<=1000): ∀ (s:St),s.m<=10000200->Ai 10000200 [1,3,4,5,6] s=stR31_0 w (nd w i) i (A++rowB w i 0) 0->Ag G PK md 10000200 [1,3,4,5,6] b48_0 s=An (AH G PK md) (Ag G PK md) md b48_0 (stR31_0 w (nd w i) i (A++rowB w i 3) 3):=by
 have h3:=hN.len;refine AL (G:=G) (PK:=PK) (md:=md) (o:=10000200) (live:=[1,3,4,5,6]) (c:=b48_0) (fun j=>stR31_0 w (nd w i) i (A++rowB w i j) j) (3) (fun j hj=> ?_) (by simp[b48_0,h3]);obtain⟨y,y2,hy,hy',hyd,hym⟩:=Ay w.nodes zN (j:=j) (by omega);have hnj:nd w j=y:=hyd;have hinc:=A2 (n:=3) (j:=j) (by omega) (by omega);have hj3:((j:Nat):Int)<3:=by omega
 by_cases hji:j=i
 ·have hr:rowB w i (j+1)=rowB w i j:=by unfold rowB;rw[wl,if_pos hji]
  simp only[hr];generalize A++rowB w i j=out;subst hji;simp[b48_0,md,h3,hj3,hinc]
 ·have hji': ¬ ((j:Nat):Int)=i:=by omega
  have hs:=rowB_size w i j;have hr:=rowB_succ w i j hji;have hls:=link_size (nd w i) (nd w j);simp only[hr];rw[←ByteArray.append_assoc,←ByteArray.append_assoc,←ByteArray.append_assoc,←ByteArray.append_assoc];have hsz:(A++rowB w i j).size<=1100:=by rw[ByteArray.size_append];omega
  generalize A++rowB w i j=out at hsz ⊢;have nx:=hN.ok i hi;have hxm:nd w i∈w.nodes:=by
   obtain⟨x,_,_,_,hxd,hxm⟩:=Ay w.nodes zN (j:=i) (by omega);unfold nd;rw[hxd];exact hxm
  rw[hnj]at hls ⊢;generalize nd w i=x at nx hls hxm ⊢;obtain⟨b,z1,hb,hb',hbd,hbm⟩:=Ay x.mt.bits [] (j:=j) (by rw[nx.bits.1];omega);have hbl:bl x j=b.length:=by unfold bl;rw[hbd]
  have h8:=nx.bits.2 b hbm;rw[hbl];have e1:=ev_spec_LinkText (PK:=PK) x y (hw.node x hxm) (hw.node y hym);have e2:=ev_spec_Digits (PK:=PK) b.length (by omega);simp only[AJ,lent,fN]at e1;have g1:out.size+1<=9223372036854775807:=by omega
  have g2:out.size+1+(linkText x y).size<=9223372036854775807:=by omega
  have g3:out.size+1+(linkText x y).size+1<=9223372036854775807:=by omega
  have g4:out.size+1+(linkText x y).size+1+1<=9223372036854775807:=by omega
  simp[b48_0,md,h3,hj,hj3,hinc,hji',hy',y2,z1,hb',sp_eq,e1,e2,ByteArray.size_append,g1,g2,g3,g4]
theorem ev_spec_Report (w:AB) (hw:wS w):AH G PK md 48 [.a (AJ (fWo w))]=some ⟨[.v (.sc (.string (report w)))],[],[]⟩:=by
 refine AA (pf:=p48) rfl (by simp[p48]) ?_;have e:=GC (PK:=PK) w hw;simp only[AJ,lent,fWo]at e;unfold report
 cases hok:BV w
 ·rw[hok]at e;have hsz:=AL (G:=G) (PK:=PK) (md:=md) (o:=10000000) (live:=[1,3,4]) (c:=b48_1) (stR31_1 w ⟨#[]⟩) (0) (fun j hj=>absurd hj (by omega)) (by by_cases h0:0<w.nodes.length<;>simp[b48_1,md,e,h0]);simp[p48,md];rw[hsz]
  ·by_cases h0:0<w.nodes.length<;>simp[b48_1,md,e,h0]
  ·simp
  ·simp
 ·rw[hok]at e;have hN:=Ha hok;have h3:=hN.len;have hsz:=AL (G:=G) (PK:=PK) (md:=md) (o:=10000000) (live:=[1,3,4]) (c:=b48_1) (fun j=>stR31_1 w (repT w j) j) (3) (fun j hj=>by
   obtain⟨x,y1,hx,hx',hxd,hxm⟩:=Ay w.nodes zN (j:=j) (by omega);have hnj:nd w j=x:=hxd;have hinc:=A2 (n:=3) (j:=j) (by omega) (by omega);have hj3:((j:Nat):Int)<3:=by omega
   have hrs:=rep_size w j;have hsuc:repT w (j+1)=repT w j++(rowB w j 3++nl):=rfl;simp only[hsuc];rw[←ByteArray.append_assoc];have hin:=lp31_0 (PK:=PK) w hw hN j hj (repT w j) (by omega);have h0:repT w j++rowB w j 0=repT w j++dg j++sp++roleText x++sp++diskText x:=by
    unfold rowB wl;rw[joinTx_three,hnj];simp only[ByteArray.append_assoc]
   rw[h0,hnj]at hin;have hr3:=rowB_size w j 3;have hsz3:(repT w j++rowB w j 3).size<=1000:=by rw[ByteArray.size_append];omega
   generalize repT w j++rowB w j 3=R at hin hsz3 ⊢;have hrs2:(repT w j).size<=200:=by omega
   generalize repT w j=out at hin hrs2 ⊢;have e1:=ev_spec_Digits (PK:=PK) j (by omega);have e2:=ev_spec_RoleText (PK:=PK) x;have e3:=ev_spec_DiskText (PK:=PK) x;simp only[AJ,lent,fN]at e2 e3;have s1:=role_size x;have s2:=disk_size x;have g1:out.size+1<=9223372036854775807:=by omega
   have g2:out.size+1+1<=9223372036854775807:=by omega
   have g3:out.size+1+1+(roleText x).size<=9223372036854775807:=by omega
   have g4:out.size+1+1+(roleText x).size+1<=9223372036854775807:=by omega
   have g5:out.size+1+1+(roleText x).size+1+(diskText x).size<=9223372036854775807:=by omega
   have g6:R.size+1<=9223372036854775807:=by omega
   simp[b48_1,md,h3,hj,hj3,e,hx',y1,e1,e2,e3,sz32,ByteArray.size_append,g1,g2,g3,g4,g5];rw[hin]
   ·simp[b48_0,h3,sp_eq,nl_eq,ByteArray.size_append,g6,hinc]
   ·simp
   ·simp[sp_eq]) (by simp[b48_1,h3])
  simp[p48,md];rw[hsz]
  ·simp[b48_1,h3]
  ·simp
  ·simp[repT]
end Go.Proofs.YtbolhfegdocpeaaGreat.Ow
