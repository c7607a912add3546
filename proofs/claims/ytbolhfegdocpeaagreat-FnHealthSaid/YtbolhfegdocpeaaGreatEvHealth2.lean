/- FnHealth: evaluated. -/
import Derived.Test.YtbolhfegdocpeaaGreatEv31
import Derived.Test.YtbolhfegdocpeaaGreatEvHealth1
import Derived.Test.YtbolhfegdocpeaaGreatEvS0
namespace Go.Proofs.YtbolhfegdocpeaaGreat.Ow
open Go
set_option linter.unusedVariables false
set_option linter.unusedSimpArgs false
set_option maxHeartbeats 16000000
variable {PK:Nat->List Arg->Option Res}
theorem ev_DrawRoleText (b:List Int) (hb:byt b): ∃n,nD n/\AH G PK md 34 [.v (.im 1 (enc fU b))]=some ⟨[.a (AD (fN n))],[],[]⟩:=by
 obtain⟨c,hc,e0⟩:=ev_l1New (PK:=PK) b hb;obtain⟨n,c1,hn,k1,e1⟩:=Sm (PK:=PK) b c hb hc;simp only[cur,AD,AX,fN]at e0 e1;refine⟨n,hn,AA (pf:=p34) rfl (by simp[p34]) ?_⟩;simp (config:={maxSteps:=10000000}) [p34,md,e0,e1,AF]
theorem ev_DrawDiskText (b:List Int) (hb:byt b): ∃n,nD n/\AH G PK md 35 [.v (.im 1 (enc fU b))]=some ⟨[.a (AD (fN n))],[],[]⟩:=by
 obtain⟨c,hc,e0⟩:=ev_l1New (PK:=PK) b hb;obtain⟨n,c1,hn,k1,e1⟩:=Sm (PK:=PK) b c hb hc;simp only[cur,AD,AX,fN]at e0 e1;refine⟨n,hn,AA (pf:=p35) rfl (by simp[p35]) ?_⟩;simp (config:={maxSteps:=10000000}) [p35,md,e0,e1,AF]
theorem ev_DrawReport (b:List Int) (hb:byt b): ∃w,DW w/\AH G PK md 37 [.v (.im 1 (enc fU b))]=some ⟨[.a (AD (fWo w))],[],[]⟩:=by
 obtain⟨c,hc,e0⟩:=ev_l1New (PK:=PK) b hb;obtain⟨w,c1,hw,k1,e1⟩:=ev_l12Draw (PK:=PK) b c hb hc;simp only[cur,AD,AX,fWo]at e0 e1;refine⟨w,hw,AA (pf:=p37) rfl (by simp[p37]) ?_⟩;simp (config:={maxSteps:=10000000}) [p37,md,e0,e1,AF]
theorem ev_DrawTrouble (b:List Int) (hb:byt b): ∃w,DW w/\AH G PK md 38 [.v (.im 1 (enc fU b))]=some ⟨[.a (AD (fWo w))],[],[]⟩:=by
 obtain⟨c,hc,e0⟩:=ev_l1New (PK:=PK) b hb;obtain⟨w,c1,hw,k1,e1⟩:=ev_l12Draw (PK:=PK) b c hb hc;simp only[cur,AD,AX,fWo]at e0 e1;refine⟨w,hw,AA (pf:=p38) rfl (by simp[p38]) ?_⟩;simp (config:={maxSteps:=10000000}) [p38,md,e0,e1,AF]
def shNode (n:AG):List L:=[.sc (.int .i64 n.id),.sc (.bool n.up),.sc (.bool n.prime),.sh 8,.sh 7,.sh 6,.sc (.bool n.mt.fine),.sc (.bool n.mt.old),.sc (.bool n.mt.held),.sc (.int .i64 n.mt.last),.sh 5,.sh 4,.sh 3,.sh 2,.sh 1,.sh 0]
theorem ev_DrawLinkText (b:List Int) (hb:byt b):(∃x y,nS x/\nS y/\AH G PK md 36 [.v (.im 1 (enc fU b))]=some ⟨[.a (AD (fN x)),.a (AD (fN y))],[],[]⟩)\/ ∃x,nS x/\AH G PK md 36 [.v (.im 1 (enc fU b))]=some ⟨[.a (AD (fN x)),.a (shNode x)],[],[]⟩:=by
 obtain⟨c,hc,e0⟩:=ev_l1New (PK:=PK) b hb;obtain⟨f,c1,k1,e1⟩:=DB (PK:=PK) b c 3 hb hc (by omega);simp only[cur]at e0 e1
 cases f
 ·obtain⟨w,c2,hw,k2,e2⟩:=GF (PK:=PK) b c1 hb k1;obtain⟨x,c3,hx,_,k3,e3⟩:=AP (PK:=PK) b c2 3 hb k2 (by omega);obtain⟨y,c4,hy,_,k4,e4⟩:=AP (PK:=PK) b c3 3 hb k3 (by omega);obtain⟨i,rfl,hi⟩:=EL hx (by omega);obtain⟨j,rfl,hj⟩:=EL hy (by omega);have h3:=hw.n3;obtain⟨n,hn⟩:=AE (l:=w.nodes) (i:=i) (by omega);obtain⟨hil,hn'⟩:=Ba hn;obtain⟨m,hm⟩:=AE (l:=w.nodes) (i:=j) (by omega);obtain⟨hjl,hm'⟩:=Ba hm;have hnS:=hw.S.node n (List.mem_of_getElem? hn);have hmS:=hw.S.node m (List.mem_of_getElem? hm);simp only[cur,AD,AX,fWo]at e2 e3 e4;by_cases hij:i=j
  ·subst hij;refine .inr ⟨n,hnS,AA (pf:=p36) rfl (by simp[p36]) ?_⟩;unfold shNode;simp (config:={maxSteps:=10000000}) [p36,md,e0,e1,e2,e3,e4,hil,hn,hn',AF]
  ·have hji: ¬j=i:=fun h=>hij h.symm
   refine .inl ⟨n,m,hnS,hmS,AA (pf:=p36) rfl (by simp[p36]) ?_⟩;simp (config:={maxSteps:=10000000}) [p36,md,e0,e1,e2,e3,e4,hil,hn,hn',hjl,hm,hm',hij,hji,AF]
 ·obtain⟨n,c2,hn,k2,e2⟩:=Sm (PK:=PK) b c1 hb k1;obtain⟨m,c3,hm,k3,e3⟩:=Sm (PK:=PK) b c2 hb k2;simp only[cur,AD,AX,fN]at e2 e3;refine .inl ⟨n,m,hn.S,hm.S,AA (pf:=p36) rfl (by simp[p36]) ?_⟩;simp (config:={maxSteps:=10000000}) [p36,md,e0,e1,e2,e3,AF]
theorem rep_ne (w:AB): ¬repT w 3=⟨#[]⟩:=fun h=>by
 have h1:=congrArg ByteArray.size h;have h2:(repT w 3).size=(repT w 2).size+((rowB w 2 3).size+1):=by
  show (repT w 2++(rowB w 2 3++nl)).size=_
  rw[ByteArray.size_append,ByteArray.size_append];rfl
 rw[h2]at h1;have h3:(⟨#[]⟩:ByteArray).size=0:=rfl;omega
@[simp] def st6 (w:AB) (B:List ByteArray) (j:Nat):St:={n:=93,m:=0,tm:=[(7,.pb 10000000 0),(9,.ref 10000001 []),(10,.ref 10000002 []),(11,.sc (.int .i64 j))],ob:=[(10000000,.box [.ref 10000003 [],.ref 10000004 [],.ref 10000005 [],.ref 10000006 [],.sc (.int .i64 w.gen)]),(10000001,.arr 1 (enc fS B)),(10000002,.arr 1 (enc fS B)),(10000003,.arr 16 (enc fN w.nodes)),(10000004,.arr 3 (enc fW w.net)),(10000005,.arr 2 (enc fR w.log)),(10000006,.arr 1 (enc fI w.safe))]}
theorem ev_law (hJ0: ∀xs:List ByteArray,xs.length<=1000->(joinTx xs sp).size<=1000000->AH G PK md 122 [.v (.im 1 (enc fS xs)),.v (.sc (.string sp))]=some ⟨[.v (.sc (.string (joinTx xs sp)))],[],[]⟩) (x:List Int) (hx:okU x):AH G PK md 6 [.v (.im 1 (enc fU x))]=some ⟨[.v (.sc (.bool true))],[],[]⟩:=by
 refine AA (pf:=p6) rfl (by simp[p6]) ?_;have e0:=ev_big (PK:=PK) x hx.1;by_cases hbig:1048576<x.length
 ·rw[decide_eq_true hbig]at e0;simp[p6,md,e0]
 rw[decide_eq_false hbig]at e0;have hb:=okU_byt hx (by omega);obtain⟨r,hr,e1⟩:=ev_DrawRoleText (PK:=PK) x hb;obtain⟨d,hd,e2⟩:=ev_DrawDiskText (PK:=PK) x hb;obtain⟨w,hw,e4⟩:=ev_DrawReport (PK:=PK) x hb;obtain⟨t,ht,e5⟩:=ev_DrawTrouble (PK:=PK) x hb;have f1:=ev_impl_RoleText (PK:=PK) r;have f2:=ev_spec_RoleText (PK:=PK) r;have f3:=ev_impl_DiskText (PK:=PK) d;have f4:=ev_spec_DiskText (PK:=PK) d;have f5:=ev_impl_Report (PK:=PK) (ev_spaced hJ0) w hw.S;have f6:=ev_spec_Report (PK:=PK) w hw.S;have f7:=ev_impl_Trouble (PK:=PK) (ev_spaced hJ0) t ht.S;have f8:=ev_spec_Trouble (PK:=PK) t ht.S;have f9:=S6 (PK:=PK) w hw.S;have hB:(trouble t).length<=3:=by
  unfold trouble;split
  ·exact trb_len t 3
  ·simp
 have hrp:(decide (report w=⟨#[]⟩))= !BV w:=by
  unfold report;split
  ·rename_i h;rw[h];exact decide_eq_false (rep_ne w)
  ·rename_i h
   cases hq:BV w
   ·simp
   ·exact absurd hq h
 simp only[AJ,lent,AD,AX,fN,fWo]at e1 e2 e4 e5 f1 f2 f3 f4 f5 f6 f7 f8 f9;obtain⟨E,hE⟩: ∃E:ByteArray,(⟨#[]⟩:ByteArray)=E:=⟨_,rfl⟩;rw[hE]at hrp;generalize trouble t=B at*;generalize report w=rp at*;generalize BV w=ok at*;have hB':(B.length:Int)<=3:=by omega
 have hlp:=AL (G:=G) (PK:=PK) (md:=md) (o:=10000000) (live:=[7,9,10,11]) (c:=b6_0) (st6 w B) B.length (fun j hj=>by
  obtain⟨y,hy⟩:=AE hj;obtain⟨_,hy'⟩:=Ba hy;have hinc:=A2 hj (by omega);simp (config:={maxSteps:=10000000}) [b6_0,md,hj,hy,hy',hinc,AF]) (by simp[b6_0])
 have hend:An (AH G PK md) (Ag G PK md) md b6_0 (st6 w B B.length)=some (.exit 0,{st6 w B B.length with tm:=(st6 w B B.length).tm++[(69,.sc (.bool false))]}):=by simp[b6_0,md]
 rw[hend]at hlp;rcases ev_DrawLinkText (PK:=PK) x hb with ⟨p,q,hp,hq,e3⟩|⟨p,hp,e3⟩
 ·have g1:=ev_impl_LinkText (PK:=PK) p q hp hq;have g2:=ev_spec_LinkText (PK:=PK) p q hp hq;simp only[AJ,lent,AD,AX,fN]at e3 g1 g2;generalize linkText p q=lt at*;simp (config:={maxSteps:=10000000}) [p6,md,e0,e1,e2,e3,e4,e5,f1,f2,f3,f4,f5,f6,f7,f8,g1,g2,AF];rw[hlp]
  ·cases ok
   ·have h1:rp=E:=of_decide_eq_true hrp;simp (config:={maxSteps:=10000000}) [f5,f9,hB',hE,h1,AF]
   ·have h1: ¬rp=E:=of_decide_eq_false hrp;have h2: ¬rp.toList=E.toList:=fun h=>h1 (ba_ext (by rw[←ByteArray.toList_eq,←ByteArray.toList_eq];exact h))
    have h3:(rp.toList==E.toList)=false:=beq_eq_false_iff_ne.2 h2;simp (config:={maxSteps:=10000000}) [f5,f9,hB',hE,h1,h2,h3,AF]
  ·simp
  ·simp
 ·have g1:=ev_impl_LinkText (PK:=PK) p p hp hp;have g2:=ev_spec_LinkText (PK:=PK) p p hp hp;unfold shNode at e3;simp only[AJ,lent,AD,AX,fN]at e3 g1 g2;generalize linkText p p=lt at*;simp (config:={maxSteps:=10000000}) [p6,md,e0,e1,e2,e3,e4,e5,f1,f2,f3,f4,f5,f6,f7,f8,g1,g2,AF];rw[hlp]
  ·cases ok
   ·have h1:rp=E:=of_decide_eq_true hrp;simp (config:={maxSteps:=10000000}) [f5,f9,hB',hE,h1,AF]
   ·have h1: ¬rp=E:=of_decide_eq_false hrp;have h2: ¬rp.toList=E.toList:=fun h=>h1 (ba_ext (by rw[←ByteArray.toList_eq,←ByteArray.toList_eq];exact h))
    have h3:(rp.toList==E.toList)=false:=beq_eq_false_iff_ne.2 h2;simp (config:={maxSteps:=10000000}) [f5,f9,hB',hE,h1,h2,h3,AF]
  ·simp
  ·simp
end Go.Proofs.YtbolhfegdocpeaaGreat.Ow
