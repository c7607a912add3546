/- Functions evaluated on the small machine: Messages packed and unpacked: what the reference makes, Worlds copied, wires read, what is safe: what the reference makes, Wires read, what is safe: what the reference makes, What is told safe: what the reference makes of a world. -/
import Derived.Test.YtbolhfegdocpeaaGreatEv14
import Derived.Test.YtbolhfegdocpeaaGreatEv13
import Derived.Test.YtbolhfegdocpeaaGreatEv8
namespace Go.Proofs.YtbolhfegdocpeaaGreat.Ow
open Go
set_option linter.unusedVariables false
set_option linter.unusedSimpArgs false
set_option maxHeartbeats 8000000
variable {PK:Nat->List Arg->Option Res}
def packF (l:List MsgD):List Int:=(l.map msgBytes).flatten
def pack (l:List MsgD):List Int:=squeeze (packF l)
theorem packF_take {l:List MsgD} {j:Nat} {x:MsgD} (h:l[j]? =some x):packF (l.take (j+1))=packF (l.take j)++msgBytes x:=by
 unfold packF
 rw[List.take_add_one,h]
 simp
theorem packF_len: ∀l:List MsgD,(packF l).length<=94*l.length
 |[]=>by simp[packF]
 |m::l=>by
  have h1:=packF_len l
  have h2:=msgBytes_len m
  have h3:packF (m::l)=msgBytes m++packF l:=by simp[packF]
  rw[h3,List.length_append,List.length_cons]
  omega
theorem packF_by: ∀l:List MsgD,by8 (packF l)
 |[]=>fun x hx=>by cases hx
 |m::l=>by
  have h3:packF (m::l)=msgBytes m++packF l:=by simp[packF]
  rw[h3]
  exact by8_app (msgBytes_by m) (packF_by l)
@[simp] def st225 (l:List MsgD) (out:List Int) (j:Nat):St:={n:=21,m:=0,tm:=[(0,.im 5 (enc fMs l)),(3,.ref 10000000 []),(4,.sc (.int .i64 j))],ob:=[(10000000,.arr 1 (enc fU out))]}
theorem ev_spec_Pack (l:List MsgD) (hl:l.length<=10000) (hg: ∀m∈l,m.gens.length<=1048576):semK G PK md 225 [.v (.im 5 (enc fMs l))]=some ⟨[.v (.own 1 (enc fU (pack l)))],[],[]⟩:=by
 refine semK_of (pf:=p225) rfl (by simp[p225]) ?_
 have hs:=loop_ok (G:=G) (PK:=PK) (md:=md) (o:=10000000) (live:=[0,3,4]) (c:=b225_0) (fun j=>st225 l (packF (l.take j)) j) l.length (fun j hj=>by
  obtain⟨x,hx⟩:=getElem?_of_lt hj
  obtain⟨_,hx'⟩:=at_of hx
  have hinc:=incr hj (by omega)
  have e:=ev_spec_MsgBytes (PK:=PK) x (hg x (List.mem_of_getElem? hx))
  simp only[lents,lent,fMs]at e
  have hlen:=packF_len (l.take j)
  have ht:(l.take j).length<=10000:=by rw[List.length_take];omega
  have h2:=msgBytes_len x
  simp only[packF_take hx]
  generalize packF (l.take j)=o at hlen ⊢
  generalize msgBytes x=mb at*
  have g1:o.length+mb.length<=35184372088832:=by omega
  simp[b225_0,md,hj,hx',hinc,e,g1,enc_append]) (by simp[b225_0])
 have hf:l.take l.length=l:=List.take_length
 have hlen:=packF_len l
 have e:=ev_spec_Squeeze (PK:=PK) (packF l) ⟨by omega,packF_by l⟩
 have hz:packF []=[]:=rfl
 unfold pack
 simp[p225,md]
 rw[hs]
 ·simp[b225_0,hf,e,md]
 ·simp
 ·simp[hz]
structure UnS where
 ok:Bool
 at_:Nat
 out:List MsgD
def unF (flat:List Int) (s:UnS):UnS:=match msgOf flat s.at_ with
 |some (m,n)=>⟨true,n,s.out++[m]⟩
 |none=>⟨false,0,s.out++[zMs]⟩
def unR (b:List Int):UnS:=wh (fun s=>s.ok&&decide (s.at_<((spread b).getD []).length)) (unF ((spread b).getD [])) (((spread b).getD []).length+1) ⟨(spread b).isSome,0,[]⟩
def unpack (b:List Int):Option (List MsgD):=if(unR b).ok&&decide (pack (unR b).out=b)then some (unR b).out else none
theorem spread_bd {b:List Int} {r:List Int} (h:spread b=some r):r.length<=3000:=by
 unfold spread at h
 split at h
 ·split at h
  ·cases h
  ·cases h;omega
 ·cases h
theorem rep_by {out:List Int} (h:by8 out) (e:Nat): ∀j,by8 (rep out e j)
 |0=>h
 |j+1=>by
  have ih:=rep_by h e j
  refine by8_app ih fun x hx=> ?_
  rw[List.mem_singleton.1 hx]
  generalize rep out e j=o at ih ⊢
  rw[List.getD_eq_getElem?_getD]
  rcases Nat.lt_or_ge (o.length - e) o.length with h1|h1
  ·rw[List.getElem?_eq_getElem h1];exact ih _ (List.getElem_mem h1)
  ·rw[List.getElem?_eq_none h1];exact⟨by decide,by decide⟩
theorem getD_by {b:List Int} (hb:by8 b) (i:Nat):0<=b.getD i 0/\b.getD i 0<256:=by
 rw[List.getD_eq_getElem?_getD]
 rcases Nat.lt_or_ge i b.length with h|h
 ·rw[List.getElem?_eq_getElem h];exact hb _ (List.getElem_mem h)
 ·rw[List.getElem?_eq_none h];exact⟨by decide,by decide⟩
theorem spF_by {b:List Int} (hb:by8 b) {s s':Nat×List Int} (hs:by8 s.2) (h:spF b s=some s'):by8 s'.2:=by
 have h1:=getD_by hb s.1
 have h2:=getD_by hb (s.1+1)
 have one: ∀x:Int,0<=x/\x<256->by8 [x]:=fun x hx y hy=>by rw[List.mem_singleton.1 hy];exact hx
 unfold spF at h
 split at h
 ·cases h;exact by8_app hs (one _ h1)
 ·split at h
  ·cases h
  ·split at h
   ·split at h
    ·cases h
    ·cases h;exact by8_app hs (one _ h2)
   ·split at h
    ·split at h
     ·cases h
     ·cases h;exact rep_by hs _ _
    ·cases h
theorem wo_by {b:List Int} (hb:by8 b) (g:Nat×List Int->Bool): ∀ (n:Nat) (s r:Nat×List Int),by8 s.2->wo g (spF b) n s=some r->by8 r.2
 |0,s,r,hs,h=>by simp only[wo,Option.some.injEq]at h;rw[←h];exact hs
 |n+1,s,r,hs,h=>by
  simp only[wo]at h
  split at h
  ·split at h
   ·rename_i s' hs'
    exact wo_by hb g n s' r (spF_by hb hs hs') h
   ·cases h
  ·cases h;exact hs
theorem spread_by {b r:List Int} (hb:by8 b) (h:spread b=some r):by8 r:=by
 unfold spread at h
 split at h
 ·rename_i q hq
  split at h
  ·cases h
  ·cases h
   exact wo_by hb _ _ _ _ (fun x hx=>by cases hx) hq
 ·cases h
theorem msgOf_bd {b:List Int} {a:Nat} {m:MsgD} {n:Nat} (ha:a<=b.length) (h:msgOf b a=some (m,n)):a<n/\n<=b.length/\msgOk m=true/\m.gens.length<=12:=by
 unfold msgOf at h
 split at h
 ·rename_i hc
  simp only[Option.some.injEq,Prod.mk.injEq]at h
  obtain⟨h1,h2⟩:=h
  simp only[Bool.and_eq_true]at hc
  have h3:=hc.2
  rw[h1]at h2 h3
  unfold msgIs at h3
  simp only[Bool.and_eq_true,decide_eq_true_iff]at h3
  have hm:msgOk m=true:=by
   cases hk:msgOk m
   ·have:msgBytes m=[]:=by unfold msgBytes;rw[hk];rfl
    rw[this]at h3
    simp at h3
   ·rfl
  exact⟨by omega,by omega,hm,msgOk_gens hm⟩
 ·cases h
@[simp] def st222 (b flat:List Int) (s:UnS):St:={n:=49,m:=0,tm:=[(0,.im 1 (enc fU b)),(4,.ref 10000000 []),(5,.ref 10000001 []),(6,.sc (.bool s.ok)),(7,.sc (.int .i64 s.at_))],ob:=[(10000000,.arr 5 (enc fMs s.out)),(10000001,.arr 1 (enc fU flat))]}
def unI (flat:List Int) (s:UnS):Prop:=s.at_<=flat.length/\s.out.length<=(if s.ok then s.at_ else flat.length+1)/\ ∀m∈s.out,m.gens.length<=12
theorem ev_spec_Unpack (b:List Int) (hb:byt b):semK G PK md 222 [.v (.im 1 (enc fU b))]=some ⟨[.v (.own 5 (enc fMs ((unpack b).getD []))),.v (.sc (.bool (unpack b).isSome))],[],[]⟩:=by
 refine semK_of (pf:=p222) rfl (by simp[p222]) ?_
 have e1:=ev_spec_Spread (PK:=PK) b hb
 have hfl:((spread b).getD []).length<=3000:=by
  cases h:spread b with
  |none=>simp
  |some r=>exact spread_bd h
 have hfb:by8 ((spread b).getD []):=by
  cases h:spread b with
  |none=>intro x hx;cases hx
  |some r=>exact spread_by hb.2 h
 unfold unpack unR
 generalize (spread b).getD []=flat at*
 generalize (spread b).isSome=ok0 at*
 obtain⟨⟨hinv,hg⟩,hs⟩:=loop_wh (G:=G) (PK:=PK) (md:=md) (o:=10000000) (live:=[0,4,5,6,7]) (c:=b222_0) (st222 b flat) (fun s=>s.ok&&decide (s.at_<flat.length)) (unF flat) (unI flat) (fun s=>if s.ok then flat.length - s.at_+1 else 0) (fun s hi hg=>by
   obtain⟨ok,a,out⟩:=s
   simp only[Bool.and_eq_true,decide_eq_true_iff]at hg
   obtain⟨rfl,hlt⟩:=hg
   obtain⟨i1,i2,i3⟩:=hi
   simp only[if_true]at i2
   have e:=ev_spec_MsgOf (PK:=PK) flat a ⟨by omega,hfb⟩ (by simp only at i1;omega) (by omega)
   have g1:(out.length+1)*56<=35184372088832:=by omega
   unfold unF
   simp only
   cases hm:msgOf flat a with
   |none=>
    rw[hm]at e
    simp only[Option.map_none,Option.getD_none,Option.isSome_none,owneds,owned,fMs,zMs]at e
    refine⟨⟨by simp only;omega,by simp only[List.length_append,List.length_cons,List.length_nil,Bool.false_eq_true,if_false];omega,fun m hm=> ?_⟩,by simp,?_⟩
    ·rcases List.mem_append.1 hm with h|h
     ·exact i3 m h
     ·rw[List.mem_singleton.1 h];simp[zMs]
    ·simp[b222_0,md,hlt,e,g1]
     simp[enc,zMs]
   |some q=>
    obtain⟨m,n⟩:=q
    rw[hm]at e
    obtain⟨q1,q2,q3,q4⟩:=msgOf_bd (by simp only at i1;omega) hm
    simp only[Option.map_some,Option.getD_some,Option.isSome_some,owneds,owned,fMs]at e
    refine⟨⟨q2,by simp only[List.length_append,List.length_cons,List.length_nil,if_true];omega,fun m' hm'=> ?_⟩,by simp only[if_true];omega,?_⟩
    ·rcases List.mem_append.1 hm' with h|h
     ·exact i3 m' h
     ·rw[List.mem_singleton.1 h];exact q4
    ·simp[b222_0,md,hlt,e,g1]
     simp[enc]) (fun s hi hg=>by
   obtain⟨ok,a,out⟩:=s
   cases ok
   ·simp[b222_0,md]
   ·have hlt: ¬a<flat.length:=by simpa using hg
    simp[b222_0,md,hlt]) (flat.length+1) ⟨ok0,0,[]⟩ ⟨by simp,by simp,fun m hm=>by cases hm⟩ (by simp only;split<;>omega)
 generalize wh (fun s=>s.ok&&decide (s.at_<flat.length)) (unF flat) (flat.length+1) ⟨ok0,0,[]⟩=r at*
 obtain⟨ok,a,out⟩:=r
 obtain⟨i1,i2,i3⟩:=hinv
 have hol:out.length<=3001:=by simp only at i1 i2;split at i2<;>omega
 have e2:=ev_spec_Pack (PK:=PK) out (by omega) (fun m hm=>by have:=i3 m hm;omega)
 have pb:by8 (pack out):=squeeze_by _ (packF_by out)
 simp[p222,md,e1]
 rw[hs]
 ·cases ok
  ·simp[b222_0,md,Alike2]
  ·have hlt: ¬a<flat.length:=by simpa using hg
   generalize pack out=pk at*
   have hb1:=bytesOf_enc pk
   have hb2:=bytesOf_enc b
   by_cases h7:pk=b
   ·have hu:u8s pk=u8s b:=by rw[h7]
    have hs2:(u8s pk==u8s b)=true:=by rw[hu];exact beq_self_eq_true _
    have hu:=eq_true hu
    have h7':=eq_true h7
    simp[b222_0,md,hlt,e2,hb1,hb2,hs2,hu,h7',Alike2]
   ·have hu: ¬u8s pk=u8s b:=fun e=>h7 (u8s_inj pb hb.2 e)
    have hs2:(u8s pk==u8s b)=false:=by simpa using hu
    simp[b222_0,md,hlt,e2,hb1,hb2,hs2,hu,h7,Alike2]
 ·simp
 ·simp
end Go.Proofs.YtbolhfegdocpeaaGreat.Ow
namespace Go.Proofs.YtbolhfegdocpeaaGreat.Ow
open Go
set_option linter.unusedVariables false
set_option linter.unusedSimpArgs false
set_option maxHeartbeats 8000000
variable {PK:Nat->List Arg->Option Res}
@[simp] def zwb:Obj:= .box [.nil 16,.nil 3,.nil 2,.nil 1,.sc (.int .i64 0)]
@[simp] def st178_1 (w:WorldD) (j:Nat):St:=
 if j=0 then {n:=69,m:=0,tm:=[(1,.pb 10000000 0),(2,.pb 10000001 0),(3,.pb 10000002 0),(4,.sc (.int .i64 j))],ob:=[(10000000,wbox w),(10000001,zwb),(10000002,.box [.nil 16,.nil 3,.ref 10000003 [],.ref 10000004 [],.sc (.int .i64 w.gen)]),(10000003,.arr 2 (enc fR w.log)),(10000004,.arr 1 (enc fI w.safe))]}
 else {n:=69,m:=0,tm:=[(1,.pb 10000000 0),(2,.pb 10000001 0),(3,.pb 10000002 0),(4,.sc (.int .i64 j))],ob:=[(10000000,wbox w),(10000001,zwb),(10000002,.box [.ref 10000003 [],.nil 3,.ref 10000004 [],.ref 10000005 [],.sc (.int .i64 w.gen)]),(10000003,.arr 16 (enc fN (w.nodes.take j))),(10000004,.arr 2 (enc fR w.log)),(10000005,.arr 1 (enc fI w.safe))]}
@[simp] def st178_0 (w:WorldD) (j:Nat):St:=
 if j=0 then {n:=69,m:=0,tm:=[(1,.pb 10000200 0),(2,.pb 10000201 0),(3,.pb 10000202 0),(5,.sc (.int .i64 j))],ob:=[(10000200,wbox w),(10000201,zwb),(10000202,.box [.ref 10000203 [],.nil 3,.ref 10000204 [],.ref 10000205 [],.sc (.int .i64 w.gen)]),(10000203,.arr 16 (enc fN w.nodes)),(10000204,.arr 2 (enc fR w.log)),(10000205,.arr 1 (enc fI w.safe))]}
 else {n:=69,m:=0,tm:=[(1,.pb 10000200 0),(2,.pb 10000201 0),(3,.pb 10000202 0),(5,.sc (.int .i64 j))],ob:=[(10000200,wbox w),(10000201,zwb),(10000202,.box [.ref 10000203 [],.ref 10000204 [],.ref 10000205 [],.ref 10000206 [],.sc (.int .i64 w.gen)]),(10000203,.arr 16 (enc fN w.nodes)),(10000204,.arr 3 (enc fW (w.net.take j))),(10000205,.arr 2 (enc fR w.log)),(10000206,.arr 1 (enc fI w.safe))]}
theorem lp_Copy1 (w:WorldD) (hw:wS w): ∀ (s:St),s.m<=10000000->canon 10000000 [1,2,3,4] s=st178_1 w 0->semL G PK md 10000000 [1,2,3,4] b178_1 s=exec (semK G PK md) (semL G PK md) md b178_1 (st178_1 w w.nodes.length):=
 loop_ok (G:=G) (PK:=PK) (md:=md) (o:=10000000) (live:=[1,2,3,4]) (c:=b178_1) (st178_1 w) w.nodes.length (fun j hj=>by
  obtain⟨x,y1,hx,hx',_,hxm⟩:=get_ex w.nodes zN hj
  have hinc:=incr hj hw.nodes
  have hwn:=hw.nodes
  have e:=ev_l8Copy (PK:=PK) x (hw.node x hxm)
  simp only[lents,lent,fN,owneds,owned]at e
  have g5:(j+1)*248<=35184372088832:=by omega
  have hmin:min j w.nodes.length=j:=by omega
  have hen:enc fN (List.take (j+1) w.nodes)=enc fN (List.take j w.nodes)++[fN x]:=by rw[take_snoc hx];simp[enc]
  by_cases h0:j=0
  ·subst h0
   simp at hx' hinc hen
   simp (config:={maxSteps:=10000000}) [b178_1,md,hj,hx',e,hinc,Alike2]
   simpa using hen.symm
  ·simp at hen
   simp (config:={maxSteps:=10000000}) [b178_1,md,hj,hx',e,g5,hmin,hinc,h0,hen,Alike2]) (by
  by_cases h0:w.nodes.length=0
  ·simp[b178_1,h0]
  ·simp[b178_1,h0])
theorem lp_Copy0 (w:WorldD) (hw:wS w): ∀ (s:St),s.m<=10000200->canon 10000200 [1,2,3,5] s=st178_0 w 0->semL G PK md 10000200 [1,2,3,5] b178_0 s=exec (semK G PK md) (semL G PK md) md b178_0 (st178_0 w w.net.length):=
 loop_ok (G:=G) (PK:=PK) (md:=md) (o:=10000200) (live:=[1,2,3,5]) (c:=b178_0) (st178_0 w) w.net.length (fun j hj=>by
  obtain⟨x,y1,hx,hx',_,hxm⟩:=get_ex w.net zW hj
  have hinc:=incr hj hw.net
  have hwn:=hw.net
  have hxl:=(hw.wire x hxm).1
  have g3:x.bytes.length<=35184372088832:=by omega
  have g5:(j+1)*40<=35184372088832:=by omega
  have hmin:min j w.net.length=j:=by omega
  have hen:enc fW (List.take (j+1) w.net)=enc fW (List.take j w.net)++[fW x]:=by rw[take_snoc hx];simp[enc]
  by_cases h0:j=0
  ·subst h0
   simp at hx' hinc hen
   simp (config:={maxSteps:=10000000}) [b178_0,md,hj,hx',g3,hinc,Alike2]
   simpa using hen.symm
  ·simp at hen
   simp (config:={maxSteps:=10000000}) [b178_0,md,hj,hx',g3,g5,hmin,hinc,h0,hen,Alike2]) (by
  by_cases h0:w.net.length=0
  ·simp[b178_0,h0]
  ·simp[b178_0,h0])
theorem ev_l12Copy (w:WorldD) (hw:wS w) (h3:w.nodes.length≠0):semK G PK md 178 [.a (lents (fWo w))]=some ⟨[.a (owneds (fWo w))],[],[]⟩:=by
 refine semK_of (pf:=p178) rfl (by simp[p178]) ?_
 have h1:=lp_Copy1 (PK:=PK) w hw
 have h0:=lp_Copy0 (PK:=PK) w hw
 have a1:=hw.log
 have a2:=hw.safe
 have g1:w.log.length<=2199023255552:=by omega
 have g2:w.log.length*16<=35184372088832:=by omega
 have g3:w.safe.length<=4398046511104:=by omega
 have g4:w.safe.length*8<=35184372088832:=by omega
 have fl:flat (enc fR w.log)=true:=enc_flat (fun _=>rfl) _
 simp (config:={maxSteps:=10000000}) [p178,md,g1,g2,g3,g4,fl,Alike2]
 rw[h1]
 ·simp[b178_1,h3]
  rw[h0]
  ·by_cases hn:w.net.length=0
   ·have:w.net=[]:=List.eq_nil_of_length_eq_zero hn
    simp[b178_0,this]
   ·simp[b178_0,hn]
  ·simp
  ·simp
 ·simp
 ·simp
end Go.Proofs.YtbolhfegdocpeaaGreat.Ow
namespace Go.Proofs.YtbolhfegdocpeaaGreat.Ow
open Go
set_option linter.unusedVariables false
set_option linter.unusedSimpArgs false
set_option maxHeartbeats 8000000
variable {PK:Nat->List Arg->Option Res}
def far2 (a b:Int):Bool:=decide (a=2)||decide (b=2)
theorem ev_l12Far (a b:Int):semK G PK md 214 [.v (.sc (.int .i64 a)),.v (.sc (.int .i64 b))]=some ⟨[.v (.sc (.bool (far2 a b)))],[],[]⟩:=by
 refine semK_of (pf:=p214) rfl (by simp[p214]) ?_
 unfold far2
 by_cases h:a=2
 ·simp[p214,md,h]
 ·simp[p214,md,h]
  try rfl
def readW (x:WireD):Option MsgD:=
 if far2 x.src x.dst then(match unpack x.bytes with
  |some [m]=>some m
  |_=>none)
 else(match msgOf x.bytes 0 with
  |some (m,n)=>if n=x.bytes.length then some m else none
  |none=>none)
theorem ev_l12Read (x:WireD) (hb:byt x.bytes) (hb1:x.bytes.length<=1000000):semK G PK md 199 [.a (lents (fW x))]=some ⟨[.a (owneds (fMs ((readW x).getD zMs))),.v (.sc (.bool (readW x).isSome))],[],[]⟩:=by
 refine semK_of (pf:=p199) rfl (by simp[p199]) ?_
 have e1:=ev_l12Far (PK:=PK) x.src x.dst
 have e2:=ev_spec_Unpack (PK:=PK) x.bytes hb
 have e3:=ev_spec_MsgOf (PK:=PK) x.bytes 0 hb (Nat.zero_le _) hb1
 unfold readW
 cases hf:far2 x.src x.dst
 ·rw[hf]at e1
  simp only[Bool.false_eq_true,if_false]
  cases hm:msgOf x.bytes 0 with
  |none=>
   rw[hm]at e3
   simp only[Option.map_none,Option.getD_none,Option.isSome_none,owneds,owned,fMs,zMs]at e3
   simp at e3
   simp[p199,md,e1,e3,zMs]
  |some q=>
   obtain⟨m,n⟩:=q
   rw[hm]at e3
   simp only[Option.map_some,Option.getD_some,Option.isSome_some,owneds,owned,fMs]at e3
   simp at e3
   by_cases hn:n=x.bytes.length
   ·have hn':(n:Int)=x.bytes.length:=by omega
    simp[p199,md,e1,e3,eq_true hn,eq_true hn',zMs]
   ·have hn': ¬ (n:Int)=x.bytes.length:=by omega
    simp[p199,md,e1,e3,hn,hn',zMs]
 ·rw[hf]at e1
  simp only[if_true]
  cases hu:unpack x.bytes with
  |none=>
   rw[hu]at e2
   simp only[Option.getD_none,Option.isSome_none,enc_nil]at e2
   simp[p199,md,e1,e2,zMs]
  |some l=>
   rw[hu]at e2
   simp only[Option.getD_some,Option.isSome_some]at e2
   rcases l with _|⟨m,_|⟨m2,l⟩⟩
   ·simp at e2
    simp[p199,md,e1,e2,zMs]
   ·simp at e2
    simp[p199,md,e1,e2,zMs]
   ·have h1: ¬ ((l.length:Int)+1+1=1):=by omega
    simp at e2
    simp[p199,md,e1,e2,h1,zMs]
end Go.Proofs.YtbolhfegdocpeaaGreat.Ow
namespace Go.Proofs.YtbolhfegdocpeaaGreat.Ow
open Go
set_option linter.unusedVariables false
set_option linter.unusedSimpArgs false
set_option maxHeartbeats 8000000
variable {PK:Nat->List Arg->Option Res}
def sureF (s:List Int) (x:Int):List Int:=if x∈s then s else ins s x
def sure (s l:List Int):List Int:=l.foldl sureF s
theorem sureF_len (s:List Int) (x:Int):(sureF s x).length=if x∈s then s.length else s.length+1:=by
 unfold sureF
 split
 ·rfl
 ·exact ins_len s x
theorem sure_len (l:List Int): ∀s:List Int,s.length<=(sure s l).length/\(sure s l).length<=s.length+l.length:=by
 induction l with
 |nil=>intro s;simp[sure]
 |cons x l ih=>
  intro s
  have h1:=ih (sureF s x)
  have h2:=sureF_len s x
  have h3:sure s (x::l)=sure (sureF s x) l:=rfl
  rw[h3]
  simp only[List.length_cons]
  split at h2<;>omega
theorem sure_same (l:List Int): ∀s:List Int,(sure s l).length=s.length->sure s l=s:=by
 induction l with
 |nil=>intro s _;rfl
 |cons x l ih=>
  intro s h
  have h1:=sure_len l (sureF s x)
  have h2:=sureF_len s x
  have h3:sure s (x::l)=sure (sureF s x) l:=rfl
  rw[h3]at h ⊢
  by_cases hx:x∈s
  ·have h4:sureF s x=s:=by unfold sureF;rw[if_pos hx]
   rw[h4]at h ⊢
   exact ih s h
  ·rw[if_neg hx]at h2
   omega
@[simp] def obS (N:List (List T)) (w:WorldD) (s:List Int) (o:Nat):List (Nat×Obj):=
 if s.length=w.safe.length then [(0,.arr 1 (enc fI s)),(o,.box [.al 0 16 N,.al 1 3 (enc fW w.net),.al 2 2 (enc fR w.log),.ref 0 [],.sc (.int .i64 w.gen)]),(o+1,.box [.nil 16,.nil 3,.nil 2,.nil 1,.sc (.int .i64 0)])]
 else [(0,.arr 1 (enc fI w.safe)),(o,.box [.al 0 16 N,.al 1 3 (enc fW w.net),.al 2 2 (enc fR w.log),.ref (o+2) [],.sc (.int .i64 w.gen)]),(o+1,.box [.nil 16,.nil 3,.nil 2,.nil 1,.sc (.int .i64 0)]),(o+2,.arr 1 (enc fI s))]
@[simp] def st202_1 (N:List (List T)) (w:WorldD) (l s:List Int) (j:Nat):St:={n:=61,m:=1,tm:=[(1,.im 1 (enc fI l)),(2,.pb 10000000 0),(4,.pb 10000001 0),(5,.sc (.int .i64 j))],ob:=obS N w s 10000000}
@[simp] def st202_0 (N:List (List T)) (w:WorldD) (l s:List Int) (j k:Nat):St:={n:=61,m:=1,tm:=[(1,.im 1 (enc fI l)),(2,.pb 10000200 0),(4,.pb 10000201 0),(5,.sc (.int .i64 j)),(6,.sc (.int .i64 k))],ob:=obS N w s 10000200}
theorem lp_Sure0 (N:List (List T)) (w:WorldD) (l s:List Int) (j:Nat) (x:Int) (hx:l[j]? =some x) (hs:s.length<=1048576): ∃k,k<=s.length/\s.take k++[x]++s.drop k=ins s x/\ ∀ (t:St),t.m<=10000200->canon 10000200 [1,2,4,5,6] t=st202_0 N w l s j 0->semL G PK md 10000200 [1,2,4,5,6] b202_0 t=some (.exit 2,{st202_0 N w l s j k with tm:=(st202_0 N w l s j k).tm++[(37,.sc (.bool false))]}):=by
 obtain⟨_,hx'⟩:=at_of hx
 have hjl:j<l.length:=(at_of hx).1
 obtain⟨k,hk,hp,hkn⟩:=first (fun i=>s.getD i 0<x) s.length
 have hend:k<s.length-> ¬s.getD k 0<x:=fun h=>by
  rcases hkn with rfl|⟨_,h2⟩
  ·omega
  ·exact h2
 have hex:exec (semK G PK md) (semL G PK md) md b202_0 (st202_0 N w l s j k)=some (.exit 2,{st202_0 N w l s j k with tm:=(st202_0 N w l s j k).tm++[(37,.sc (.bool false))]}):=by
  by_cases hkl:k<s.length
  ·have h2:=hend hkl
   rw[List.getD_eq_getElem?_getD,List.getElem?_eq_getElem hkl]at h2
   simp only[Option.getD_some]at h2
   by_cases hm:s.length=w.safe.length
   ·simp[b202_0,md,hkl,h2,hjl,hx',eq_true hm]
   ·simp[b202_0,md,hkl,h2,hjl,hx',hm]
  ·by_cases hm:s.length=w.safe.length
   ·simp[b202_0,md,hkl,hjl,hx',eq_true hm]
   ·simp[b202_0,md,hkl,hjl,hx',hm]
 refine⟨k,hk,ins_at hk hp hkn,fun t ht hc=> ?_⟩
 rw[←hex]
 refine loop_ok (G:=G) (PK:=PK) (md:=md) (o:=10000200) (live:=[1,2,4,5,6]) (c:=b202_0) (fun k=>st202_0 N w l s j k) k (fun i hi=> ?_) ⟨_,_,hex,by simp⟩ t ht hc
 have hi2:i<s.length:=by omega
 have hinc:=incr hi2 hs
 have hlt:=hp i hi
 rw[List.getD_eq_getElem?_getD,List.getElem?_eq_getElem hi2]at hlt
 simp only[Option.getD_some]at hlt
 by_cases hm:s.length=w.safe.length
 ·simp[b202_0,md,hi2,hinc,hlt,hjl,hx',eq_true hm]
 ·simp[b202_0,md,hi2,hinc,hlt,hjl,hx',hm]
theorem lp_Sure1 (N:List (List T)) (w:WorldD) (l:List Int) (hl:l.length<=1000) (hs:w.safe.length<=1000000): ∀ (t:St),t.m<=10000000->canon 10000000 [1,2,4,5] t=st202_1 N w l w.safe 0->semL G PK md 10000000 [1,2,4,5] b202_1 t=exec (semK G PK md) (semL G PK md) md b202_1 (st202_1 N w l (sure w.safe l) l.length):=by
 have hf:l.take l.length=l:=List.take_length
 have h:=loop_ok (G:=G) (PK:=PK) (md:=md) (o:=10000000) (live:=[1,2,4,5]) (c:=b202_1) (fun j=>st202_1 N w l (sure w.safe (l.take j)) j) l.length (fun j hj=>by
  obtain⟨x,hx⟩:=getElem?_of_lt hj
  obtain⟨_,hx'⟩:=at_of hx
  have hinc:=incr hj (by omega)
  have hbd:=sure_len (l.take j) w.safe
  have htl:(l.take j).length<=l.length:=by rw[List.length_take];omega
  have hnx:sure w.safe (l.take (j+1))=sureF (sure w.safe (l.take j)) x:=foldl_take sureF w.safe l hx
  have hsame:=sure_same (l.take j) w.safe
  simp only[hnx]
  generalize sure w.safe (l.take j)=s at hbd hsame ⊢
  have e:=ev_l2Has (PK:=PK) s x (by omega)
  have hfl:=sureF_len s x
  by_cases hm:x∈s
  ·have h4:sureF s x=s:=by unfold sureF;rw[if_pos hm]
   rw[h4]
   by_cases hsl:s.length=w.safe.length
   ·simp[b202_1,md,hj,hx',e,hm,hinc,eq_true hsl]
   ·simp[b202_1,md,hj,hx',e,hm,hinc,hsl]
  ·have h4:sureF s x=ins s x:=by unfold sureF;rw[if_neg hm]
   rw[if_neg hm,h4]at hfl
   rw[h4]
   obtain⟨k,hk,hins,hlp⟩:=lp_Sure0 (PK:=PK) N w l s j x hx (by omega)
   have hne: ¬ (ins s x).length=w.safe.length:=by omega
   have g3:k<=4398046511104:=by omega
   have g4:k*8<=35184372088832:=by omega
   have g5:(k+1)*8<=35184372088832:=by omega
   have g6:(k+1+(s.length - k))*8<=35184372088832:=by omega
   have hft:flat (List.take k (enc fI s))=true:=flat_take (flat_I _)
   have hfd:flat (List.drop k (enc fI s))=true:=flat_drop (flat_I _)
   have hta:List.take s.length (enc fI s)=enc fI s:=List.take_of_length_le (by rw[enc_len];omega)
   have hen:enc fI (ins s x)=List.take k (enc fI s)++[T.sc (.int .i64 x)]::List.drop k (enc fI s):=by rw[←hins];simp[enc,List.map_take,List.map_drop]
   by_cases hsl:s.length=w.safe.length
   ·simp[b202_1,md,hj,hx',e,hm,eq_true hsl]
    rw[hlp]
    ·simp[hj,hx',hk,g3,g4,g5,g6,hft,hfd,hta,hinc,hne,hen,eq_true hsl]
     rw[hsame hsl]
    ·simp
    ·simp[eq_true hsl]
   ·simp[b202_1,md,hj,hx',e,hm,hsl]
    rw[hlp]
    ·simp[hj,hx',hk,g3,g4,g5,g6,hft,hfd,hta,hinc,hne,hen,hsl]
    ·simp
    ·simp[hsl]) (by
  generalize sure w.safe (l.take l.length)=s
  by_cases hsl:s.length=w.safe.length
  ·simp[b202_1,eq_true hsl]
  ·simp[b202_1,hsl])
 simp only[hf]at h
 exact h
def sureW (w:WorldD) (l:List Int):WorldD:={w with safe:=sure w.safe l}
theorem ev_l12SureG (N:List (List T)) (w:WorldD) (l:List Int) (hl:l.length<=1000) (hs:w.safe.length<=1000000): ∃fin,(fin=[none]/\(sure w.safe l).length=w.safe.length\/fin=[some (enc fI w.safe)]/\(sure w.safe l).length≠w.safe.length)/\semK G PK md 202 [.a [.al 0 16 N,.al 1 3 (enc fW w.net),.al 2 2 (enc fR w.log),.own 1 (enc fI w.safe),.sc (.int .i64 w.gen)],.v (.im 1 (enc fI l))]=some ⟨[.a [.al 0 16 N,.al 1 3 (enc fW w.net),.al 2 2 (enc fR w.log),.own 1 (enc fI (sure w.safe l)),.sc (.int .i64 w.gen)]],fin,[]⟩:=by
 have h1:=lp_Sure1 (PK:=PK) N w l hl hs
 by_cases hsl:(sure w.safe l).length=w.safe.length
 ·refine⟨[none],.inl ⟨rfl,hsl⟩,semK_of (pf:=p202) rfl (by simp[p202]) ?_⟩
  have hse:=sure_same l w.safe hsl
  rw[hse]at h1 ⊢
  simp[p202,md]
  rw[h1]
  ·simp[b202_1]
  ·simp
  ·simp
 ·refine⟨[some (enc fI w.safe)],.inr ⟨rfl,hsl⟩,semK_of (pf:=p202) rfl (by simp[p202]) ?_⟩
  simp[p202,md]
  rw[h1]
  ·simp[b202_1,hsl]
  ·simp
  ·simp
theorem ev_l12Sure (w:WorldD) (l:List Int) (hl:l.length<=1000) (hs:w.safe.length<=1000000): ∃fin,(fin=[none]\/fin=[some (enc fI w.safe)])/\semK G PK md 202 [.a [.al 0 16 (enc fN w.nodes),.al 1 3 (enc fW w.net),.al 2 2 (enc fR w.log),.own 1 (enc fI w.safe),.sc (.int .i64 w.gen)],.v (.im 1 (enc fI l))]=some ⟨[.a [.al 0 16 (enc fN w.nodes),.al 1 3 (enc fW w.net),.al 2 2 (enc fR w.log),.own 1 (enc fI (sure w.safe l)),.sc (.int .i64 w.gen)]],fin,[]⟩:=
 (ev_l12SureG (enc fN w.nodes) w l hl hs).imp fun _ h=>⟨h.1.imp And.left And.left,h.2⟩
end Go.Proofs.YtbolhfegdocpeaaGreat.Ow
