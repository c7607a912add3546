/- FnMoments: evaluated. -/
import Derived.Test.YtbolhfegdocpeaaGreatEvMoments2
import Derived.Test.YtbolhfegdocpeaaGreatEvMoments1
namespace Go.Proofs.YtbolhfegdocpeaaGreat.Ow
open Go
set_option linter.unusedVariables false
set_option linter.unusedSimpArgs false
set_option maxHeartbeats 16000000
variable {PK:Nat->List Arg->Option Res}
@[simp] def st16 (l:List Int) (j:Nat):St:={n:=26,m:=0,tm:=[(0,.im 1 (enc fI l)),(1,.im 1 (enc fI l)),(5,.sc (.int .i64 j))],ob:=[]}
theorem ev_sameInts (l:List Int) (hl:l.length<=1048576):semK G PK md 16 [.v (.im 1 (enc fI l)),.v (.im 1 (enc fI l))]=some ⟨[.v (.sc (.bool true))],[],[]⟩:=by
 refine semK_of (pf:=p16) rfl (by simp[p16]) ?_
 have hsz:=loop_ok (G:=G) (PK:=PK) (md:=md) (o:=10000000) (live:=[0,1,5]) (c:=b16_0) (st16 l) l.length (fun j hj=>by
  obtain⟨x,hx⟩:=getElem?_of_lt hj
  obtain⟨_,hx'⟩:=at_of hx
  have hinc:=incr hj hl
  simp[b16_0,md,hj,hx,hx',hinc]) (by simp[b16_0])
 simp[p16,md]
 rw[hsz]
 ·simp[b16_0]
 ·simp
 ·simp
theorem ev_big (x:List Int) (h:x.length<=9223372036854775807):semK G PK md 7 [.v (.im 1 (enc fU x))]=some ⟨[.v (.sc (.bool (decide (1048576<x.length))))],[],[]⟩:=by
 refine semK_of (pf:=p7) rfl (by simp[p7]) ?_
 have e:decide ((1048576:Int)<x.length)=decide (1048576<x.length):=by
  by_cases h:1048576<x.length
  ·rw[decide_eq_true h,decide_eq_true (by omega)]
  ·rw[decide_eq_false h,decide_eq_false (by omega)]
 simp[p7,md,e]
theorem okU_byt {x:List Int} (h:okU x) (hl:x.length<=1048576):byt x:=⟨hl,fun n hn=>by
 have:=h.2 n hn
 simp[Lit.wf,IntKind.min,IntKind.max,IntKind.bits,IntKind.signed]at this
 omega⟩
theorem snapOk_at {w:WorldD} {n:Int} (h:(snapAt w n).2=true):snapOk w (snapAt w n).1=true:=by
 have hl:(snapAt w n).1.last=n:=by
  unfold snapAt at h ⊢
  split at h
  ·rename_i hc;rw[if_pos hc]
  ·cases h
 unfold snapOk
 rw[hl,h]
 simp
theorem ev_law (hC: ∀l:List Int,l.length<=1048576->semK G PK md 135 [.v (.im 1 (enc fI l))]=some ⟨[.v (.own 1 (enc fI l))],[],[]⟩) (x:List Int) (hx:okU x):semK G PK md 3 [.v (.im 1 (enc fU x))]=some ⟨[.v (.sc (.bool true))],[],[]⟩:=by
 refine semK_of (pf:=p3) rfl (by simp[p3]) ?_
 have e0:=ev_big (PK:=PK) x hx.1
 by_cases hbig:1048576<x.length
 ·rw[decide_eq_true hbig]at e0
  simp[p3,md,e0]
 rw[decide_eq_false hbig]at e0
 have hb:=okU_byt hx (by omega)
 obtain⟨w,n,hw,hn,e1⟩:=ev_DrawSnapAt (PK:=PK) x hb
 have e2:=ev_impl_SnapAt (PK:=PK) hC w n hw.S.log
 have e3:=ev_spec_SnapAt (PK:=PK) w n hw.S.log
 obtain⟨x1,y1,hx1,hy1,e4⟩:=ev_DrawSnapOk (PK:=PK) x hb
 have e5:=ev_impl_SnapOk (PK:=PK) hC x1 y1 hx1.S.log
 have e6:=ev_spec_SnapOk (PK:=PK) x1 y1 hx1.S.log
 obtain⟨m,img,hm,himg,e7⟩:=ev_DrawMomentOf (PK:=PK) x hb
 have e8:=ev_impl_MomentOf (PK:=PK) hC m img hm.S (by omega)
 have e9:=ev_spec_MomentOf (PK:=PK) m img hm.S (by omega)
 obtain⟨z,hz,e10⟩:=ev_DrawSnapText (PK:=PK) x hb
 have e11:=ev_impl_SnapText (PK:=PK) z (by have:=hz.len;omega) hz.img hz.last
 have e12:=ev_spec_SnapText (PK:=PK) z (by have:=hz.len;omega) hz.img hz.last
 have e13:=ev_sameInts (PK:=PK) (snapAt w n).1.image (by have:=snapAt_len w n;omega)
 have e14:=ev_sameInts (PK:=PK) img (by omega)
 have e15:=ev_impl_SnapAt (PK:=PK) hC m (momentOf m img).1 hm.S.log
 have e16:=ev_impl_WorldOk (PK:=PK) w hw.S
 have e17:=ev_impl_MomentOf (PK:=PK) hC w (snapAt w n).1.image hw.S (by have:=snapAt_len w n;omega)
 have e18:=ev_impl_SnapOk (PK:=PK) hC w (snapAt w n).1 hw.S.log
 have h1:=mom_snap (w:=m) (m:=img)
 have h2:=mom_found (w:=w) (n:=n)
 have h3:(snapAt w n).2=true->snapOk w (snapAt w n).1=true:=fun h=>snapOk_at h
 have h4:(snapAt w n).2=false->(snapAt w n).1.last=0:=fun h=>by
  unfold snapAt at h ⊢
  split at h
  ·cases h
  ·rename_i hc;rw[if_neg hc]
 simp only[lents,lent,owneds,owned,fWo,fSn]at e1 e2 e3 e4 e5 e6 e7 e8 e9 e10 e11 e12 e15 e16 e17 e18
 generalize snapT z=tz at*
 generalize snapOk x1 y1=so at*
 generalize hmo:momentOf m img=mo at*
 obtain⟨k,is⟩:=mo
 simp only at e8 e9 e15 h1
 generalize hf:momentOf w (snapAt w n).1.image=fo at*
 obtain⟨f,found⟩:=fo
 simp only at e17 h2
 generalize snapOk w (snapAt w n).1=so2 at*
 generalize snapAt w n=sn at*
 obtain⟨⟨la,im⟩,ok⟩:=sn
 simp only at e2 e3 e13 e17 e18 h2 h3 h4
 cases is
 ·cases ok
  ·have:=h4 rfl
   subst this
   simp (config:={maxSteps:=10000000}) [p3,md,e0,e1,e2,e3,e4,e5,e6,e7,e8,e9,e10,e11,e12,e13,Alike2]
  ·cases hok:worldOk w
   ·rw[hok]at e16
    simp (config:={maxSteps:=10000000}) [p3,md,e0,e1,e2,e3,e4,e5,e6,e7,e8,e9,e10,e11,e12,e13,e16,Alike2]
   ·rw[hok]at e16
    obtain⟨h5,h6⟩:=h2 hok rfl
    have h7:=h3 rfl
    subst h5 h7
    simp (config:={maxSteps:=10000000}) [p3,md,e0,e1,e2,e3,e4,e5,e6,e7,e8,e9,e10,e11,e12,e13,e16,e17,e18,h6,Alike2]
 ·obtain⟨h8,h9⟩:=h1 rfl
  generalize snapAt m k=sq at*
  obtain⟨⟨la2,im2⟩,ok2⟩:=sq
  simp only at h8 h9 e15
  subst h8 h9
  cases ok
  ·have:=h4 rfl
   subst this
   simp (config:={maxSteps:=10000000}) [p3,md,e0,e1,e2,e3,e4,e5,e6,e7,e8,e9,e10,e11,e12,e13,e14,e15,Alike2]
  ·cases hok:worldOk w
   ·rw[hok]at e16
    simp (config:={maxSteps:=10000000}) [p3,md,e0,e1,e2,e3,e4,e5,e6,e7,e8,e9,e10,e11,e12,e13,e14,e15,e16,Alike2]
   ·rw[hok]at e16
    obtain⟨h5,h6⟩:=h2 hok rfl
    have h7:=h3 rfl
    subst h5 h7
    simp (config:={maxSteps:=10000000}) [p3,md,e0,e1,e2,e3,e4,e5,e6,e7,e8,e9,e10,e11,e12,e13,e14,e15,e16,e17,e18,h6,Alike2]
end Go.Proofs.YtbolhfegdocpeaaGreat.Ow
