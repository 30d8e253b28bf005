/- Lemmas of the proof. -/
import Derived.Test.YtcaicpnepfjcmaaGreatMt
import Derived.Test.YtcaicpnepfjcmaaGreatNx
import Derived.Laws.StructEq
set_option linter.all false
set_option maxHeartbeats 64000000
namespace Go.Proofs.YtcaicpnepfjcmaaGreat
open Go Go.RowKit
def a0u:= @List.take_add_one
def a1q:= @List.mem_cons
def a7s:= @Bool.true_and
abbrev AV.i(n:Int):AV:=.val (.int .i64 n)
abbrev AV.b(b:Bool):AV:=.val (.bool b)
abbrev AV.s(s:ByteArray):AV:=.val (.string s)
abbrev Lf.i(n:Int):Lf:=.val (.int .i64 n)
abbrev Lf.s(s:ByteArray):Lf:=.val (.string s)
def N5(n:Int):Prop:=97<=n/\n<=122\/65<=n/\n<=90
instance (n:Int):Decidable (N5 n):=by unfold N5;exact inferInstance
def U6(n:Int):Prop:=48<=n/\n<=57
instance (n:Int):Decidable (U6 n):=by unfold U6;exact inferInstance
def Kp(n:Int):Prop:=N5 n\/U6 n\/n=95
instance (n:Int):Decidable (Kp n):=by unfold Kp;exact inferInstance
def Fw(s:ByteArray):Nat:=(s.data.toList.takeWhile fun c=>decide (Kp c.toNat)).length
theorem Ob{α:Type}(p:α->Bool):∀(l:List α)(k:Nat)(c:α),k<=(l.takeWhile p).length->l[k]?=some c->if p c=true then k+1<=(l.takeWhile p).length else(l.takeWhile p).length=k
 |[],k,c,h,hc=>by simp at hc
 |x::l,0,c,h,hc=>by
  simp at hc
  subst hc
  by_cases hp:p x=true<;>simp[List.takeWhile,hp]
 |x::l,k+1,c,h,hc=>by
  by_cases hp:p x=true
  ·simp only[List.takeWhile,hp,a0j]at h⊢
   have:=Ob p l k c (by omega) (by simpa using hc)
   split at this<;>rename_i h2
   ·rw[if_pos h2];omega
   ·rw[if_neg h2];omega
  ·simp[List.takeWhile,hp]at h
theorem X3(s:ByteArray):Fw s<=s.size:=by
 have key:∀l:List UInt8,(l.takeWhile fun c=>decide (Kp c.toNat)).length<=l.length:=fun l=>by
  induction l with
  |nil=>exact a0n _
  |cons c l ih=>
   rw[List.takeWhile]
   split
   ·simp only[a0j];omega
   ·exact a0k _
 have:=key s.data.toList
 rw[b2n]at this
 exact this
theorem Rz{s:ByteArray}{k:Nat}(h:k<s.size):∃c,s[k]?=some c/\s.data.toList[k]?=some c:=by
 have h':k<s.data.size:=h
 refine⟨s.data[k],?_,by simp[h']⟩
 show(if hh:k<s.size then some s[k]else none)=_
 rw[dif_pos h];rfl
theorem Ke(n lo hi:Int):Fz 257 [.i n,.i lo,.i hi] (.b (decide (lo<=n/\n<=hi))):=by
 refine Fo Tryz.func257 ?_
 repeat' first|refine W ?_|refine V ?_|refine W2 ?_ ?_<;>intro hc
 all_goals exact Dd rfl rfl (by simp[*])
theorem Vh(n:Int):Fz 212 [.val (.int .u8 n)] (.b (decide (N5 n))):=by
 refine Fo Tryz.func212 ?_
 repeat' first|refine W ?_|refine V ?_|refine W2 ?_ ?_<;>intro hc
 all_goals exact Dd rfl rfl (by simp only[N5];simp[*];try omega)
theorem A9m(n:Int):Fz 274 [.val (.int .u8 n)] (.b (decide (U6 n))):=by
 refine Fo Tryz.func274 ?_
 repeat' first|refine W ?_|refine V ?_|refine W2 ?_ ?_<;>intro hc
 all_goals exact Dd rfl rfl (by simp only[U6];simp[*];try omega)
theorem Ru{s:ByteArray}{k:Nat}{c:UInt8}(hk:k<=Fw s)(hc:s.data.toList[k]?=some c):if Kp c.toNat then k+1<=Fw s else Fw s=k:=by
 have:=Ob (fun c:UInt8=>decide (Kp c.toNat)) s.data.toList k c hk hc
 simp only[decide_eq_true_eq]at this
 exact this
theorem Ad4(s:ByteArray)(hs:s.size<=9223372036854775807):Fz 213 [.s s] (.i (Fw s)):=by
 refine Fo Tryz.func213 ?_
 repeat' first|refine W ?_|refine V ?_|refine W2 ?_ ?_<;>intro hc
 refine p0c (fun k=>k<=Fw s) (fun k=>s.size-k) (fun k=>[(3,.i k),(0,.s s)]) (fun _=>[]) 0 (by omega) CV .nil ?_
 intro k hk
 have hle:=X3 s
 by_cases hlt:k<s.size
 ·have h1:(k:Int)<s.size:=by omega
  obtain⟨c,hc,hc2⟩:=Rz hlt
  have hn:=Ru hk hc2
  have hb:s[((k:Nat):Int).toNat]?=some c:=hc
  repeat' first|refine W ?_|(apply S.byteAt;(iterate 3 exact rfl);omega;exact hb)|refine Zc (Vh _) ?_|refine Zc (A9m _) ?_|refine Za ?_|refine V ?_|refine W2 ?_ ?_<;>intro hc
  all_goals first
   |exact Next.go (k+1) (by rw[if_pos (by simp[Kp, *])]at hn;exact hn) (by omega) CV .nil
   |exact Dd rfl rfl (by rw[if_neg (by simp[Kp, *])]at hn;rw[hn])
 ·have h1:¬(k:Int)<s.size:=by omega
  repeat' first|refine W ?_|refine V ?_|refine W2 ?_ ?_<;>intro hc
  exact Dd rfl rfl (by rw[show Fw s=k by omega])
def idx{α:Type}(p:α->Prop)[DecidablePred p]:List α->Int
 |[]=> -1
 |x::l=>if p x then 0 else(if idx p l= -1 then-1 else idx p l+1)
theorem D8{α:Type}(p:α->Prop)[DecidablePred p]:∀l:List α,-1<=idx p l
 |[]=>by simp[idx]
 |x::l=>by
  have:=D8 p l
  rw[idx];split
  ·omega
  ·split<;>omega
theorem Em{α:Type}{p:α->Prop}[DecidablePred p]:∀{l:List α},(∀x∈l,¬p x)->idx p l= -1
 |[],_=>rfl
 |x::l,h=>by
  rw[idx,if_neg (h x (by simp)),if_pos (Em fun y hy=>h y (by simp[hy]))]
theorem Fk{α:Type}{p:α->Prop}[DecidablePred p]:∀{l:List α}{k:Nat}{x:α},l[k]?=some x->(∀y∈l.take k,¬p y)->p x->idx p l=k
 |[],k,x,h,_,_=>by simp at h
 |y::l,0,x,h,_,hp=>by
  simp at h
  subst h
  rw[idx,if_pos hp];rfl
 |y::l,k+1,x,h,hn,hp=>by
  have ih:=Fk (l:=l) (k:=k) (x:=x) (by simpa using h) (fun z hz=>hn z (by simp[hz])) hp
  rw[idx,if_neg (hn y (by simp)),ih,if_neg (by omega)]
  omega
theorem Qv{α:Type}(p:α->Prop)[DecidablePred p]:∀l:List α,idx p l<l.length
 |[]=>by simp[idx]
 |x::l=>by
  have:=Qv p l
  rw[idx];simp only[a0j]
  split
  ·omega
  ·split<;>omega
theorem Ma{α:Type}{p:α->Prop}[DecidablePred p]:∀{l:List α},(∃x∈l,p x)->¬idx p l= -1
 |[],h=>by obtain⟨x,hx,_⟩:=h;simp at hx
 |y::l,h=>by
  have hge:=D8 p l
  rw[idx]
  by_cases hy:p y
  ·rw[if_pos hy];omega
  ·rw[if_neg hy]
   have:=Ma (p:=p) (l:=l) (by
    obtain⟨x,hx,hp⟩:=h
    rcases a1q.1 hx with rfl|hx
    ·exact absurd hp hy
    ·exact⟨x,hx,hp⟩)
   rw[if_neg this];omega
theorem Ny{α:Type}(p:α->Prop)[DecidablePred p](l:List α):decide (0<=idx p l)=decide (∃x∈l,p x):=by
 by_cases h:∃x∈l,p x
 ·have:¬idx p l= -1:=Ma h
  have:=D8 p l
  rw[decide_eq_true h,decide_eq_true (by omega)]
 ·have:=Em (p:=p) (l:=l) fun x hx hp=>h ⟨x,hx,hp⟩
  rw[decide_eq_false h,this];rfl
def p1q:AV->Bool
 | .lf _=>true
 | .rop _=>true
 |_=>false
theorem Bo{caps:List AV}{n:Nat}{f:Fn}(h:caps.all p1q=true):(AV.fn f [] caps).under n=true:=by
 simp only[AV.under,List.all_nil,a7s]
 exact a0l.2 fun x hx=>by
  have:=a0l.1 h x hx
  cases x<;>first|rfl|cases this
theorem S7{l:List (List Lf)}{caps:List AV}{f:Fn}(h:caps.all p1q=true):([AV.sl l,.fn f [] caps]:List AV).all AV.tree=true:=by
 simp only[a6r,AV.tree,List.all_nil,a7s,Bool.and_true]
 exact a0l.2 fun x hx=>by
  have:=a0l.1 h x hx
  cases x<;>first|rfl|cases this
theorem Gx{row:List Lf}{caps:List AV}(h:caps.all p1q=true):([AV.agg (row.map .lf)]++caps).all AV.tree=true:=by
 rw[a2k,a0w]
 refine⟨by rw[a6r,Aff];rfl,a0l.2 fun x hx=>?_⟩
 have:=a0l.1 h x hx
 cases x<;>first|rfl|cases this
theorem Mb{α:Type}(l:List α)(R:α->List Lf)(p:α->Prop)[DecidablePred p](g:FuncId)(caps:List AV)(hR:∀x,(R x).length=13)(hl:l.length<=9223372036854775807)(hcaps:caps.all p1q=true)(hg:∀x∈l,Fn0 Tryz.prog g (.agg ((R x).map .lf)::caps) (.b (decide (p x)))):
  Fz 88 [.sl (l.map R),.fn (.func g) [] caps] (.i (idx p l)):=by
 refine Fo Tryz.func88 ?_
 repeat' first|refine W ?_|refine V ?_|refine W2 ?_ ?_<;>intro hc
 refine p0c (fun k=>k<=l.length/\∀x∈l.take k,¬p x) (fun k=>l.length-k) (fun k=>[(8,.i k),(7,.i (l.map R).length),(0,.sl (l.map R)),(1,.fn (.func g) [] caps)]) (fun _=>[]) 0 ⟨a0k _,by simp⟩ (.cons rfl rfl (.cons rfl rfl (.cons rfl rfl (.cons rfl (Bo hcaps) .nil)))) .nil ?_
 rintro k ⟨hk,hno⟩
 have hle:=lmA l R
 by_cases hlt:k<l.length
 ·have h1:(k:Int)<((l.map R).length:Nat):=by omega
  obtain⟨x,hx⟩:∃x,l[k]?=some x:=⟨l[k],a0b hlt⟩
  have hb:(l.map R)[((k:Nat):Int).toNat]?=some (R x):=by rw[a0q,a0d,hx];rfl
  have hx2:=hg x (a0a hx)
  repeat' first|refine W ?_|refine Zd8 hb (hR x) ?_|(apply p0i;(iterate 3 exact rfl);exact hR x)|refine Zbx hx2 (Gx hcaps) ?_|refine Za ?_|refine V ?_|refine W2 ?_ ?_<;>intro hc
  all_goals first
   |exact Next.go (k+1) ⟨by omega,by rw[a0u,hx];intro y hy;rcases a0p.1 hy with hy|hy;exact hno y hy;obtain rfl:y=x:=(by simpa using hy);assumption⟩ (by omega) (.cons rfl rfl (.cons rfl rfl (.cons rfl rfl (.cons rfl (Bo hcaps) .nil)))) .nil
   |exact Dd rfl rfl (by rw[Fk hx hno (by assumption)])
 ·have h1:¬(k:Int)<((l.map R).length:Nat):=by omega
  repeat' first|refine W ?_|refine V ?_|refine W2 ?_ ?_<;>intro hc
  exact Dd rfl rfl (by rw[Em (by rw[a0g (by omega)]at hno;exact hno)])
theorem Qc{α:Type}(l:List α)(R:α->List Lf)(p:α->Prop)[DecidablePred p](g:FuncId)(caps:List AV)(hR:∀x,(R x).length=5)(hl:l.length<=9223372036854775807)(hcaps:caps.all p1q=true)(hg:∀x∈l,Fn0 Tryz.prog g (.agg ((R x).map .lf)::caps) (.b (decide (p x)))):
  Fz 227 [.sl (l.map R),.fn (.func g) [] caps] (.i (idx p l)):=by
 refine Fo Tryz.func227 ?_
 repeat' first|refine W ?_|refine V ?_|refine W2 ?_ ?_<;>intro hc
 refine p0c (fun k=>k<=l.length/\∀x∈l.take k,¬p x) (fun k=>l.length-k) (fun k=>[(8,.i k),(7,.i (l.map R).length),(0,.sl (l.map R)),(1,.fn (.func g) [] caps)]) (fun _=>[]) 0 ⟨a0k _,by simp⟩ (.cons rfl rfl (.cons rfl rfl (.cons rfl rfl (.cons rfl (Bo hcaps) .nil)))) .nil ?_
 rintro k ⟨hk,hno⟩
 have hle:=lmA l R
 by_cases hlt:k<l.length
 ·have h1:(k:Int)<((l.map R).length:Nat):=by omega
  obtain⟨x,hx⟩:∃x,l[k]?=some x:=⟨l[k],a0b hlt⟩
  have hb:(l.map R)[((k:Nat):Int).toNat]?=some (R x):=by rw[a0q,a0d,hx];rfl
  have hx2:=hg x (a0a hx)
  repeat' first|refine W ?_|refine Zd8 hb (hR x) ?_|(apply p0i;(iterate 3 exact rfl);exact hR x)|refine Zbx hx2 (Gx hcaps) ?_|refine Za ?_|refine V ?_|refine W2 ?_ ?_<;>intro hc
  all_goals first
   |exact Next.go (k+1) ⟨by omega,by rw[a0u,hx];intro y hy;rcases a0p.1 hy with hy|hy;exact hno y hy;obtain rfl:y=x:=(by simpa using hy);assumption⟩ (by omega) (.cons rfl rfl (.cons rfl rfl (.cons rfl rfl (.cons rfl (Bo hcaps) .nil)))) .nil
   |exact Dd rfl rfl (by rw[Fk hx hno (by assumption)])
 ·have h1:¬(k:Int)<((l.map R).length:Nat):=by omega
  repeat' first|refine W ?_|refine V ?_|refine W2 ?_ ?_<;>intro hc
  exact Dd rfl rfl (by rw[Em (by rw[a0g (by omega)]at hno;exact hno)])
theorem Qx{α:Type}(l:List α)(R:α->List Lf)(p:α->Prop)[DecidablePred p](g:FuncId)(caps:List AV)(hR:∀x,(R x).length=7)(hl:l.length<=9223372036854775807)(hcaps:caps.all p1q=true)(hg:∀x∈l,Fn0 Tryz.prog g (.agg ((R x).map .lf)::caps) (.b (decide (p x)))):
  Fz 143 [.sl (l.map R),.fn (.func g) [] caps] (.i (idx p l)):=by
 refine Fo Tryz.func143 ?_
 repeat' first|refine W ?_|refine V ?_|refine W2 ?_ ?_<;>intro hc
 refine p0c (fun k=>k<=l.length/\∀x∈l.take k,¬p x) (fun k=>l.length-k) (fun k=>[(8,.i k),(7,.i (l.map R).length),(0,.sl (l.map R)),(1,.fn (.func g) [] caps)]) (fun _=>[]) 0 ⟨a0k _,by simp⟩ (.cons rfl rfl (.cons rfl rfl (.cons rfl rfl (.cons rfl (Bo hcaps) .nil)))) .nil ?_
 rintro k ⟨hk,hno⟩
 have hle:=lmA l R
 by_cases hlt:k<l.length
 ·have h1:(k:Int)<((l.map R).length:Nat):=by omega
  obtain⟨x,hx⟩:∃x,l[k]?=some x:=⟨l[k],a0b hlt⟩
  have hb:(l.map R)[((k:Nat):Int).toNat]?=some (R x):=by rw[a0q,a0d,hx];rfl
  have hx2:=hg x (a0a hx)
  repeat' first|refine W ?_|refine Zd8 hb (hR x) ?_|(apply p0i;(iterate 3 exact rfl);exact hR x)|refine Zbx hx2 (Gx hcaps) ?_|refine Za ?_|refine V ?_|refine W2 ?_ ?_<;>intro hc
  all_goals first
   |exact Next.go (k+1) ⟨by omega,by rw[a0u,hx];intro y hy;rcases a0p.1 hy with hy|hy;exact hno y hy;obtain rfl:y=x:=(by simpa using hy);assumption⟩ (by omega) (.cons rfl rfl (.cons rfl rfl (.cons rfl rfl (.cons rfl (Bo hcaps) .nil)))) .nil
   |exact Dd rfl rfl (by rw[Fk hx hno (by assumption)])
 ·have h1:¬(k:Int)<((l.map R).length:Nat):=by omega
  repeat' first|refine W ?_|refine V ?_|refine W2 ?_ ?_<;>intro hc
  exact Dd rfl rfl (by rw[Em (by rw[a0g (by omega)]at hno;exact hno)])
theorem A0b{α:Type}(l:List α)(R:α->List Lf)(p:α->Prop)[DecidablePred p](g:FuncId)(caps:List AV)(hR:∀x,(R x).length=4)(hl:l.length<=9223372036854775807)(hcaps:caps.all p1q=true)(hg:∀x∈l,Fn0 Tryz.prog g (.agg ((R x).map .lf)::caps) (.b (decide (p x)))):
  Fz 277 [.sl (l.map R),.fn (.func g) [] caps] (.i (idx p l)):=by
 refine Fo Tryz.func277 ?_
 repeat' first|refine W ?_|refine V ?_|refine W2 ?_ ?_<;>intro hc
 refine p0c (fun k=>k<=l.length/\∀x∈l.take k,¬p x) (fun k=>l.length-k) (fun k=>[(8,.i k),(7,.i (l.map R).length),(0,.sl (l.map R)),(1,.fn (.func g) [] caps)]) (fun _=>[]) 0 ⟨a0k _,by simp⟩ (.cons rfl rfl (.cons rfl rfl (.cons rfl rfl (.cons rfl (Bo hcaps) .nil)))) .nil ?_
 rintro k ⟨hk,hno⟩
 have hle:=lmA l R
 by_cases hlt:k<l.length
 ·have h1:(k:Int)<((l.map R).length:Nat):=by omega
  obtain⟨x,hx⟩:∃x,l[k]?=some x:=⟨l[k],a0b hlt⟩
  have hb:(l.map R)[((k:Nat):Int).toNat]?=some (R x):=by rw[a0q,a0d,hx];rfl
  have hx2:=hg x (a0a hx)
  repeat' first|refine W ?_|refine Zd8 hb (hR x) ?_|(apply p0i;(iterate 3 exact rfl);exact hR x)|refine Zbx hx2 (Gx hcaps) ?_|refine Za ?_|refine V ?_|refine W2 ?_ ?_<;>intro hc
  all_goals first
   |exact Next.go (k+1) ⟨by omega,by rw[a0u,hx];intro y hy;rcases a0p.1 hy with hy|hy;exact hno y hy;obtain rfl:y=x:=(by simpa using hy);assumption⟩ (by omega) (.cons rfl rfl (.cons rfl rfl (.cons rfl rfl (.cons rfl (Bo hcaps) .nil)))) .nil
   |exact Dd rfl rfl (by rw[Fk hx hno (by assumption)])
 ·have h1:¬(k:Int)<((l.map R).length:Nat):=by omega
  repeat' first|refine W ?_|refine V ?_|refine W2 ?_ ?_<;>intro hc
  exact Dd rfl rfl (by rw[Em (by rw[a0g (by omega)]at hno;exact hno)])
theorem A0a{α:Type}(l:List α)(R:α->List Lf)(p:α->Prop)[DecidablePred p](g:FuncId)(caps:List AV)(hR:∀x,(R x).length=7)(hl:l.length<=9223372036854775807)(hcaps:caps.all p1q=true)(hg:∀x∈l,Fn0 Tryz.prog g (.agg ((R x).map .lf)::caps) (.b (decide (p x)))):
  Fz 280 [.sl (l.map R),.fn (.func g) [] caps] (.i (idx p l)):=by
 refine Fo Tryz.func280 ?_
 repeat' first|refine W ?_|refine V ?_|refine W2 ?_ ?_<;>intro hc
 refine p0c (fun k=>k<=l.length/\∀x∈l.take k,¬p x) (fun k=>l.length-k) (fun k=>[(8,.i k),(7,.i (l.map R).length),(0,.sl (l.map R)),(1,.fn (.func g) [] caps)]) (fun _=>[]) 0 ⟨a0k _,by simp⟩ (.cons rfl rfl (.cons rfl rfl (.cons rfl rfl (.cons rfl (Bo hcaps) .nil)))) .nil ?_
 rintro k ⟨hk,hno⟩
 have hle:=lmA l R
 by_cases hlt:k<l.length
 ·have h1:(k:Int)<((l.map R).length:Nat):=by omega
  obtain⟨x,hx⟩:∃x,l[k]?=some x:=⟨l[k],a0b hlt⟩
  have hb:(l.map R)[((k:Nat):Int).toNat]?=some (R x):=by rw[a0q,a0d,hx];rfl
  have hx2:=hg x (a0a hx)
  repeat' first|refine W ?_|refine Zd8 hb (hR x) ?_|(apply p0i;(iterate 3 exact rfl);exact hR x)|refine Zbx hx2 (Gx hcaps) ?_|refine Za ?_|refine V ?_|refine W2 ?_ ?_<;>intro hc
  all_goals first
   |exact Next.go (k+1) ⟨by omega,by rw[a0u,hx];intro y hy;rcases a0p.1 hy with hy|hy;exact hno y hy;obtain rfl:y=x:=(by simpa using hy);assumption⟩ (by omega) (.cons rfl rfl (.cons rfl rfl (.cons rfl rfl (.cons rfl (Bo hcaps) .nil)))) .nil
   |exact Dd rfl rfl (by rw[Fk hx hno (by assumption)])
 ·have h1:¬(k:Int)<((l.map R).length:Nat):=by omega
  repeat' first|refine W ?_|refine V ?_|refine W2 ?_ ?_<;>intro hc
  exact Dd rfl rfl (by rw[Em (by rw[a0g (by omega)]at hno;exact hno)])
theorem U4{α:Type}(l:List α)(R:α->List Lf)(p:α->Prop)[DecidablePred p](g:FuncId)(caps:List AV)(hR:∀x,(R x).length=5)(hl:l.length<=9223372036854775807)(hcaps:caps.all p1q=true)(hg:∀x∈l,Fn0 Tryz.prog g (.agg ((R x).map .lf)::caps) (.b (decide (p x)))):
  Fz 291 [.sl (l.map R),.fn (.func g) [] caps] (.b (decide (∃x∈l,p x))):=by
 refine Fo Tryz.func291 ?_
 repeat' first|refine W ?_|(apply S.call;exact rfl;exact S7 hcaps;exact Qc l R p g caps hR hl hcaps hg;exact rfl)|refine V ?_|refine W2 ?_ ?_<;>intro hc
 all_goals exact Dd rfl rfl (by rw[Ny p l])
theorem U5{α:Type}(l:List α)(R:α->List Lf)(p:α->Prop)[DecidablePred p](g:FuncId)(caps:List AV)(hR:∀x,(R x).length=4)(hl:l.length<=9223372036854775807)(hcaps:caps.all p1q=true)(hg:∀x∈l,Fn0 Tryz.prog g (.agg ((R x).map .lf)::caps) (.b (decide (p x)))):
  Fz 225 [.sl (l.map R),.fn (.func g) [] caps] (.b (decide (∃x∈l,p x))):=by
 refine Fo Tryz.func225 ?_
 repeat' first|refine W ?_|(apply S.call;exact rfl;exact S7 hcaps;exact A0b l R p g caps hR hl hcaps hg;exact rfl)|refine V ?_|refine W2 ?_ ?_<;>intro hc
 all_goals exact Dd rfl rfl (by rw[Ny p l])
theorem U3{α:Type}(l:List α)(R:α->List Lf)(p:α->Prop)[DecidablePred p](g:FuncId)(caps:List AV)(hR:∀x,(R x).length=7)(hl:l.length<=9223372036854775807)(hcaps:caps.all p1q=true)(hg:∀x∈l,Fn0 Tryz.prog g (.agg ((R x).map .lf)::caps) (.b (decide (p x)))):
  Fz 238 [.sl (l.map R),.fn (.func g) [] caps] (.b (decide (∃x∈l,p x))):=by
 refine Fo Tryz.func238 ?_
 repeat' first|refine W ?_|(apply S.call;exact rfl;exact S7 hcaps;exact A0a l R p g caps hR hl hcaps hg;exact rfl)|refine V ?_|refine W2 ?_ ?_<;>intro hc
 all_goals exact Dd rfl rfl (by rw[Ny p l])
section
variable {P:Program}{N:Nat}{ops:Array Oper}{m:Option Nat}{K:Tm->AH->Prop}{tm tm':Tm}{H:AH}{rest:List Oper}{ty:TypeId}{pos:String}{af:Array Edge}{d:Nat}{t e:TypeId}{x y z:Operand}
structure FnOwnT(P:Program)(f:FuncId)(args:List AV)(rows:List (List Lf))(n:Nat)(u:Value):Prop where
 ent:Enters P f
 run:∀(L:Nat->Prop)(w:World)(vs:List Value),Glob w->(∀k,L k->k<w.heap.size)->args.length=vs.length->(∀(i:Nat)(x:AV)(v:Value),args[i]?=some x->vs[i]?=some v->RelV w L Ba x v)->
  Calls P f vs.toArray w fun e w'=>∃v,e=.returned (.tuple #[v,u])/\Below w.heap.size w w'/\
   ∃k o c el lo hi cap,v=.slice (some ⟨k,o,none⟩) rows.length cap/\w.heap.size<=k/\w'.heap[k]?=some (.cells c el (lo,hi))/\hi<=lo/\rows.length<=cap/\o+cap*n<=c.size/\∀(j:Nat)(x:Lf),rows.flatten[j]?=some x->∃u,c[o+j]?=some u/\RelL w' (fun i=>L i\/i=k) x u
def V5(P:Program)(fn:Func)(rows:List (List Lf))(n:Nat)(u:Value)(e:Exit)(st:St):Prop:=(e=.normal\/e=.ret)/\
 ∃b,ResL P st fn.results.toList [.own b 0 rows.length n,.val u]/\st.H.at b=.live (rows.flatten.map .lf)
theorem FnOwnT.of{f:FuncId}{fn:Func}{c:Code}{args:List AV}{rows:List (List Lf)}{n:Nat}{u:Value}{N:Nat}(hf:P.funcs[f]?=some fn)(hnt:fn.ntmps=N)(hb:fn.body=some c)(hn:(fn.name== "runtime.NumGoroutine")=false)(hN:Nat.ble args.length N=true)
  (h:T P N c ⟨Ak 0 args,[]⟩ (V5 P fn rows n u)):FnOwnT P f args rows n u:=by
 subst hnt
 refine⟨⟨fn,hf,hn,by rw[hb];rfl⟩,fun L w vs hG hL hl hv=>?_⟩
 have hN':=a0c hN
 refine calls_of_wp hf hb ?_
 let E:Env:={N:=fn.ntmps,L:=L,O:=fun _=>False,w0:=w,good:=fun w' hf=>hG.below (Fr.below hf)}
 have hsz:(vs.toArray++Array.replicate (fn.ntmps-vs.toArray.size) undef).size=fn.ntmps:=by simp;omega
 have hst:RelSt E ⟨Ak 0 args,[]⟩ {tmps:=vs.toArray++Array.replicate (fn.ntmps-vs.toArray.size) undef,defers:=[]} w Ba:=by
  refine⟨hsz,rfl,fun t x hx=>?_,⟨fun b _=>rfl,(fun b h=>by simp[AH.at]at h),(fun b cs h=>by simp[AH.at]at h),(fun b cs h=>by simp[AH.at]at h),(fun b b' k o o' h=>by cases h),ExtOk.nil _ _ _⟩,Fr.refl _ _,(fun b k o h=>by cases h),hL⟩
  obtain⟨_,hx⟩:=Is _ _ _ _ hx
  rw[a6e]at hx
  have ht:t<args.length:=(a0f.1 hx).1
  refine⟨by show t<fn.ntmps;omega,?_⟩
  have hu:vs[t]?=some (vs[t]'(by omega)):=a0b _
  have:(vs.toArray++Array.replicate (fn.ntmps-vs.toArray.size) undef).getD t undef=vs[t]'(by omega):=by
   rw[a0r,a1r (by simp;omega)]
   simp[hu]
  show RelV w L Ba x ((vs.toArray++Array.replicate (fn.ntmps-vs.toArray.size) undef).getD t undef)
  rw[this]
  exact hv t x _ hx hu
 refine wp_mono (h.out E _ w Ba rfl hst) ?_
 rintro e a' w' ⟨st',ρ',⟨he,b,hx,hlive⟩,hr'⟩
 have hb':Below w.heap.size w w':=Fr.below hr'.fr
 have fin:∃v,(results fn a'.tmps).run P w'=.ok (.tuple #[v,u]) w'/\
   ∃k o c el lo hi cap,v=.slice (some ⟨k,o,none⟩) rows.length cap/\w.heap.size<=k/\w'.heap[k]?=some (.cells c el (lo,hi))/\hi<=lo/\rows.length<=cap/\o+cap*n<=c.size/\∀(j:Nat)(x:Lf),rows.flatten[j]?=some x->∃u,c[o+j]?=some u/\RelL w' (fun i=>L i\/i=k) x u:=by
  obtain⟨us,h1,h2,h3⟩:=hx.run hr'
  have hres:=Ht (fn:=fn) h1
  match us,h2,h3,hres with
  |[v,u'],_,h3,hres=>
   have hu:u'=u:=(h3 1 _ u' rfl rfl).val_eq
   subst hu
   have h2:=h3 0 _ v rfl rfl
   obtain⟨k,o,c,el,lo,hi,g1,g2,g3,g4,g5,g6⟩:=hr'.H.live b _ hlive
   obtain⟨cap,e2,n2,hveq,hc,hsh,hfit⟩:=h2.own_out k o g1
   have hk:w.heap.size<=k:=by
    rcases hr'.mineO g1 with h|h
    ·exact h.elim
    ·exact h
   have hn2:n2=c.size:=by
    rw[Dh g2]at hsh
    simp only[a0h,a1p]at hsh
    exact hsh.2.symm
   rw[a3b]at hveq hfit
   refine⟨v,hres,k,o,c,el,lo,hi,cap,hveq,hk,g2,g3,hc,by rw[<-hn2];exact hfit,fun j x hj=>?_⟩
   obtain⟨v,q1,q2⟩:=g6 j (.lf x) (by rw[a0d,hj];rfl)
   refine⟨v,q1,q2.lf_out.less fun i hi=>?_⟩
   rcases hi with hi|hi
   ·exact .inl hi
   ·exact .inr ⟨b,o,hi▸g1⟩
 obtain⟨v,h1,h2⟩:=fin
 rcases he with rfl|rfl
 ·exact⟨hr'.defers,_,h1,v,rfl,hb',h2⟩
 ·exact⟨hr'.defers,_,h1,v,rfl,hb',h2⟩
theorem p2p(b:Nat){n:Nat}{f:FuncId}{xs:Array Operand}{ts:Array TypeId}{ys:List AV}{rows:List (List Lf)}{u:Value}(hp:FnOwnT P f ys rows n u)(hx:evs (evT tm) xs.toList=some ys)(ht:ys.all AV.tree=true)(hb:(H.at b).idle=true)(htm:tm.clearO b=some tm')(hH:AH.clear b 0 H=true)(hN:LN d N)
  (hr:∀row∈rows,row.length=n)
  (h2:Reg none P N ops rest ((d,.tup [.own b 0 rows.length n,.val u])::tm') (H.put b (.live (rows.flatten.map .lf))) K):Reg none P N ops (⟨some d,.call ⟨.value (.func f),xs,ts⟩,ty,pos,af,none⟩::rest) tm H K:=by
 refine⟨fun E a w ρ hE hR=>?_⟩
 replace h2:=h2.out
 refine wpList_plain rfl fun K' hK=>?_
 have hN':=a0c hN
 obtain⟨g1,g2⟩:=Ff _ _ hx
 have hrun:(execOp a.eval ⟨some d,.call ⟨.value (.func f),xs,ts⟩,ty,pos,af,none⟩).run P w=.ok (.enter f (xs.toList.map a.eval).toArray) w:=by
  have:(execOp a.eval ⟨some d,.call ⟨.value (.func f),xs,ts⟩,ty,pos,af,none⟩).run P w=(callFunc f (#[]++xs.map a.eval++ #[])).run P w:=by simp[execOp,resolve,Act.eval,Deferred.ofValue,invoke]
  rw[this,hp.1.run]
  simp only[a5o,a5a,true_and,and_true]
  apply a6m
  simp
 unfold Oper.wp
 rw[hrun]
 refine(hp.2 (Fb E.L ρ) w (xs.toList.map a.eval) hR.glob hR.fb_lt (by simp[<-g1]) fun i x v hx hv=>?_).mono ?_
 ·refine RelV.bare ?_ (a0l.1 ht x (a0a hx))
  obtain⟨z,h5,h6⟩:=g2 i x hx
  rw[a0d,h5]at hv
  simp at hv
  subst hv
  exact hR.ev (by rw[Am];exact h6)
 ·rintro e w' ⟨v,rfl,hbel,k,o,c,el,lo,hi,cap,rfl,hk,hw,hlo,hcap,hsz,hc⟩
  have hlen:rows.length*n<=cap*n:=a3k _ hcap
  obtain⟨s1,s2⟩:=hR.regrow (tm':=tm') (cells':=rows.flatten.map AV.lf) (w':=w') (k':=k) (o':=o) htm hH (p1r hb) hw hlo
   (by rw[a0e,Bc rows hr];omega) (.inr hk) (fun k2 hk2 _=>hbel.block k2 hk2) (fun k2 x hx=>(Gl (L:=E.L) (ρ:=ρ) hbel).shape k2 x hx) hbel.os hbel.tape hbel.output hbel.size fun hla j z hj=>by
    rw[a0d]at hj
    cases hf:rows.flatten[j]? with
    |none=>rw[hf]at hj;cases hj
    |some x=>
     rw[hf]at hj
     simp only[a1g,a0h]at hj
     subst hj
     obtain⟨u,p1,p2⟩:=hc j x hf
     refine⟨u,p1,.lf _ _ (p2.less fun i hi=>?_)⟩
     rcases hi with hi|⟨b',o',hi⟩
     ·exact .inl (.inl hi)
     ·unfold Pl.upd at hi
      by_cases e':b'=b
      ·rw[if_pos e']at hi
       simp only[a0h,a1p]at hi
       exact .inr hi.1.symm
      ·rw[if_neg e']at hi
       exact .inl (.inr ⟨b',o',hi⟩)
  refine hK _ _ (h2 E _ w' _ hE (s2.put (by rw[hE];exact hN') (RelV.tup [.own b 0 rows.length n,.val u] [.slice (some ⟨k,o,none⟩) rows.length cap,u] rfl fun i x v hx hv=>?_)))
  match i,hx,hv with
  |0,hx,hv=>simp at hx hv;subst hx hv;exact K1 hcap (Dh hw) hsz
  |1,hx,hv=>simp at hx hv;subst hx hv;exact Ab _
theorem p4i{n0 n b off len:Nat}{k:IntKind}{i:Int}{o2:Nat}[hu:HasU P t (.slice e)][hi:HasS P e n](hx:evT tm x=some (.own b off len n))(hy:evT tm y=some (.val (.int k i)))(hb:(C0 none H b).isLive=true)(hm:Ae3 ops=true)(hN:LN d N)(h0:0<=i/\i<len)(ho:off+i.toNat*n=o2)(h:Reg (some n0) P N ops rest ((d,.ptr b o2)::tm) H K):Reg (some n0) P N ops (⟨some d,.indexAddr t x y,ty,pos,af,none⟩::rest) tm H K:=by
 subst ho
 obtain⟨cs,hb'⟩:=Eb hb
 refine⟨?_⟩
 obtain⟨ss,g1,g2⟩:=h.out
 exact⟨.lv (.ptr b (off+i.toNat*n)) b::ss,⟨⟨a0c hN,rfl,g1⟩,rfl,⟨cs,hb'⟩,fun cells=>OpV.indexO rfl hx (if_pos rfl) hy hu.out hi.out h0.1 h0.2,hm⟩,g2⟩
theorem p4j{n0 b off n:Nat}{cells l:List AV}{ds:TypeDesc}[hu:HasU P t ds][hi:HasS P t n](hx:evT tm x=some (.ptr b off))(hb:H.at b=.live cells)(hd:ds.isRow=true)(hld:A0m ops d=true)(hN:LN d N)(hl:(cells.drop off).take n=l)(hle:off+n<=cells.length)(h:Reg (some n0) P N ops rest ((d,.agg l)::tm) H K):Reg (some n0) P N ops (⟨some d,.load t x,ty,pos,af,none⟩::rest) tm H K:=by
 subst hl
 exact S.ld hb (OpV.loadPA rfl hx (if_pos rfl) hu.out hd hi.out (a3f hle)) hld hN h
theorem p3x{n0 b off n:Nat}{cells:List AV}{r:AV}[hi:HasS P t n](hx:evT tm x=some (.ptr b off))(hy:evT tm y=some r)(hb:H.at b=.live cells)(h1:r.boxed=true)(h2:(r.cells.all AV.one)=true)(hn:r.cells.length=n)(hl:off+n<=cells.length)(hm:Nat.ble n0 b=true)(h:Reg (some n0) P N ops rest tm (H.put b (.live (Bk off r.cells cells))) K):Reg (some n0) P N ops (⟨none,.store t x y,ty,pos,af,none⟩::rest) tm H K:=
 p3u hx hy hb h1 h2 hn (a3f hl) hm h
theorem S.field{i:Nat}{cs:List AV}{c:AV}{fs:Array Field}{f:Field}{ds:TypeDesc}(hu:P.underlying t=some (.struct fs))(hf:fs[i]?=some f)(hd:P.underlying f.type=some ds)(hr:ds.isRow=false)(hx:evT tm x=some (.agg cs))(hc:cs[f.offset]?=some c)(hN:LN d N)(h:Reg m P N ops rest ((d,c)::tm) H K):Reg m P N ops (⟨some d,.field t x i,ty,pos,af,none⟩::rest) tm H K:=
 S.val (OpV.field rfl hx hu hf hd hr hc) hN h
theorem p5e(b:Nat){v:Value}[hz:HasZ P t v](hb:(H.at b).idle=true)(htm:tm.clearO b=some tm')(hH:AH.clear b 0 H=true)(h1:(AV.cst v).boxed=true)(hN:LN d N)(h:Reg none P N ops rest ((d,.ptr b 0)::tm') (H.put b (.live (AV.cst v).cells)) K):Reg none P N ops (⟨some d,.alloc t,ty,pos,af,none⟩::rest) tm H K:=by
 refine⟨fun E a w ρ hE hR=>?_⟩
 replace h:=h.out
 refine wpList_plain rfl fun K' hK=>?_
 have hcell:∀(w:World)(ρ:Pl),(AV.cst v).cells.length=v.cells.toList.length/\_:=fun w ρ=>(Po (w:=w) (L:=E.L) (ρ:=ρ) v).cells h1
 obtain⟨s1,s2⟩:=hR.regrow (tm':=tm') (cells':=(AV.cst v).cells) (w':=w.alloc (.cells v.cells t)) (k':=w.heap.size) (o':=0) htm hH (p1r hb) (Bz w _) (a0n _)
  (by have:=(hcell w ρ).1;simp at this⊢;omega) (.inr (a0n _)) (fun k2 hk2 _=>Ap w _ hk2) (fun k2 x hx=>by rw[Cn (Ap w _ (Ga hx))];exact hx) rfl rfl rfl (by simp) fun hla j z hj=>by
   obtain⟨u,p1,p2⟩:=(hcell (w.alloc (.cells v.cells t)) (ρ.upd b (some (w.heap.size,0)))).2 j z hj
   exact⟨u,by rw[a1n];simpa using p1,p2⟩
 have hrun:(execOp a.eval ⟨some d,.alloc t,ty,pos,af,none⟩).run P w=.ok (.value (.pointer (some ⟨w.heap.size,0,none⟩))) (w.alloc (.cells v.cells t)):=by
  simp only[execOp,Instr.alloc,a0t,Gc hz.out,P8,a0o,a1m]
 unfold Oper.wp
 rw[hrun]
 refine hK _ _ (h E _ _ _ hE (s2.put (by rw[hE];exact a0c hN) (.ptr b 0 _ (by unfold Pl.upd;rw[if_pos rfl];simp) rfl fun k2 o2 hk2=>?_)))
 unfold Pl.upd at hk2
 rw[if_pos rfl]at hk2
 simp only[a0h,a1p]at hk2
 obtain⟨rfl,rfl⟩:=hk2
 rfl
end
section
variable {P:Program}{N:Nat}
theorem p5i(n0:Nat){id:Nat}{l:List Oper}{Q:Exit->St->Prop}{tm:Tm}{H:AH}(n:Nat)(hm:P.follows .mixedOrders=true)(hB:I1 l.toArray n=true)
  (h:Reg (some n0) P N l.toArray (l.take n) tm H (fun tm' H'=>Reg none P N l.toArray (l.drop n) tm' H' (fun tm H=>Q .normal ⟨tm,H⟩))):T P N (.region id l.toArray true) ⟨tm,H⟩ Q:=by
 refine⟨fun E a w ρ hE hr=>?_⟩
 obtain⟨ss,hok,hK⟩:=h.out
 have hn:n<=l.length:=by simp only[I1,a0w,decide_eq_true_eq]at hB;simpa using hB.2
 have htl:(l.take n).length=n:=by simp;omega
 obtain⟨h1,h2,h3,h4⟩:=O0 (ops:=l.toArray) (tm0:=tm) (H0:=H) (tr:=ss) (l.take n) ss 0 tm H (fun j hj=>by rw[htl]at hj;simp[hj]) (fun j _=>by simp) hok (fun t=>rfl) (fun b=>rfl)
 have F:Mt P N n0 l.toArray ss tm H n:=fun j hj=>by
  obtain⟨o,s,tmj,Hj,g⟩:=h2 j (by rw[htl];exact hj)
  rw[a1n]at g
  exact⟨o,s,tmj,Hj,g⟩
 rw[htl,a1n]at h3 h4
 have hr':RelSt E ⟨tm,H⟩ a {w with drawn:=w.drawn+1} ρ:=hr.below ⟨rfl,rfl,rfl,a0n _,fun _ _=>rfl⟩
 have hrep:∀i,(Array.replicate l.toArray.size false).getD i false=false:=fun i=>getD_replicate_false _ _
 have hcnt:cnt (Array.replicate l.toArray.size false) n=n:=by
  have:∀k,cnt (Array.replicate l.toArray.size false) k=k:=fun k=>by
   induction k with
   |zero=>rfl
   |succ k ih=>simp only[cnt,hrep,ih];simp
  exact this n
 refine wp_mono (wp_region_any hm ?_ (Q:=fun e a' w'=>e=.normal/\∃st' ρ',Q .normal st'/\RelSt E st' a' w' ρ')) ?_
 ·have key:=U7 (ops:=l.toArray) (tr:=ss) (n:=n) (E:=E) F hB hE (Q:=fun e a' w'=>e=.normal/\∃st' ρ',Q .normal st'/\RelSt E st' a' w' ρ') (l:=l.drop n) (fun j=>by simp[a2r]) (by simp) (fun a w ⟨tm',H',ρ',g1,g2,g3⟩=>by
   have g4:RelSt E ⟨N0 (l.take n) ss tm,Qo ss H⟩ a w ρ':=(g1.weaken _ fun t x hx=>by rw[g2 t,<-h3 t];exact hx).sameH fun b=>by rw[h4 b,<-g3 b]
   exact hK.out E a w ρ' hE g4) n _ a {w with drawn:=w.drawn+1} hcnt ⟨by simp,(fun j oj _ hl=>by rw[hrep]at hl;cases hl),(fun t _ ht=>getD_in (by simpa using ht) (hrep t))⟩ ⟨tm,H,ρ,hr',fun t=>?_,fun b=>?_⟩
  ·rw[show n+(l.toArray.size-n)=l.toArray.size by simp;omega]at key
   exact key
  ·rw[J4 (k:=0) n (by omega) fun i _ _ _=>hrep i];rfl
  ·exact(Gk n fun i _ _ _=>hrep i).symm
 ·rintro e a' w' ⟨rfl,st',ρ',g1,g2⟩
  exact⟨st',ρ',g1,g2⟩
end
section
variable {P:Program}{N:Nat}{ops:Array Oper}{m:Option Nat}{K:Tm->AH->Prop}{tm tm':Tm}{H:AH}{rest:List Oper}{ty:TypeId}{pos:String}{af:Array Edge}{d:Nat}{t e:TypeId}{x y z:Operand}
theorem p1u{ps:Array (Nat×Operand)}{n len:Nat}{zs:Array Value}{ys:List (Nat×AV)}{out:List AV}[hu:HasU P t (.array len e)][hi:HasS P e n][hz:HasZ P t (.agg zs)](hy:Ew (evT tm) ps.toList=some ys)(ho:Hl (fun(i:Nat)=>some (i*n,n)) ys (zs.toList.map T4)=some out)(hN:LN d N)(h:Reg m P N ops rest ((d,.agg out)::tm) H K):Reg m P N ops (⟨some d,.build t ps,ty,pos,af,none⟩::rest) tm H K:=by
 refine S.val (OpV.mk fun L w ρ η hη hH=>?_) hN h
 obtain⟨g1,g2⟩:=Ks (w:=w) (L:=L) (ρ:=ρ) hy fun x hx y he=>hη x (by simpa[Op.operands]using hx) y he
 have hc:I9 w L ρ (zs.toList.map T4) zs:=⟨by simp,fun j x hx=>by
  rw[a0d]at hx
  cases e:zs.toList[j]? with
  |none=>rw[e]at hx;cases hx
  |some v=>
   rw[e]at hx
   simp only[a1g,a0h]at hx
   subst hx
   exact⟨v,by simpa using e,Wp v⟩⟩
 obtain⟨r,h3,h4,h5⟩:=Ju ys _ _ zs out g1 g2 hc ho
 refine⟨.agg r,?_,?_⟩
 ·simp only[execOp,Instr.build,a0t,Gc hz.out,run_underlying hu.out,a0o,Ax hi.out,Value.cells]
  rw[h3]
  simp only[a1m,a0o]
 ·have:r=r.toList.toArray:=by simp
  rw[this]
  refine .agg out r.toList (by simpa using h4) fun i x v hx hv=>?_
  obtain⟨v',h6,h7⟩:=h5 i x hx
  simp only[a7j]at hv
  rw[h6]at hv
  injection hv with hv
  subst hv
  exact h7
end
theorem Dx(k n:Nat){G R:Prop}(r:R)(h:∀i m,i=k->m=n->Rest R->G:=by intro i m d e r;apply p5i i m A8;(subst d;subst e;decide+kernel);subst d;subst e;simp only[td];exact r.out):G:=h k n rfl rfl ⟨r⟩
theorem Zbs{G R:Prop}(r:R)(h:Rest R→G:=by intro r;apply S.field (i:=2) a2a rfl a1w rfl;(iterate 3 exact rfl);exact r.out):G:=h ⟨r⟩
theorem Zdt{G R:Prop}(r:R)(h:Rest R→G:=by intro r;apply p1u;(iterate 3 exact rfl);exact r.out):G:=h ⟨r⟩
end Go.Proofs.YtcaicpnepfjcmaaGreat
