/- Lemmas of the proof. -/
import Derived.Test.YtcaicpnepfjcmaaGreatPc
set_option linter.all false
set_option maxHeartbeats 64000000
namespace Go.Proofs.YtcaicpnepfjcmaaGreat
open Go Go.RowKit
def a8t:= @Tryz.func113
theorem p2d{P:Program}{N:Nat}{c:Code}{Q:Exit->St->Prop}{tm:Tm}{H:AH}(q b:Nat){n st:Nat}{rows:List (List Lf)}(hr:∀r∈rows,r.length=st)(hn:rows.length=n)(ht:tm.get q=some (rT b st n))(hb:H.at b=rB (rows.flatten.map .lf) n)(h:T P N c ⟨(q,.sl rows)::tm,H.put b .dead⟩ Q):T P N c ⟨tm,H⟩ Q:=by
 subst hn
 cases rows with
 |nil=>exact p0p q ht (T.kill b h (by rw[hb];rfl))
 |cons r rows=>exact T.freeze q ht hb (OwnRows.of _ hr rfl) h
theorem A40{α:Type}(l:List α)(R:α->List Lf)(p:α->Prop)[DecidablePred p](g:FuncId)(caps:List AV)(hR:∀x,(R x).length=2)(hl:l.length<=9223372036854775807)(hcaps:caps.all p1q=true)(hg:∀x∈l,Fn0 Tryz.prog g (.agg ((R x).map .lf)::caps) (.b (decide (p x)))):
  Fz 214 [.sl (l.map R),.fn (.func g) [] caps] (.i (idx p l)):=by
 refine Fo Tryz.func214 ?_
 repeat' first|refine WX ?_|refine W2 ?_ ?_<;>intro hc
 refine p0c (fun k=>k<=l.length/\∀x∈l.take k,¬p x) (fun k=>l.length-k) (fun k=>[(8,.i k),(7,.i (l.map R).length),(0,.sl (l.map R)),(1,.fn (.func g) [] caps)]) (fun _=>[]) 0 ⟨a0k _,by simp⟩ (.cons rfl rfl (.cons rfl rfl (.cons rfl rfl (.cons rfl (Bo hcaps) .nil)))) .nil ?_
 rintro k ⟨hk,hno⟩
 have hle:=lmA l R
 by_cases hlt:k<l.length
 ·have h1:(k:Int)<((l.map R).length:Nat):=by omega
  obtain⟨x,hx⟩:∃x,l[k]?=some x:=⟨l[k],a0b hlt⟩
  have hb:(l.map R)[((k:Nat):Int).toNat]?=some (R x):=by rw[a0q,a0d,hx];rfl
  have hx2:=hg x (a0a hx)
  repeat' first|refine WY ?_|refine Zd8 hb (hR x) ?_|(apply p0i;(iterate 3 exact rfl);exact hR x)|refine Zbx hx2 (Gx hcaps) ?_|refine V ?_|refine W2 ?_ ?_<;>intro hc
  all_goals first
   |exact Next.go (k+1) ⟨by omega,by rw[a0u,hx];intro y hy;rcases a0p.1 hy with hy|hy;exact hno y hy;obtain rfl:y=x:=(by simpa using hy);assumption⟩ (by omega) (.cons rfl rfl (.cons rfl rfl (.cons rfl rfl (.cons rfl (Bo hcaps) .nil)))) .nil
   |exact Dd rfl rfl (by rw[Fk hx hno (by assumption)])
 ·have h1:¬(k:Int)<((l.map R).length:Nat):=by omega
  repeat' first|refine WX ?_|refine W2 ?_ ?_<;>intro hc
  exact Dd rfl rfl (by rw[Em (by rw[a0g (by omega)]at hno;exact hno)])
theorem A3z(l:List Int)(p:Int->Prop)[DecidablePred p](g:FuncId)(hl:l.length<=9223372036854775807)(hg:∀x,Fn0 Tryz.prog g [.i x] (.b (decide (p x)))):
  Fz 142 [.sl (l.map A1),.fn (.func g) [] []] (.i (idx p l)):=by
 refine Fo Tryz.func142 ?_
 repeat' first|refine WX ?_|refine W2 ?_ ?_<;>intro hc
 refine p0c (fun k=>k<=l.length/\∀x∈l.take k,¬p x) (fun k=>l.length-k) (fun k=>[(8,.i k),(7,.i (l.map A1).length),(0,.sl (l.map A1)),(1,.fn (.func g) [] [])]) (fun _=>[]) 0 ⟨a0k _,by simp⟩ CW .nil ?_
 rintro k ⟨hk,hno⟩
 have hle:=lmA l A1
 by_cases hlt:k<l.length
 ·have h1:(k:Int)<((l.map A1).length:Nat):=by omega
  obtain⟨x,hx⟩:∃x,l[k]?=some x:=⟨l[k],a0b hlt⟩
  have hb:(l.map A1)[((k:Nat):Int).toNat]?=some (A1 x):=by rw[a0q,a0d,hx];rfl
  have hx2:=hg x
  repeat' first|refine WY ?_|(apply S.callF;exact rfl;exact rfl;exact hx2;exact rfl;exact rfl)|refine V ?_|refine W2 ?_ ?_<;>intro hc
  all_goals first
   |exact Next.go (k+1) ⟨by omega,by rw[a0u,hx];intro y hy;rcases a0p.1 hy with hy|hy;exact hno y hy;obtain rfl:y=x:=(by simpa using hy);assumption⟩ (by omega) CW .nil
   |exact Dd rfl rfl (by rw[Fk hx hno (by assumption)])
 ·have h1:¬(k:Int)<((l.map A1).length:Nat):=by omega
  repeat' first|refine WX ?_|refine W2 ?_ ?_<;>intro hc
  exact Dd rfl rfl (by rw[Em (by rw[a0g (by omega)]at hno;exact hno)])
theorem Jo(l:List Int)(p:Int->Prop)[DecidablePred p](g:FuncId)(hl:l.length<=9223372036854775807)(hg:∀x,Fn0 Tryz.prog g [.i x] (.b (decide (p x)))):
  Fz 68 [.sl (l.map A1),.fn (.func g) [] []] (.b (decide (∃x∈l,p x))):=by
 refine Fo Tryz.func68 ?_
 repeat' first|refine W ?_|refine Zc (A3z l p g hl hg) ?_|refine V ?_|refine W2 ?_ ?_<;>intro hc
 all_goals exact Dd rfl rfl (by rw[Ny p l])
theorem Xf{α:Type}(l:List α)(R:α->List Lf)(p:α->Prop)[DecidablePred p](g:FuncId)(caps:List AV)(hR:∀x,(R x).length=2)(hl:l.length<=9223372036854775807)(hcaps:caps.all p1q=true)(hg:∀x∈l,Fn0 Tryz.prog g (.agg ((R x).map .lf)::caps) (.b (decide (p x)))):
  Fz 140 [.sl (l.map R),.fn (.func g) [] caps] (.b (decide (∃x∈l,p x))):=by
 refine Fo Tryz.func140 ?_
 repeat' first|refine W ?_|(apply S.call;exact rfl;exact S7 hcaps;exact A40 l R p g caps hR hl hcaps hg;exact rfl)|refine V ?_|refine W2 ?_ ?_<;>intro hc
 all_goals exact Dd rfl rfl (by rw[Ny p l])
theorem A41(n:ByteArray)(q:CueR):Fz 144 [A0 q.row,.rop [.s n]] (.b (decide (q.name=n))):=by
 refine Fo Tryz.func144 ?_
 repeat' first|refine WX ?_|refine W2 ?_ ?_<;>intro hc
 all_goals exact Dd rfl rfl (by rfl)
theorem Hp(c:SheetR)(n:ByteArray)(hs:c.cues.length<=9223372036854775807):Fz 69 [A0 c.row,.s n] (.i (Bl c.cues n)):=by
 have hc:Fz 143 [.sl (c.cues.map CueR.row),.fn (.func 144) [] [.rop [.s n]]] (.i (Bl c.cues n)):=
  Qx c.cues CueR.row (fun q=>q.name=n) _ _ (fun _=>rfl) hs rfl fun q _=>A41 n q
 refine Fo Tryz.func69 ?_
 repeat' first|refine W ?_|(apply S.callV;exact rfl;exact hc;exact .cons (.one (.lf _)) (.cons (.fn (.cons (.ptr0 (cs:=[.s n]) rfl) .nil)) .nil);exact rfl;exact rfl)|refine V ?_|refine W2 ?_ ?_<;>intro hc
 all_goals exact Dd rfl rfl (by rfl)
theorem Vy(n:Int):Fz 139 [.i n] (.b (decide (0<=n/\n<=2147483648))):=by
 refine Fo Tryz.func139 ?_
 repeat' first|refine WX ?_|refine W2 ?_ ?_<;>intro hc
 all_goals exact Dd rfl rfl (by simp[*])
theorem Tj(n:Int):Fz 193 [.i n] (.b (decide (Ep n))):=by
 have c1:=Vy n
 refine Fo Tryz.func193 ?_
 repeat' first|refine WX ?_|refine W2 ?_ ?_<;>intro hc
 all_goals exact Dd rfl rfl (by simp[Ep])
def Of(c:SheetR)(p:ByteArray×ByteArray):Prop:=p.1=p.2\/Bl c.cues p.1<0\/Bl c.cues p.2<0
instance (c:SheetR)(p:ByteArray×ByteArray):Decidable (Of c p):=by unfold Of;exact inferInstance
theorem A1s(c:SheetR)(p:ByteArray×ByteArray)(hs:c.cues.length<=9223372036854775807):Fz 141 [.agg ((Ah p).map .lf),.rop c.row] (.b (decide (Of c p))):=by
 have c1:=Hp c p.1 hs
 have c2:=Hp c p.2 hs
 refine Fo Tryz.func141 ?_
 repeat' first|refine WY ?_|refine Zbe ?_|refine V ?_|refine W2 ?_ ?_<;>intro hc
 all_goals exact Dd rfl rfl (congrArg Value.bool (by simp only[Of];simp[*]))
theorem Qz(h:HouseR)(c:SheetR)(v:validP h c)(hc:c.fits):Fz 67 [A0 c.row] (.b true):=by
 obtain⟨hc1,hc2,_⟩:=hc
 have lk:=v.lk
 have h60:=v.2.1
 obtain⟨hp1,hp2⟩:=v.2.2.2
 have hle:=lmA c.cues CueR.row
 have hle2:=lmA c.apart Ah
 have hno:¬∃x∈c.apart,Of c x:=by
  rintro⟨x,hx,hb⟩
  obtain⟨i,hi⟩:=a2x hx
  obtain⟨⟨g1,g2⟩,g3,_⟩:=hp2 i x hi
  rcases hb with hb|hb|hb
  ·exact g3 hb
  ·omega
  ·omega
 have hcf:Fz 140 [.sl (c.apart.map Ah),.fn (.func 141) [] [.rop c.row]] (.b (decide (∃x∈c.apart,Of c x))):=
  Xf c.apart Ah (Of c) _ _ (fun _=>rfl) hc2 rfl fun p _=>A1s c p hc1
 rw[decide_eq_false hno]at hcf
 refine Fo Tryz.func67 ?_
 repeat' first|refine WX ?_|refine W2 ?_ ?_<;>intro hc
 all_goals first
  |(exfalso;omega)
  |skip
 refine p0c (fun k=>k<=c.cues.length) (fun k=>c.cues.length-k) (fun k=>[(19,.i k),(18,.i (c.cues.map CueR.row).length),(17,.sl (c.cues.map CueR.row)),(1,.ptr 0 0)]) (fun _=>[.live (c.row.map .lf)]) 0 (a0k _) CW (.live rfl .nil) ?_
 intro k hk
 by_cases hlt:k<c.cues.length
 ·have h1:(k:Int)<((c.cues.map CueR.row).length:Nat):=by omega
  obtain⟨q,hq⟩:=A2 hlt
  have hb:=A3 (R:=CueR.row) hq
  obtain⟨q1,q2,q3,q4,q5,q6⟩:=lk k q hq
  have ci:=F1 q.name
  have cf:=Hp c q.name hc1
  have ct:=Vy q.delay
  have ca:=Hp c q.after hc1
  rw[q1]at ci
  rw[q2]at cf
  rw[decide_eq_true q3]at ct
  repeat' first|refine WX ?_|refine W2 ?_ ?_<;>intro hc
  all_goals first
   |exact Next.go (k+1) (by omega) (by omega) CW (.live rfl .nil)
   |(exfalso;first|contradiction|omega|(have:=q6 (by assumption);omega)|(have:=q5 (by assumption);contradiction)|(have:=q6 (by omega);omega))
 ·have h1:¬(k:Int)<((c.cues.map CueR.row).length:Nat):=by omega
  repeat' first|refine W ?_|(apply S.callV;exact rfl;exact hcf;exact .cons (.one (.lf _)) (.cons (.fn (.cons (.ptr0 (cs:=c.row) rfl) .nil)) .nil);exact rfl;exact rfl)|refine V ?_|refine W2 ?_ ?_<;>intro hc
  all_goals exact Dd rfl rfl rfl
theorem Aa0{l:List CueR}{k:Nat}{q:CueR}(hq:l[k]?=some q):(hgL l)[k]?=some (hgI l q):=by
 unfold hgL
 rw[a0d,hq];rfl
theorem A1t(c:SheetR)(h60:c.cues.length<=60):Fz 260 [A0 c.row] (.sl ((hgL c.cues).map A1)):=by
 have hle:=lmA c.cues CueR.row
 have hgl:(hgL c.cues).length=c.cues.length:=by unfold hgL;rw[a0e]
 refine Fo Tryz.func260 ?_
 repeat' first|refine WX ?_|refine W2 ?_ ?_<;>intro hc
 refine T.kill 1 ?_
 refine p0c (fun k=>k<=c.cues.length) (fun k=>c.cues.length-k) (fun k=>[(10,.i k),(9,.i (c.cues.map CueR.row).length),(8,.sl (c.cues.map CueR.row)),(3,rT 1 1 k),(1,.ptr 0 0)]) (fun k=>[.live (c.row.map .lf),rB (A7 ((hgL c.cues).take k)) k]) 0 (a0k _) CW CG ?_
 intro k hk
 by_cases hlt:k<c.cues.length
 ·have h1:(k:Int)<((c.cues.map CueR.row).length:Nat):=by omega
  obtain⟨q,hq⟩:=A2 hlt
  have hb:=A3 (R:=CueR.row) hq
  have ca:=Hp c q.after (by omega)
  have hS:A7 ((hgL c.cues).take (k+1))=A7 ((hgL c.cues).take k)++([A1 (hgI c.cues q)].flatten).map AV.lf:=by rw[Ad (Aa0 hq)];simp[A7]
  cases k with
  |zero=>
   repeat' first|refine WY ?_|refine Zb0 ?_|refine Zbd ?_|refine V ?_|refine W2 ?_ ?_<;>intro hc
   all_goals exact Next.go 1 (by omega) (by omega) CW (by
    show CovH _ _ [_,.live (A7 ((hgL c.cues).take (0+1)))]
    rw[hS]
    first
     |(rw[show hgI c.cues q= -1 from if_pos (by first|assumption|(apply a3h.1;assumption)|omega)];exact .live rfl (.live rfl .nil))
     |(rw[show hgI c.cues q=Bl c.cues q.after from if_neg (by first|assumption|(apply a3h.1;assumption)|omega)];exact .live rfl (.live rfl .nil)))
  |succ k=>
   have hcl:(A7 ((hgL c.cues).take (k+1))).length=(k+1)*1:=by rw[C8,a0x];omega
   repeat' first|refine WY ?_|refine Zb0 ?_|refine Zb2 hcl ?_|refine V ?_|refine W2 ?_ ?_<;>intro hc
   all_goals exact Next.go (k+2) (by omega) (by omega) CW (by
    show CovH _ _ [_,.live (A7 ((hgL c.cues).take (k+1+1)))]
    rw[hS]
    first
     |(rw[show hgI c.cues q= -1 from if_pos (by first|assumption|(apply a3h.1;assumption)|omega)];exact .live rfl (.live (by rw[<-a1f];exact Ac _ _) .nil))
     |(rw[show hgI c.cues q=Bl c.cues q.after from if_neg (by first|assumption|(apply a3h.1;assumption)|omega)];exact .live rfl (.live (by rw[<-a1f];exact Ac _ _) .nil)))
 ·have h1:¬(k:Int)<((c.cues.map CueR.row).length:Nat):=by omega
  have ht:(hgL c.cues).take k=hgL c.cues:=a0g (by omega)
  rw[ht]
  refine p2d 3 1 (rows:=(hgL c.cues).map A1) (Cd _) (by rw[a0e];omega) rfl rfl ?_
  repeat' first|refine WX ?_|refine W2 ?_ ?_<;>intro hc
  exact E5 (by simp) Tryz.results260 rfl (.one (.one (.lf _)))
/-! ### Own slices of Booleans and of integers -/
abbrev bA(l:List Bool):List AV:=l.map fun b=>.val (.bool b)
abbrev iA(l:List Int):List AV:=l.map fun x=>.val (.int .i64 x)
theorem J8{l:List Bool}{i:Nat}{b:Bool}(h:l[i]?=some b):(bA l)[i]?=some (.val (.bool b)):=by rw[a0d,h];rfl
theorem A0k{l:List Int}{i:Nat}{x:Int}(h:l[i]?=some x):(iA l)[i]?=some (.val (.int .i64 x)):=by rw[a0d,h];rfl
theorem Adi(l:List Int):iA l=A7 l:=by
 induction l with
 |nil=>rfl
 |cons x l ih=>
  show _::iA l=_
  rw[ih];rfl
theorem Aan(l:List Int):OwnRows (iA l) 0 l.length 1 (l.map A1):=by
 have:=OwnRows.of (l.map A1).flatten (Cd l) rfl
 rw[a0e]at this
 rw[Adi]
 exact this
theorem Bp(n:Nat)(l:List Bool):(bA l).all (AV.under n)=true:=by
 rw[a0l]
 intro x hx
 obtain⟨_,_,rfl⟩:=a1d.1 hx
 rfl
theorem El(n:Nat)(l:List Int):(iA l).all (AV.under n)=true:=by
 rw[a0l]
 intro x hx
 obtain⟨_,_,rfl⟩:=a1d.1 hx
 rfl
section
variable {P:Program}{N:Nat}{ops:Array Oper}{m:Option Nat}{K:Tm->AH->Prop}{tm tm':Tm}{H:AH}{rest:List Oper}{ty:TypeId}{pos:String}{af:Array Edge}{d:Nat}{t e:TypeId}{x y:Operand}
theorem p2i{b j:Nat}{v:Bool}{l:List Bool}[hi:HasS P t 1](hx:evT tm x=some (.ptr b j))(hy:evT tm y=some (.val (.bool v)))(hb:H.at b=.live (bA l))(hl:j<l.length)(h:Reg none P N ops rest tm (H.put b (.live (bA (l.set j v)))) K):Reg none P N ops (⟨none,.store t x y,ty,pos,af,none⟩::rest) tm H K:=by
 refine p2c (r:=.val (.bool v)) hx hy hb rfl rfl rfl (by rw[a0e];exact hl) ?_
 rw[show(AV.val (.bool v)).cells=[.val (.bool v)]from rfl,Py,show(bA l).set j (.val (.bool v))=bA (l.set j v) by rw[bA,bA,b1x]]
 exact h
theorem p2j{b j:Nat}{v:Int}{l:List Int}[hi:HasS P t 1](hx:evT tm x=some (.ptr b j))(hy:evT tm y=some (.val (.int .i64 v)))(hb:H.at b=.live (iA l))(hl:j<l.length)(h:Reg none P N ops rest tm (H.put b (.live (iA (l.set j v)))) K):Reg none P N ops (⟨none,.store t x y,ty,pos,af,none⟩::rest) tm H K:=by
 refine p2c (r:=.val (.int .i64 v)) hx hy hb rfl rfl rfl (by rw[a0e];exact hl) ?_
 rw[show(AV.val (.int .i64 v)).cells=[.val (.int .i64 v)]from rfl,Py,show(iA l).set j (.val (.int .i64 v))=iA (l.set j v) by rw[iA,iA,b1x]]
 exact h
end
def upL(n:Nat):List Int:=List.map (fun i:Nat=>(i:Int)) (List.range n)
theorem V2(n:Nat):upL (n+1)=upL n++[(n:Int)]:=by simp[upL,a6w]
theorem J2(n:Nat):(upL n).length=n:=by simp[upL]
theorem Acn{n k:Nat}(h:k<n):(upL n)[k]?=some (k:Int):=by
 unfold upL
 rw[a0d,a2u h];rfl
theorem Acw(b:Nat)(l:List Bool):(bA l).all (AV.clear b)=true:=by
 rw[a0l]
 intro x hx
 obtain⟨_,_,rfl⟩:=a1d.1 hx
 rfl
theorem Nq(X:List Lf)(l:List Bool)(Y:HB)(hY:AH.clear 2 2 [Y]=true):AH.clear 2 0 [.live (X.map .lf),.live (bA l),Y]=true:=by
 simp only[AH.clear,HB.clear,Aj,Acw,b1s,a7s]at hY⊢
theorem A42(c:SheetR)(lk:LkP c.cues)(h60:c.cues.length<=60):Fz 194 [A0 c.row] (.sl ((upL c.cues.length).map A1)):=by
 have cb:=A1t c h60
 have hlen:((hgL c.cues).map A1).length=c.cues.length:=by rw[a0e,hgL,a0e]
 have hhg:∀i q,c.cues[i]?=some q->((hgL c.cues).map A1)[i]?=some (A1 (hgI c.cues q)):=fun i q hq=>by rw[a0d,Aa0 hq];rfl
 have hd0:List.replicate ((hgL c.cues).map A1).length (AV.val (.bool false))=bA (E9 c.cues.length 0):=by rw[hlen];simp[E9,bA]
 refine Fo Tryz.func194 ?_
 repeat' first|refine WY ?_|(apply p3c (n:=((hgL c.cues).map A1).length);(iterate 3 exact rfl);omega;exact rfl;exact rfl)|refine V ?_|refine W2 ?_ ?_<;>intro hc
 rw[hd0]
 generalize(hgL c.cues).map A1=hg at*
 refine T.kill 2 ?_
 refine p0c (fun k=>k<=c.cues.length) (fun k=>c.cues.length+1-k) (fun k=>[(3,.sl hg),(4,.own 1 0 hg.length 1),(5,rT 2 1 k)]) (fun k=>[.live (c.row.map .lf),.live (bA (E9 c.cues.length k)),rB (A7 (upL k)) k]) 0 (a0k _) CW (.live rfl (.live (Bp _ _) (.dead .nil))) ?_
 intro k hk
 repeat' first|refine WX ?_|refine W2 ?_ ?_<;>intro hc
 refine p0c (fun i=>i<=k) (fun i=>k+1-i) (fun i=>[(16,.i i),(15,.i hg.length),(14,.sl hg),(3,.sl hg),(4,.own 1 0 hg.length 1),(5,rT 2 1 k),(6,.i (-1))]) (fun _=>[.live (c.row.map .lf),.live (bA (E9 c.cues.length k)),rB (A7 (upL k)) k]) 0 (a0k _) (.cons rfl rfl (.cons rfl rfl (.cons rfl rfl (.cons rfl rfl (.cons rfl rfl (.cons rfl (Ur _ _ _ _ (a0n 3)) (.cons rfl rfl .nil))))))) (.live rfl (.live (Bp _ _) (p2m (Ac _ _) .nil _))) ?_
 intro i hi
 by_cases hik:i<k
 ·have h1:(i:Int)<(hg.length:Nat):=by omega
  obtain⟨q,hq⟩:=A2 (l:=c.cues) (k:=i) (by omega)
  have hb:hg[((i:Nat):Int).toNat]?=some (A1 (hgI c.cues q)):=by rw[a0q];exact hhg i q hq
  have hd1:=J8 (Ic (n:=c.cues.length) hik)
  repeat' first|refine WY ?_|(apply S.indexO (o2:=i);(iterate 4 exact rfl);omega;omega)|refine Zb8 hd1 ?_|refine V ?_|refine W2 ?_ ?_<;>intro hc
  all_goals exact Next.go (i+1) (by omega) (by omega) (.cons rfl rfl (.cons rfl rfl (.cons rfl rfl (.cons rfl rfl (.cons rfl rfl (.cons rfl (Ur _ _ _ _ (a0n 3)) (.cons rfl rfl .nil))))))) (.live rfl (.live (Bp _ _) (p2m (Ac _ _) .nil _)))
 ·obtain rfl:i=k:=by omega
  by_cases hkn:i<c.cues.length
  ·have h1:(i:Int)<(hg.length:Nat):=by omega
   obtain⟨q,hq⟩:=A2 (l:=c.cues) (k:=i) hkn
   obtain⟨_,_,_,_,_,q6⟩:=lk i q hq
   have hb:hg[((i:Nat):Int).toNat]?=some (A1 (hgI c.cues q)):=by rw[a0q];exact hhg i q hq
   have hd1:=J8 (Afy (n:=c.cues.length) hkn)
   have hdl:=A17 (n:=c.cues.length) (k:=i) (by omega)
   by_cases hm:q.link=1
   ·rw[show hgI c.cues q= -1 from if_pos hm]at hb
    have hni:¬(i:Int)<0:=by omega
    have hneg:(-1:Int)<0:=by decide
    rcases a3e i with h0|hpos
    ·try(exfalso;omega)
     all_goals rw[show rT 2 1 i=.val (.slice none 0 0) by rw[h0];rfl,show rB (A7 (upL i)) i=.dead by rw[h0];rfl]
     repeat' first|refine WY ?_|(apply S.indexO (o2:=i);(iterate 4 exact rfl);omega;omega)|refine Zb8 hd1 ?_|(apply p2i;(iterate 3 exact rfl);omega)|refine Zb0 ?_|(apply p0q 2 (rows:=[]);(iterate 4 exact rfl);exact Nq c.row _ .dead rfl;(iterate 3 exact rfl);exact A9 rfl;exact rfl;exact a0c rfl;exact a0c rfl)|refine V ?_|refine W2 ?_ ?_<;>intro hc
     all_goals exact Next.go (i+1) (by omega) (by omega) (.cons rfl rfl (.cons rfl rfl (.cons (by rw[h0];rfl) rfl .nil))) (by rw[<-Jr hkn,h0];exact .live rfl (.live (Bp _ _) (.live rfl .nil)))
    ·rw[Gf hpos,Ge hpos]
     have hul:(A7 (upL i)).length=i*1:=by rw[C8,J2,a4g]
     have hus:A7 (upL (i+1))=A7 (upL i)++([A1 (i:Int)].flatten).map AV.lf:=by rw[V2];simp[A7]
     repeat' first|refine WY ?_|(apply S.indexO (o2:=i);(iterate 4 exact rfl);omega;omega)|refine Zb8 hd1 ?_|(apply p2i;(iterate 3 exact rfl);omega)|refine Zb0 ?_|(apply p0h;(iterate 4 exact rfl);exact Nq c.row _ (.live _) rfl;(iterate 3 exact rfl);exact hul;exact A9 rfl;exact rfl;exact Aj _ _;simp only[a0j,a0m];omega;simp only[a0j,a0m];omega)|refine V ?_|refine W2 ?_ ?_<;>intro hc
     all_goals exact Next.go (i+1) (by omega) (by omega) CW (by rw[<-Jr hkn];show CovH _ _ [_,_,.live (A7 (upL (i+1)))];rw[hus];exact .live rfl (.live (Bp _ _) (.live (by rw[<-a1f];exact Ac _ _) .nil)))
   ·obtain⟨a1,a2⟩:=q6 hm
    rw[show hgI c.cues q=_ from(if_neg hm).trans a1]at hb
    have hd2:=J8 (Ic (n:=c.cues.length) a2)
    have hnn:¬(D6 c.cues q:Int)<0:=by omega
    generalize D6 c.cues q=z at*
    have hni:¬(i:Int)<0:=by omega
    have hneg:(-1:Int)<0:=by decide
    rcases a3e i with h0|hpos
    ·try(exfalso;omega)
     all_goals rw[show rT 2 1 i=.val (.slice none 0 0) by rw[h0];rfl,show rB (A7 (upL i)) i=.dead by rw[h0];rfl]
     repeat' first|refine WY ?_|(apply S.indexO (o2:=z);(iterate 4 exact rfl);omega;omega)|(apply S.indexO (o2:=i);(iterate 4 exact rfl);omega;omega)|refine Zb8 hd1 ?_|refine Zb8 hd2 ?_|(apply p2i;(iterate 3 exact rfl);omega)|refine Zb0 ?_|(apply p0q 2 (rows:=[]);(iterate 4 exact rfl);exact Nq c.row _ .dead rfl;(iterate 3 exact rfl);exact A9 rfl;exact rfl;exact a0c rfl;exact a0c rfl)|refine V ?_|refine W2 ?_ ?_<;>intro hc
     all_goals exact Next.go (i+1) (by omega) (by omega) (.cons rfl rfl (.cons rfl rfl (.cons (by rw[h0];rfl) rfl .nil))) (by rw[<-Jr hkn,h0];exact .live rfl (.live (Bp _ _) (.live rfl .nil)))
    ·rw[Gf hpos,Ge hpos]
     have hul:(A7 (upL i)).length=i*1:=by rw[C8,J2,a4g]
     have hus:A7 (upL (i+1))=A7 (upL i)++([A1 (i:Int)].flatten).map AV.lf:=by rw[V2];simp[A7]
     repeat' first|refine WY ?_|(apply S.indexO (o2:=z);(iterate 4 exact rfl);omega;omega)|(apply S.indexO (o2:=i);(iterate 4 exact rfl);omega;omega)|refine Zb8 hd1 ?_|refine Zb8 hd2 ?_|(apply p2i;(iterate 3 exact rfl);omega)|refine Zb0 ?_|(apply p0h;(iterate 4 exact rfl);exact Nq c.row _ (.live _) rfl;(iterate 3 exact rfl);exact hul;exact A9 rfl;exact rfl;exact Aj _ _;simp only[a0j,a0m];omega;simp only[a0j,a0m];omega)|refine V ?_|refine W2 ?_ ?_<;>intro hc
     all_goals exact Next.go (i+1) (by omega) (by omega) CW (by rw[<-Jr hkn];show CovH _ _ [_,_,.live (A7 (upL (i+1)))];rw[hus];exact .live rfl (.live (Bp _ _) (.live (by rw[<-a1f];exact Ac _ _) .nil)))
  ·have h1:¬(i:Int)<(hg.length:Nat):=by omega
   have hneg:(-1:Int)<0:=by decide
   obtain rfl:i=c.cues.length:=by omega
   refine p2d 5 2 (rows:=(upL c.cues.length).map A1) (Cd _) (by rw[a0e,J2]) rfl rfl ?_
   repeat' first|refine WX ?_|refine W2 ?_ ?_<;>intro hc
   exact E5 (by simp) Tryz.results194 rfl (.one (.one (.lf _)))
noncomputable def srL(l:List CueR)(L G:List Int):List Int:=if stE l L G=0 then stK l L G l.length else[]
theorem A1u(h:HouseR)(c:SheetR)(v:validP h c)(hc:c.fits)(L G:List Int)(hL:L.length<=1000)(hG:G.length<=4611686018427387904):Fz 113 [A0 c.row,.sl (L.map A1),.sl (G.map A1)] (.tup [.sl ((srL c.cues L G).map A1),.i (stE c.cues L G)]):=by
 have cl:=Qz h c v hc
 have lk:=v.lk
 have h60:c.cues.length<=60:=by have:=v.2.1;omega
 have co:=A42 c lk h60
 have hle:=lmA c.cues CueR.row
 have hll:=lmA L A1
 have hlg:=lmA G A1
 have hlu:((upL c.cues.length).map A1).length=c.cues.length:=by rw[a0e,J2]
 have w1:=Jo L Ep 193 (by omega) Tj
 have w2:=Jo G Ep 193 (by omega) Tj
 rw[show decide (∃x∈L,Ep x)=decide (Et L)from decide_eq_decide.2 Iff.rfl]at w1
 rw[show decide (∃x∈G,Ep x)=decide (Et G)from decide_eq_decide.2 Iff.rfl]at w2
 unfold srL stE
 by_cases e1:L.length≠c.cues.length\/G.length≠B6 c.cues
 ·rw[if_pos e1,if_neg (by decide)]
  skip
  refine Fo a8t ?_
  repeat' first|refine WX ?_|refine W2 ?_ ?_<;>intro hc
  refine p0c (fun k=>k<=c.cues.length) (fun k=>c.cues.length-k) (fun k=>[(27,.i k),(26,.i (c.cues.map CueR.row).length),(25,.sl (c.cues.map CueR.row)),(8,.i (B6 (c.cues.take k))),(3,.ptr 0 0),(1,.sl (L.map A1)),(2,.sl (G.map A1))]) (fun _=>[.live (c.row.map .lf)]) 0 (a0k _) CW (.live rfl .nil) ?_
  intro k hk
  by_cases hlt:k<c.cues.length
  ·have h1:(k:Int)<((c.cues.map CueR.row).length:Nat):=by omega
   obtain⟨q,hq⟩:=A2 hlt
   have hb:=A3 (R:=CueR.row) hq
   have hm60:B6 (c.cues.take k)<=60:=a2d (Iv _) (by rw[a0x];omega)
   repeat' first|refine WX ?_|refine W2 ?_ ?_<;>intro hc
   all_goals first
    |exact Next.go (k+1) (by omega) (by omega) (.cons rfl rfl (.cons rfl rfl (.cons rfl rfl (.cons (by rw[H1 hq (by assumption)];rfl) rfl CW)))) (.live rfl .nil)
    |exact Next.go (k+1) (by omega) (by omega) (.cons rfl rfl (.cons rfl rfl (.cons rfl rfl (.cons (by rw[Jx hq (by assumption)];rfl) rfl CW)))) (.live rfl .nil)
  have h1:¬(k:Int)<((c.cues.map CueR.row).length:Nat):=by omega
  obtain rfl:k=c.cues.length:=by omega
  rw[a1l]
  repeat' first|refine W ?_|refine Zb7 ?_|refine V ?_|refine W2 ?_ ?_<;>intro hc
  all_goals first
   |exact D2 rfl rfl rfl
   |(exfalso;omega)
   |skip
 ·rw[if_neg e1]
  by_cases e2:Et L\/Et G
  ·rw[if_pos e2,if_neg (by decide)]
   by_cases e3:Et L
   ·rw[decide_eq_true e3]at w1
    skip
    refine Fo a8t ?_
    repeat' first|refine WX ?_|refine W2 ?_ ?_<;>intro hc
    refine p0c (fun k=>k<=c.cues.length) (fun k=>c.cues.length-k) (fun k=>[(27,.i k),(26,.i (c.cues.map CueR.row).length),(25,.sl (c.cues.map CueR.row)),(8,.i (B6 (c.cues.take k))),(3,.ptr 0 0),(1,.sl (L.map A1)),(2,.sl (G.map A1))]) (fun _=>[.live (c.row.map .lf)]) 0 (a0k _) CW (.live rfl .nil) ?_
    intro k hk
    by_cases hlt:k<c.cues.length
    ·have h1:(k:Int)<((c.cues.map CueR.row).length:Nat):=by omega
     obtain⟨q,hq⟩:=A2 hlt
     have hb:=A3 (R:=CueR.row) hq
     have hm60:B6 (c.cues.take k)<=60:=a2d (Iv _) (by rw[a0x];omega)
     repeat' first|refine WX ?_|refine W2 ?_ ?_<;>intro hc
     all_goals first
      |exact Next.go (k+1) (by omega) (by omega) (.cons rfl rfl (.cons rfl rfl (.cons rfl rfl (.cons (by rw[H1 hq (by assumption)];rfl) rfl CW)))) (.live rfl .nil)
      |exact Next.go (k+1) (by omega) (by omega) (.cons rfl rfl (.cons rfl rfl (.cons rfl rfl (.cons (by rw[Jx hq (by assumption)];rfl) rfl CW)))) (.live rfl .nil)
    have h1:¬(k:Int)<((c.cues.map CueR.row).length:Nat):=by omega
    obtain rfl:k=c.cues.length:=by omega
    rw[a1l]
    repeat' first|refine WY ?_|refine Zb7 ?_|refine V ?_|refine W2 ?_ ?_<;>intro hc
    all_goals first
     |exact D2 rfl rfl rfl
     |(exfalso;omega)
   ·rw[decide_eq_false e3]at w1
    rw[decide_eq_true (e2.resolve_left e3)]at w2
    skip
    refine Fo a8t ?_
    repeat' first|refine WX ?_|refine W2 ?_ ?_<;>intro hc
    refine p0c (fun k=>k<=c.cues.length) (fun k=>c.cues.length-k) (fun k=>[(27,.i k),(26,.i (c.cues.map CueR.row).length),(25,.sl (c.cues.map CueR.row)),(8,.i (B6 (c.cues.take k))),(3,.ptr 0 0),(1,.sl (L.map A1)),(2,.sl (G.map A1))]) (fun _=>[.live (c.row.map .lf)]) 0 (a0k _) CW (.live rfl .nil) ?_
    intro k hk
    by_cases hlt:k<c.cues.length
    ·have h1:(k:Int)<((c.cues.map CueR.row).length:Nat):=by omega
     obtain⟨q,hq⟩:=A2 hlt
     have hb:=A3 (R:=CueR.row) hq
     have hm60:B6 (c.cues.take k)<=60:=a2d (Iv _) (by rw[a0x];omega)
     repeat' first|refine WX ?_|refine W2 ?_ ?_<;>intro hc
     all_goals first
      |exact Next.go (k+1) (by omega) (by omega) (.cons rfl rfl (.cons rfl rfl (.cons rfl rfl (.cons (by rw[H1 hq (by assumption)];rfl) rfl CW)))) (.live rfl .nil)
      |exact Next.go (k+1) (by omega) (by omega) (.cons rfl rfl (.cons rfl rfl (.cons rfl rfl (.cons (by rw[Jx hq (by assumption)];rfl) rfl CW)))) (.live rfl .nil)
    have h1:¬(k:Int)<((c.cues.map CueR.row).length:Nat):=by omega
    obtain rfl:k=c.cues.length:=by omega
    rw[a1l]
    repeat' first|refine WY ?_|refine Zb7 ?_|refine V ?_|refine W2 ?_ ?_<;>intro hc
    all_goals first
     |exact D2 rfl rfl rfl
     |(exfalso;omega)
  ·rw[if_neg e2,if_pos rfl]
   have e3:¬Et L:=fun k=>e2 (.inl k)
   have e4:¬Et G:=fun k=>e2 (.inr k)
   rw[decide_eq_false e3]at w1
   rw[decide_eq_false e4]at w2
   have g1:((L.map A1).length:Int)=((c.cues.map CueR.row).length:Nat):=by omega
   have g2:((G.map A1).length:Int)=(B6 c.cues:Nat):=by omega
   have g3:¬(((upL c.cues.length).map A1).length:Int)<((c.cues.map CueR.row).length:Nat):=by omega
   have n1:¬¬((L.map A1).length:Int)=((c.cues.map CueR.row).length:Nat):=fun k=>k g1
   have n2:¬¬((G.map A1).length:Int)=(B6 c.cues:Nat):=fun k=>k g2
   by_cases e5:c.cues.length=0
   ·have hs0:stK c.cues L G c.cues.length=[]:=by rw[e5];rfl
    rw[hs0]
    have z0:(((upL c.cues.length).map A1).length:Int)=0:=by omega
    skip
    refine Fo a8t ?_
    repeat' first|refine WX ?_|refine W2 ?_ ?_<;>intro hc
    refine p0c (fun k=>k<=c.cues.length) (fun k=>c.cues.length-k) (fun k=>[(27,.i k),(26,.i (c.cues.map CueR.row).length),(25,.sl (c.cues.map CueR.row)),(8,.i (B6 (c.cues.take k))),(3,.ptr 0 0),(1,.sl (L.map A1)),(2,.sl (G.map A1))]) (fun _=>[.live (c.row.map .lf)]) 0 (a0k _) CW (.live rfl .nil) ?_
    intro k hk
    by_cases hlt:k<c.cues.length
    ·have h1:(k:Int)<((c.cues.map CueR.row).length:Nat):=by omega
     obtain⟨q,hq⟩:=A2 hlt
     have hb:=A3 (R:=CueR.row) hq
     have hm60:B6 (c.cues.take k)<=60:=a2d (Iv _) (by rw[a0x];omega)
     repeat' first|refine WX ?_|refine W2 ?_ ?_<;>intro hc
     all_goals first
      |exact Next.go (k+1) (by omega) (by omega) (.cons rfl rfl (.cons rfl rfl (.cons rfl rfl (.cons (by rw[H1 hq (by assumption)];rfl) rfl CW)))) (.live rfl .nil)
      |exact Next.go (k+1) (by omega) (by omega) (.cons rfl rfl (.cons rfl rfl (.cons rfl rfl (.cons (by rw[Jx hq (by assumption)];rfl) rfl CW)))) (.live rfl .nil)
    have h1:¬(k:Int)<((c.cues.map CueR.row).length:Nat):=by omega
    obtain rfl:k=c.cues.length:=by omega
    rw[a1l]
    repeat' first|refine WY ?_|refine Zb7 ?_|refine V ?_|refine W2 ?_ ?_<;>intro hc
    all_goals exact D2 rfl rfl rfl
   ·have z0:¬(((upL c.cues.length).map A1).length:Int)=0:=by omega
    have hrep:List.replicate ((upL c.cues.length).map A1).length (AV.val (.int .i64 0))=iA (Ih c.cues G 0):=by
     rw[hlu];simp[Ih,fsK,iA]
    skip
    refine Fo a8t ?_
    repeat' first|refine WX ?_|refine W2 ?_ ?_<;>intro hc
    refine p0c (fun k=>k<=c.cues.length) (fun k=>c.cues.length-k) (fun k=>[(27,.i k),(26,.i (c.cues.map CueR.row).length),(25,.sl (c.cues.map CueR.row)),(8,.i (B6 (c.cues.take k))),(3,.ptr 0 0),(1,.sl (L.map A1)),(2,.sl (G.map A1))]) (fun _=>[.live (c.row.map .lf)]) 0 (a0k _) CW (.live rfl .nil) ?_
    intro k hk
    by_cases hlt:k<c.cues.length
    ·have h1:(k:Int)<((c.cues.map CueR.row).length:Nat):=by omega
     obtain⟨q,hq⟩:=A2 hlt
     have hb:=A3 (R:=CueR.row) hq
     have hm60:B6 (c.cues.take k)<=60:=a2d (Iv _) (by rw[a0x];omega)
     repeat' first|refine WX ?_|refine W2 ?_ ?_<;>intro hc
     all_goals first
      |exact Next.go (k+1) (by omega) (by omega) (.cons rfl rfl (.cons rfl rfl (.cons rfl rfl (.cons (by rw[H1 hq (by assumption)];rfl) rfl CW)))) (.live rfl .nil)
      |exact Next.go (k+1) (by omega) (by omega) (.cons rfl rfl (.cons rfl rfl (.cons rfl rfl (.cons (by rw[Jx hq (by assumption)];rfl) rfl CW)))) (.live rfl .nil)
    have h1:¬(k:Int)<((c.cues.map CueR.row).length:Nat):=by omega
    obtain rfl:k=c.cues.length:=by omega
    rw[a1l]
    repeat' first|refine WY ?_|(apply p3c (n:=((upL c.cues.length).map A1).length);(iterate 3 exact rfl);omega;exact rfl;exact rfl)|refine V ?_|refine W2 ?_ ?_<;>intro hc
    rw[hrep]
    refine p0c (fun k=>k<=c.cues.length) (fun k=>c.cues.length-k) (fun k=>[(76,.i k),(75,.i (c.cues.map CueR.row).length),(74,.sl (c.cues.map CueR.row)),(13,.own 1 0 ((upL c.cues.length).map A1).length 1),(12,.sl ((upL c.cues.length).map A1)),(3,.ptr 0 0),(1,.sl (L.map A1)),(2,.sl (G.map A1)),(14,.i (B6 (c.cues.take k)))]) (fun k=>[.live (c.row.map .lf),.live (iA (Ih c.cues G k))]) 0 (a0k _) CW (.live rfl (.live (El _ _) .nil)) ?_
    intro k hk
    by_cases hlt:k<c.cues.length
    ·have h1:(k:Int)<((c.cues.map CueR.row).length:Nat):=by omega
     obtain⟨q,hq⟩:=A2 hlt
     have hb:=A3 (R:=CueR.row) hq
     have hfl:=Adb c.cues G hk
     obtain⟨_,_,q3,_,_,_⟩:=lk k q hq
     by_cases hm:q.link=1
     ·have hml:=A5l hq hm
      have hmg:B6 (c.cues.take k)<G.length:=by omega
      have hml60:B6 c.cues<=60:=a2d (Iv _) h60
      obtain⟨g,hg⟩:=A2 hmg
      have hbg:=A3 (R:=A1) hg
      have hgD:G.getD (B6 (c.cues.take k)) 0=g:=by rw[a0i,hg];rfl
      have hgr:=G3 e4 (B6 (c.cues.take k))
      rw[hgD]at hgr
      have hset:=Adc (G:=G) hq hm
      rw[hgD]at hset
      have hmy:=H1 hq hm
      generalize B6 (c.cues.take k)=mk at*
      repeat' first|refine WY ?_|refine Dw 10 ?_|refine Dv 10 ?_|(apply S.indexO (o2:=k);(iterate 4 exact rfl);omega;omega)|(apply p2j;(iterate 3 exact rfl);first|omega|(rw[a6a];omega))|refine V ?_|refine W2 ?_ ?_<;>intro hc
      all_goals exact Next.go (k+1) (by omega) (by omega) (.cons rfl rfl (.cons rfl rfl (.cons rfl rfl (.cons rfl rfl (.cons rfl rfl (.cons rfl rfl (.cons rfl rfl (.cons rfl rfl (.cons (by rw[hmy];rfl) rfl .nil))))))))) (by rw[<-hset];exact .live rfl (.live (El _ _) .nil))
     ·repeat' first|refine WX ?_|refine W2 ?_ ?_<;>intro hc
      all_goals exact Next.go (k+1) (by omega) (by omega) (.cons rfl rfl (.cons rfl rfl (.cons rfl rfl (.cons rfl rfl (.cons rfl rfl (.cons rfl rfl (.cons rfl rfl (.cons rfl rfl (.cons (by rw[Jx hq hm];rfl) rfl .nil))))))))) (by rw[Ag3 hq hm];exact .live rfl (.live (El _ _) .nil))
    have h1:¬(k:Int)<((c.cues.map CueR.row).length:Nat):=by omega
    obtain rfl:k=c.cues.length:=by omega
    rw[A9v c.cues L G]
    repeat' first|refine WX ?_|refine W2 ?_ ?_<;>intro hc
    refine p0c (fun k=>k<=c.cues.length) (fun k=>c.cues.length-k) (fun k=>[(99,.i k),(98,.i ((upL c.cues.length).map A1).length),(97,.sl ((upL c.cues.length).map A1)),(13,.own 1 0 ((upL c.cues.length).map A1).length 1),(3,.ptr 0 0),(1,.sl (L.map A1))]) (fun k=>[.live (c.row.map .lf),.live (iA (Fm c.cues L G k))]) 0 (a0k _) CW (.live rfl (.live (El _ _) .nil)) ?_
    intro k hk
    by_cases hlt:k<c.cues.length
    ·have h1:(k:Int)<(((upL c.cues.length).map A1).length:Nat):=by omega
     obtain⟨q,hq⟩:=A2 hlt
     have hb:=A3 (R:=CueR.row) hq
     have hbu:=A3 (R:=A1) (Acn hlt)
     have hfl:=Adp c.cues L G hk
     obtain⟨_,_,q3,_,_,q6⟩:=lk k q hq
     by_cases hm:q.link=1
     ·repeat' first|refine WX ?_|refine W2 ?_ ?_<;>intro hc
      all_goals exact Next.go (k+1) (by omega) (by omega) CW (by rw[Adq hq hm];exact .live rfl (.live (El _ _) .nil))
     ·obtain⟨a1,a2⟩:=q6 hm
      have ca:=Hp c q.after (by omega)
      rw[a1]at ca
      have hS:=A0k (Agc (l:=c.cues) (L:=L) (G:=G) a2)
      have hbd:=Nc lk e3 e4 k _ a2
      have hset:=Adr c.cues L G hlt
      have hLr:=G3 e3 (D6 c.cues q)
      obtain⟨lz,hlz⟩:=A2 (l:=L) (k:=D6 c.cues q) (by omega)
      have hbl:=A3 (R:=A1) hlz
      have hLD:L.getD (D6 c.cues q) 0=lz:=by rw[a0i,hlz];rfl
      rw[hLD]at hLr
      have hk60:(k:Int)*4294967296<=60*4294967296:=by omega
      by_cases hf:q.link=2
      ·have hv:stV c.cues L G (stK c.cues L G k) k=(stK c.cues L G k).getD (D6 c.cues q) 0+q.delay+lz:=by unfold stV;rw[hq];simp only[hm,hf,if_false,if_true,hLD];rfl
       rw[hv]at hset
       generalize(stK c.cues L G k).getD (D6 c.cues q) 0=s0 at*
       generalize D6 c.cues q=z at*
       have hS2:=A0k (a5w (l:=Fm c.cues L G k) (i:=k) (a:=s0+q.delay) (by omega))
       repeat' first|refine WY ?_|refine Dw 10 ?_|refine Dv 10 ?_|(apply S.indexO (o2:=z);(iterate 4 exact rfl);omega;omega)|(apply S.indexO (o2:=k);(iterate 4 exact rfl);omega;omega)|refine Zb8 hS ?_|refine Zb8 hS2 ?_|(apply p2j;(iterate 3 exact rfl);first|omega|(rw[a6a];omega))|refine V ?_|refine W2 ?_ ?_<;>intro hc
       all_goals exact Next.go (k+1) (by omega) (by omega) CW (by rw[show Fm c.cues L G (k+1)=((Fm c.cues L G k).set k (s0+q.delay)).set k (s0+q.delay+lz) by rw[List.set_set,hset]];exact .live rfl (.live (El _ _) .nil))
      ·have hv:stV c.cues L G (stK c.cues L G k) k=(stK c.cues L G k).getD (D6 c.cues q) 0+q.delay:=by unfold stV;rw[hq];simp only[hm,hf,if_false]
       rw[hv]at hset
       generalize(stK c.cues L G k).getD (D6 c.cues q) 0=s0 at*
       generalize D6 c.cues q=z at*
       repeat' first|refine WY ?_|refine Dw 10 ?_|refine Dv 10 ?_|(apply S.indexO (o2:=z);(iterate 4 exact rfl);omega;omega)|(apply S.indexO (o2:=k);(iterate 4 exact rfl);omega;omega)|refine Zb8 hS ?_|(apply p2j;(iterate 3 exact rfl);first|omega|(rw[a6a];omega))|refine V ?_|refine W2 ?_ ?_<;>intro hc
       all_goals exact Next.go (k+1) (by omega) (by omega) CW (by rw[<-hset];exact .live rfl (.live (El _ _) .nil))
    have h1:¬(k:Int)<(((upL c.cues.length).map A1).length:Nat):=by omega
    obtain rfl:k=c.cues.length:=by omega
    rw[Aab c.cues L G]
    have hown:OwnRows (iA (stK c.cues L G c.cues.length)) 0 ((upL c.cues.length).map A1).length 1 ((stK c.cues L G c.cues.length).map A1):=by
     have:=Aan (stK c.cues L G c.cues.length)
     rw[Dk]at this
     rw[hlu]
     exact this
    refine T.freeze 13 rfl rfl hown ?_
    repeat' first|refine WX ?_|refine W2 ?_ ?_<;>intro hc
    exact D2 rfl rfl rfl
end Go.Proofs.YtcaicpnepfjcmaaGreat
