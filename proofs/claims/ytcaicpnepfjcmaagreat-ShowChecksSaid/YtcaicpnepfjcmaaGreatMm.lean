/- Lemmas of the proof. -/
import Derived.Test.YtcaicpnepfjcmaaGreatMk
set_option linter.all false
set_option maxHeartbeats 64000000
namespace Go.Proofs.YtcaicpnepfjcmaaGreat
open Go Go.RowKit
def a2c:= @Int.mul_nonneg
def a3c:= @Nat.pow_succ
def a3q:= @Int.mul_le_mul_of_nonneg_right
def a3w:= @Int.mul_le_mul
def a9v:= @Int.zero_mul
def b0h:= @Int.natCast_zero
def b1e:= @Int.ofNat_zero
/-! ### What is small -/
def Wu(s:SetR)(n:Int):Prop:=(s.name.size:Int)<=60/\(s.lines.length:Int)<=12/\¬(n<s.items.length/\(s.items.length:Int)<=40)/\(s.items.length:Int)<=45/\(s.bricks.length:Int)<=10/\(∀x∈s.items,(x.name.size:Int)<=60)/\∀x∈s.bricks,(x.name.size:Int)<=60
noncomputable instance (s:SetR)(n:Int):Decidable (Wu s n):=Classical.propDecidable _
theorem Ab3(s:SetR)(n:Int)(hf:s.fits):Fz 45 [A0 s.row,.i n] (.b (decide (Wu s n))):=by
 have hle:=lmA s.lines A1
 have hle2:=lmA s.items ItemR.row
 have hle3:=lmA s.bricks BrickR.row
 refine Fo Tryz.func45 ?_
 repeat' first|refine WX ?_|refine W2 ?_ ?_<;>intro hc
 all_goals first
  |exact Dd rfl rfl (congrArg Value.bool (decide_eq_false (fun h=>by
   obtain⟨g1,g2,g3,g4,g5,_⟩:=h
   omega)).symm)
  |skip
 all_goals
  refine p0c (fun k=>k<=s.items.length/\∀x∈s.items.take k,(x.name.size:Int)<=60) (fun k=>s.items.length-k) (fun k=>[(5,.i k),(2,.ptr 0 0)]) (fun _=>[.live (s.row.map .lf)]) 0 ⟨a0k _,by simp⟩ CV (.live rfl .nil) ?_
  rintro k ⟨hk,hok⟩
  by_cases hlt:k<s.items.length
  ·have h1:(k:Int)<((s.items.map ItemR.row).length:Nat):=by omega
   obtain⟨x,hx⟩:=A2 hlt
   have hb:=A3 (R:=ItemR.row) hx
   have hsn:=Ad hx
   have hmem:x∈s.items:=a0a hx
   repeat' first|refine WX ?_|refine W2 ?_ ?_<;>intro hc
   all_goals first
    |exact Next.go (k+1) ⟨by omega,by rw[hsn];intro y hy;rcases a0p.1 hy with hy|hy;exact hok y hy;obtain rfl:y=x:=(by simpa using hy);omega⟩ (by omega) CV (.live rfl .nil)
    |exact Dd rfl rfl (congrArg Value.bool (decide_eq_false (fun h=>by have:=h.2.2.2.2.2.1 x hmem;omega)).symm)
  ·have h1:¬(k:Int)<((s.items.map ItemR.row).length:Nat):=by omega
   have hk2:s.items.take k=s.items:=a0g (by omega)
   rw[hk2]at hok
   repeat' first|refine WX ?_|refine W2 ?_ ?_<;>intro hc
   refine p0c (fun k=>k<=s.bricks.length/\∀x∈s.bricks.take k,(x.name.size:Int)<=60) (fun k=>s.bricks.length-k) (fun k=>[(6,.i k),(2,.ptr 0 0)]) (fun _=>[.live (s.row.map .lf)]) 0 ⟨a0k _,by simp⟩ CV (.live rfl .nil) ?_
   rintro k ⟨hk,hok2⟩
   by_cases hlt2:k<s.bricks.length
   ·have h1:(k:Int)<((s.bricks.map BrickR.row).length:Nat):=by omega
    obtain⟨x,hx⟩:=A2 hlt2
    have hb:=A3 (R:=BrickR.row) hx
    have hsn:=Ad hx
    have hmem:x∈s.bricks:=a0a hx
    repeat' first|refine WX ?_|refine W2 ?_ ?_<;>intro hc
    all_goals first
     |exact Next.go (k+1) ⟨by omega,by rw[hsn];intro y hy;rcases a0p.1 hy with hy|hy;exact hok2 y hy;obtain rfl:y=x:=(by simpa using hy);omega⟩ (by omega) CV (.live rfl .nil)
     |exact Dd rfl rfl (congrArg Value.bool (decide_eq_false (fun h=>by have:=h.2.2.2.2.2.2 x hmem;omega)).symm)
   ·have h1:¬(k:Int)<((s.bricks.map BrickR.row).length:Nat):=by omega
    have hk2:s.bricks.take k=s.bricks:=a0g (by omega)
    rw[hk2]at hok2
    repeat' first|refine WX ?_|refine W2 ?_ ?_<;>intro hc
    exact Dd rfl rfl (congrArg Value.bool (decide_eq_true ⟨by omega,by omega,by omega,by omega,by omega,hok,hok2⟩).symm)
def Rn(h:HouseR)(n:Int):Prop:=(h.sets.length:Int)<=n/\(h.roofs.length:Int)<=n+10/\(h.name.size:Int)<=60/\(∀s∈h.sets,Wu s 8)/\∀x∈h.roofs,(x.name.size:Int)<=60
noncomputable instance (h:HouseR)(n:Int):Decidable (Rn h n):=Classical.propDecidable _
theorem Ab6(h:HouseR)(n:Int)(hn:0<=n/\n<=100)(hf:h.fits):Fz 19 [A0 h.row,.i n] (.b (decide (Rn h n))):=by
 obtain⟨hf1,hf2,hf3⟩:=hf
 have hle:=lmA h.sets SetR.row
 have hle2:=lmA h.roofs RoofR.row
 refine Fo Tryz.func19 ?_
 repeat' first|refine WX ?_|refine W2 ?_ ?_<;>intro hc
 all_goals first
  |exact Dd rfl rfl (congrArg Value.bool (decide_eq_false (fun h=>by
   obtain⟨g1,g2,g3,_⟩:=h
   omega)).symm)
  |skip
 refine p0c (fun k=>k<=h.sets.length/\∀x∈h.sets.take k,Wu x 8) (fun k=>h.sets.length-k) (fun k=>[(5,.i k),(2,.ptr 0 0)]) (fun _=>[.live (h.row.map .lf)]) 0 ⟨a0k _,by simp⟩ CV (.live rfl .nil) ?_
 rintro k ⟨hk,hok⟩
 by_cases hlt:k<h.sets.length
 ·have h1:(k:Int)<((h.sets.map SetR.row).length:Nat):=by omega
  obtain⟨x,hx⟩:=A2 hlt
  have hb:=A3 (R:=SetR.row) hx
  have hsn:=Ad hx
  have hmem:x∈h.sets:=a0a hx
  repeat' first|refine WY ?_|refine Zb5 ?_|refine Zbi (Ab3 x 8 (hf3 x hmem)) ?_|refine V ?_|refine W2 ?_ ?_<;>intro hc
  all_goals first
   |exact Next.go (k+1) ⟨by omega,by rw[hsn];intro y hy;rcases a0p.1 hy with hy|hy;exact hok y hy;obtain rfl:y=x:=(by simpa using hy);assumption⟩ (by omega) CV (.live rfl .nil)
   |exact Dd rfl rfl (congrArg Value.bool (decide_eq_false (fun h=>absurd (h.2.2.2.1 x hmem) (by assumption))).symm)
 ·have h1:¬(k:Int)<((h.sets.map SetR.row).length:Nat):=by omega
  have hk2:h.sets.take k=h.sets:=a0g (by omega)
  rw[hk2]at hok
  repeat' first|refine WX ?_|refine W2 ?_ ?_<;>intro hc
  refine p0c (fun k=>k<=h.roofs.length/\∀x∈h.roofs.take k,(x.name.size:Int)<=60) (fun k=>h.roofs.length-k) (fun k=>[(6,.i k),(2,.ptr 0 0)]) (fun _=>[.live (h.row.map .lf)]) 0 ⟨a0k _,by simp⟩ CV (.live rfl .nil) ?_
  rintro k ⟨hk,hok2⟩
  by_cases hlt2:k<h.roofs.length
  ·have h1:(k:Int)<((h.roofs.map RoofR.row).length:Nat):=by omega
   obtain⟨x,hx⟩:=A2 hlt2
   have hb:=A3 (R:=RoofR.row) hx
   have hsn:=Ad hx
   have hmem:x∈h.roofs:=a0a hx
   repeat' first|refine WX ?_|refine W2 ?_ ?_<;>intro hc
   all_goals first
    |exact Next.go (k+1) ⟨by omega,by rw[hsn];intro y hy;rcases a0p.1 hy with hy|hy;exact hok2 y hy;obtain rfl:y=x:=(by simpa using hy);omega⟩ (by omega) CV (.live rfl .nil)
    |exact Dd rfl rfl (congrArg Value.bool (decide_eq_false (fun h=>by have:=h.2.2.2.2 x hmem;omega)).symm)
  ·have h1:¬(k:Int)<((h.roofs.map RoofR.row).length:Nat):=by omega
   have hk2:h.roofs.take k=h.roofs:=a0g (by omega)
   rw[hk2]at hok2
   repeat' first|refine WX ?_|refine W2 ?_ ?_<;>intro hc
   exact Dd rfl rfl (congrArg Value.bool (decide_eq_true ⟨by omega,by omega,by omega,hok,hok2⟩).symm)
structure SheetR where
 cues:List CueR
 apart:List (ByteArray×ByteArray)
def Ah(p:ByteArray×ByteArray):List Lf:=[.s p.1,.s p.2]
def SheetR.row(c:SheetR):List Lf:=[.sl (c.cues.map CueR.row),.sl (c.apart.map Ah)]
def SheetR.fits(c:SheetR):Prop:=c.cues.length<=9223372036854775807/\c.apart.length<=9223372036854775807/\∀q∈c.cues,q.moves.length<=140737488355328
def Ac4(q:CueR)(n:Int):Prop:=(q.moves.length:Int)<=n/\(q.name.size:Int)<=60/\(q.after.size:Int)<=60/\∀m∈q.moves,(m.set.size:Int)<=60
def Rm(c:SheetR)(n:Int):Prop:=(c.cues.length:Int)<=n/\(c.apart.length:Int)<=2*n/\(∀q∈c.cues,Ac4 q n)/\∀p∈c.apart,(p.1.size:Int)<=60/\(p.2.size:Int)<=60
noncomputable instance (c:SheetR)(n:Int):Decidable (Rm c n):=Classical.propDecidable _
theorem Abc(c:SheetR)(n:Int)(hn:0<=n/\n<=100)(hf:c.fits):Fz 20 [A0 c.row,.i n] (.b (decide (Rm c n))):=by
 obtain⟨hf1,hf2,hf3⟩:=hf
 have hle:=lmA c.cues CueR.row
 have hle2:=lmA c.apart Ah
 refine Fo Tryz.func20 ?_
 repeat' first|refine WX ?_|refine W2 ?_ ?_<;>intro hc
 all_goals first
  |exact Dd rfl rfl (congrArg Value.bool (decide_eq_false (fun h=>by
   obtain⟨g1,g2,_⟩:=h
   omega)).symm)
  |skip
 refine p0c (fun k=>k<=c.cues.length/\∀q∈c.cues.take k,Ac4 q n) (fun k=>c.cues.length-k) (fun k=>[(5,.i k),(2,.ptr 0 0),(1,.i n)]) (fun _=>[.live (c.row.map .lf)]) 0 ⟨a0k _,by simp⟩ CV (.live rfl .nil) ?_
 rintro k ⟨hk,hok⟩
 by_cases hlt:k<c.cues.length
 ·have h1:(k:Int)<((c.cues.map CueR.row).length:Nat):=by omega
  obtain⟨q,hq⟩:=A2 hlt
  have hb:=A3 (R:=CueR.row) hq
  have hsn:=Ad hq
  have hmem:q∈c.cues:=a0a hq
  have hle3:=lmA q.moves MoveR.row
  repeat' first|refine WY ?_|refine Zb5 ?_|refine V ?_|refine W2 ?_ ?_<;>intro hc
  all_goals first
   |exact Dd rfl rfl (congrArg Value.bool (decide_eq_false (fun h=>by
    obtain⟨g1,g2,g3,_⟩:=h.2.2.1 q hmem
    omega)).symm)
   |skip
  refine p0c (fun j=>j<=q.moves.length/\∀m∈q.moves.take j,(m.set.size:Int)<=60) (fun j=>q.moves.length-j) (fun j=>[(7,.i j),(5,.i k),(2,.ptr 0 0),(6,.ptr 1 0),(1,.i n)]) (fun _=>[.live (c.row.map .lf),.live (q.row.map .lf)]) 0 ⟨a0k _,by simp⟩ CV CH ?_
  rintro j ⟨hj,hms⟩
  by_cases hjk:j<q.moves.length
  ·have h2:(j:Int)<((q.moves.map MoveR.row).length:Nat):=by omega
   obtain⟨m,hm⟩:=A2 hjk
   have hbm:=A3 (R:=MoveR.row) hm
   have hsj:=Ad hm
   have hmm:m∈q.moves:=a0a hm
   repeat' first|refine WX ?_|refine W2 ?_ ?_<;>intro hc
   all_goals first
    |exact Next.go (j+1) ⟨by omega,by rw[hsj];intro y hy;rcases a0p.1 hy with hy|hy;exact hms y hy;obtain rfl:y=m:=(by simpa using hy);omega⟩ (by omega) CV CH
    |exact Dd rfl rfl (congrArg Value.bool (decide_eq_false (fun h=>by have:=(h.2.2.1 q hmem).2.2.2 m hmm;omega)).symm)
  ·have h2:¬(j:Int)<((q.moves.map MoveR.row).length:Nat):=by omega
   have hj2:q.moves.take j=q.moves:=a0g (by omega)
   rw[hj2]at hms
   repeat' first|refine WX ?_|refine W2 ?_ ?_<;>intro hc
   exact Next.go (k+1) ⟨by omega,by rw[hsn];intro y hy;rcases a0p.1 hy with hy|hy;exact hok y hy;obtain rfl:y=q:=(by simpa using hy);exact⟨by omega,by omega,by omega,hms⟩⟩ (by omega) CV (.live rfl .nil)
 ·have h1:¬(k:Int)<((c.cues.map CueR.row).length:Nat):=by omega
  have hk2:c.cues.take k=c.cues:=a0g (by omega)
  rw[hk2]at hok
  repeat' first|refine WX ?_|refine W2 ?_ ?_<;>intro hc
  refine p0c (fun k=>k<=c.apart.length/\∀p∈c.apart.take k,(p.1.size:Int)<=60/\(p.2.size:Int)<=60) (fun k=>c.apart.length-k) (fun k=>[(8,.i k),(2,.ptr 0 0)]) (fun _=>[.live (c.row.map .lf)]) 0 ⟨a0k _,by simp⟩ CV (.live rfl .nil) ?_
  rintro k ⟨hk,hok2⟩
  by_cases hlt2:k<c.apart.length
  ·have h1:(k:Int)<((c.apart.map Ah).length:Nat):=by omega
   obtain⟨x,hx⟩:=A2 hlt2
   have hb:=A3 (R:=Ah) hx
   have hsn:=Ad hx
   have hmem:x∈c.apart:=a0a hx
   repeat' first|refine WY ?_|refine Zbq ?_|refine V ?_|refine W2 ?_ ?_<;>intro hc
   all_goals first
    |exact Next.go (k+1) ⟨by omega,by rw[hsn];intro y hy;rcases a0p.1 hy with hy|hy;exact hok2 y hy;obtain rfl:y=x:=(by simpa using hy);omega⟩ (by omega) CV (.live rfl .nil)
    |exact Dd rfl rfl (congrArg Value.bool (decide_eq_false (fun h=>by have:=h.2.2.2 x hmem;omega)).symm)
  ·have h1:¬(k:Int)<((c.apart.map Ah).length:Nat):=by omega
   have hk2:c.apart.take k=c.apart:=a0g (by omega)
   rw[hk2]at hok2
   repeat' first|refine WX ?_|refine W2 ?_ ?_<;>intro hc
   exact Dd rfl rfl (congrArg Value.bool (decide_eq_true ⟨by omega,by omega,hok,hok2⟩).symm)
/-! ### Cues that are found -/
abbrev Bl(l:List CueR)(n:ByteArray):Int:=idx (fun q:CueR=>q.name=n) l
theorem A7l{α:Type}{p:α->Prop}[DecidablePred p]{l:List α}:0<=idx p l↔∃x∈l,p x:=decide_eq_decide.1 (Ny p l)
theorem idx_lt_iff{α:Type}{p:α->Prop}[DecidablePred p]:∀{l:List α}{i:Nat},(0<=idx p l/\idx p l<i)↔∃y∈l.take i,p y
 |[],i=>by simp[idx]
 |x::l,0=>by simp only[a4s,a2t,false_and,exists_false,iff_false];omega
 |x::l,i+1=>by
  have ih:=idx_lt_iff (p:=p) (l:=l) (i:=i)
  have hg:=D8 p l
  rw[a3t,idx]
  by_cases hx:p x
  ·rw[if_pos hx]
   exact⟨fun _=>⟨x,by simp,hx⟩,fun _=>by omega⟩
  ·rw[if_neg hx]
   constructor
   ·intro h
    split at h
    ·omega
    ·obtain⟨y,hy,hp⟩:=ih.1 (by omega)
     exact⟨y,by simp[hy],hp⟩
   ·rintro⟨y,hy,hp⟩
    rcases a1q.1 hy with rfl|hy
    ·exact absurd hp hx
    ·have:=ih.2 ⟨y,hy,hp⟩
     rw[if_neg (by omega)];omega
theorem A9i(n:ByteArray)(q:CueR):Fz 293 [A0 q.row,.rop [.s n]] (.b (decide (q.name=n))):=by
 refine Fo Tryz.func293 ?_
 repeat' first|refine WX ?_|refine W2 ?_ ?_<;>intro hc
 all_goals exact Dd rfl rfl (by rfl)
theorem Oq(l:List CueR)(n:ByteArray)(hs:l.length<=9223372036854775807):Fz 254 [.sl (l.map CueR.row),.s n] (.i (Bl l n)):=by
 have hc:Fz 143 [.sl (l.map CueR.row),.fn (.func 293) [] [.rop [.s n]]] (.i (Bl l n)):=
  Qx l CueR.row (fun q=>q.name=n) _ _ (fun _=>rfl) hs rfl fun q _=>A9i n q
 refine Fo Tryz.func254 ?_
 repeat' first|refine W ?_|(apply S.callV;exact rfl;exact hc;exact .cons (.one (.lf _)) (.cons (.fn (.cons (.ptr0 (cs:=[.s n]) rfl) .nil)) .nil);exact rfl;exact rfl)|refine V ?_|refine W2 ?_ ?_<;>intro hc
 all_goals exact Dd rfl rfl (by rfl)
theorem A06(l:List CueR)(k:Nat)(n:ByteArray)(hs:l.length<=9223372036854775807):Fz 254 [.sl ((l.map CueR.row).take ((k:Nat):Int).toNat),.s n] (.i (Bl (l.take k) n)):=by
 rw[a0q,<-a6u]
 exact Oq (l.take k) n (by simp;omega)
theorem A2o(c:SheetR)(n:ByteArray)(hs:c.cues.length<=9223372036854775807):Fz 156 [A0 c.row,.s n] (.i (Bl c.cues n)):=by
 have hle:=lmA c.cues CueR.row
 refine Fo Tryz.func156 ?_
 repeat' first|refine WX ?_|refine W2 ?_ ?_<;>intro hc
 refine p0c (fun k=>k<=c.cues.length/\∀s∈c.cues.take k,¬s.name=n) (fun k=>c.cues.length-k) (fun k=>[(5,.i k),(2,.ptr 0 0),(1,.s n)]) (fun _=>[.live (c.row.map .lf)]) 0 ⟨a0k _,by simp⟩ CV (.live rfl .nil) ?_
 rintro k ⟨hk,hno⟩
 by_cases hlt:k<c.cues.length
 ·have h1:(k:Int)<((c.cues.map CueR.row).length:Nat):=by omega
  obtain⟨x,hx⟩:=A2 hlt
  have hb:=A3 (R:=CueR.row) hx
  have hsn:=Ad hx
  repeat' first|refine WY ?_|(apply p0u A8 (by kernel_rfl))|refine V ?_|refine W2 ?_ ?_<;>intro hc
  all_goals first
   |exact Next.go (k+1) ⟨by omega,by rw[hsn];intro y hy;rcases a0p.1 hy with hy|hy;exact hno y hy;obtain rfl:y=x:=(by simpa using hy);assumption⟩ (by omega) CV (.live rfl .nil)
   |exact Dd rfl rfl (by rw[Bl,Fk hx hno (by assumption)])
 ·have h1:¬(k:Int)<((c.cues.map CueR.row).length:Nat):=by omega
  repeat' first|refine WX ?_|refine W2 ?_ ?_<;>intro hc
  exact Dd rfl rfl (by rw[Bl,Ud hno (by omega)])

/-! ### Pairs of cues -/
def K7(p q:ByteArray×ByteArray):Prop:=p.1=q.1/\p.2=q.2\/p.1=q.2/\p.2=q.1
def G4(p:ByteArray×ByteArray):ByteArray×ByteArray:=if gtS p.1 p.2 then(p.2,p.1)else p
theorem A25(p q:ByteArray×ByteArray):G4 p=G4 q↔K7 p q:=by
 obtain⟨a,b⟩:=p
 obtain⟨c,d⟩:=q
 unfold G4 K7
 have t1:¬gtS a b->¬gtS b a->a=b:=Yq
 have t2:gtS a b->¬gtS b a:=Qu
 have t3:gtS b a->¬gtS a b:=Qu
 have t4:¬gtS c d->¬gtS d c->c=d:=Yq
 have t5:gtS c d->¬gtS d c:=Qu
 by_cases h1:gtS a b<;>by_cases h2:gtS c d<;>simp only[h1,h2,if_true,if_false,a1p]
 ·constructor
  ·rintro⟨rfl,rfl⟩;exact .inl ⟨rfl,rfl⟩
  ·rintro(⟨rfl,rfl⟩|⟨rfl,rfl⟩)
   ·exact⟨rfl,rfl⟩
   ·exact absurd h2 (t2 h1)
 ·constructor
  ·rintro⟨rfl,rfl⟩;exact .inr ⟨rfl,rfl⟩
  ·rintro(⟨rfl,rfl⟩|⟨rfl,rfl⟩)
   ·exact absurd h1 h2
   ·exact⟨rfl,rfl⟩
 ·constructor
  ·rintro⟨rfl,rfl⟩;exact .inr ⟨rfl,rfl⟩
  ·rintro(⟨rfl,rfl⟩|⟨rfl,rfl⟩)
   ·exact absurd h2 h1
   ·exact⟨rfl,rfl⟩
 ·constructor
  ·rintro⟨rfl,rfl⟩;exact .inl ⟨rfl,rfl⟩
  ·rintro(⟨rfl,rfl⟩|⟨rfl,rfl⟩)
   ·exact⟨rfl,rfl⟩
   ·have:=t1 h1 h2
    exact⟨this,this.symm⟩
def Fc(l:List (ByteArray×ByteArray)):List ((ByteArray×ByteArray)×Value):=l.foldl (fun es x=>Ji es (G4 x) (.agg #[])) []
theorem Tr(l:List (ByteArray×ByteArray))(x:ByteArray×ByteArray):Fc (l++[x])=Ji (Fc l) (G4 x) (.agg #[]):=by simp[Fc]
theorem A9y(es:List ((ByteArray×ByteArray)×Value))(s r:ByteArray×ByteArray)(v:Value):Fj (Ji es s v) r=if s=r then some v else Fj es r:=by
 induction es with
 |nil=>rfl
 |cons p es ih=>
  obtain⟨k,u⟩:=p
  by_cases e:k=s
  ·subst e
   by_cases e2:k=r<;>simp[Ji,Fj,e2]
  ·by_cases e2:k=r
   ·subst e2
    have:¬s=k:=fun h=>e h.symm
    simp[Ji,Fj,e,this]
   ·simp[Ji,Fj,e,e2,ih]
theorem A87(l:List (ByteArray×ByteArray))(r:ByteArray×ByteArray):(Fj (Fc l) r≠none↔∃y∈l,G4 y=r)/\∀u,Fj (Fc l) r=some u->u=.agg #[]:=by
 have key:∀m:List (ByteArray×ByteArray),(Fj (Fc m.reverse) r≠none↔∃y∈m.reverse,G4 y=r)/\∀u,Fj (Fc m.reverse) r=some u->u=.agg #[]:=fun m=>by
  induction m with
  |nil=>simp[Fc,Fj]
  |cons x m ih=>
   rw[List.reverse_cons,Tr,A9y]
   by_cases e:G4 x=r
   ·rw[if_pos e]
    exact⟨⟨fun _=>⟨x,by simp,e⟩,fun _=>by simp⟩,fun u hu=>by injection hu with hu;exact hu.symm⟩
   ·rw[if_neg e]
    refine⟨⟨fun h=>?_,?_⟩,ih.2⟩
    ·obtain⟨y,hy,h2⟩:=ih.1.1 h
     exact⟨y,by simp only[a0p];exact .inl hy,h2⟩
    ·rintro⟨y,hy,h2⟩
     rcases a0p.1 hy with hy|hy
     ·exact ih.1.2 ⟨y,hy,h2⟩
     ·obtain rfl:y=x:=by simpa using hy
      exact absurd h2 e
 have:=key l.reverse
 rwa[b2k]at this
def okP(c:SheetR)(i:Nat)(p:ByteArray×ByteArray):Prop:=(0<=Bl c.cues p.1/\0<=Bl c.cues p.2)/\¬p.1=p.2/\¬∃y∈c.apart.take i,K7 y p
def R5(c:SheetR):Prop:=(c.apart.length:Int)<=1000/\∀i p,c.apart[i]?=some p->okP c i p
noncomputable instance (c:SheetR):Decidable (R5 c):=Classical.propDecidable _
theorem A9h(c:SheetR)(hs:c.cues.length<=9223372036854775807)(hs2:c.apart.length<=9223372036854775807):Fz 255 [A0 c.row] (.b (decide (R5 c))):=by
 have hle:=lmA c.apart Ah
 refine Fo Tryz.func255 ?_
 repeat' first|refine W ?_|(apply S.makeMap;exact rfl;exact rfl)|refine V ?_|refine W2 ?_ ?_<;>intro hc
 all_goals first
  |exact Dd rfl rfl (congrArg Value.bool (decide_eq_false (fun h=>by have:=h.1;omega)).symm)
  |skip
 refine p0c (fun k=>k<=c.apart.length/\∀i p,i<k->c.apart[i]?=some p->okP c i p) (fun k=>c.apart.length-k) (fun k=>[(16,.i k),(15,.i (c.apart.map Ah).length),(14,.sl (c.apart.map Ah)),(3,.mp 1),(1,.ptr 0 0)]) (fun k=>[.live (c.row.map .lf),.map (F7 (Fc (c.apart.take k)))]) 0 ⟨a0k _,by intro i p h;omega⟩ CV (.live rfl (.map .nil)) ?_
 rintro k ⟨hk,hok⟩
 by_cases hlt:k<c.apart.length
 ·have h1:(k:Int)<((c.apart.map Ah).length:Nat):=by omega
  obtain⟨x,hx⟩:=A2 hlt
  have hb:=A3 (R:=Ah) hx
  have hsn:=Ad hx
  have hso:Fc (c.apart.take (k+1))=Ji (Fc (c.apart.take k)) (G4 x) (.agg #[]):=by rw[hsn,Tr]
  obtain⟨hg1,hg2⟩:=A87 (c.apart.take k) (G4 x)
  have hsame:Fj (Fc (c.apart.take k)) (G4 x)≠none↔∃y∈c.apart.take k,K7 y x:=by
   rw[hg1]
   exact⟨fun⟨y,hy,h⟩=>⟨y,hy,(A25 _ _).1 h⟩,fun⟨y,hy,h⟩=>⟨y,hy,(A25 _ _).2 h⟩⟩
  have hbad:¬okP c k x->¬R5 c:=fun h hh=>h (hh.2 k x hx)
  by_cases hgt:gtS x.1 x.2
  ·have hn:G4 x=(x.2,x.1):=by unfold G4;rw[if_pos hgt]
   rw[hn]at hso hg2 hsame
   repeat' first|refine WY ?_|(apply p0u A8 (by kernel_rfl))|refine Zb5 ?_|refine Zbe ?_|(apply S.strGt;(iterate 3 exact rfl))|(apply p3v;(iterate 4 exact rfl);exact hg2)|(apply p2v;(iterate 5 exact rfl))|refine Zc (Oq c.cues _ hs) ?_|refine V ?_|refine W2 ?_ ?_<;>intro hc
   all_goals first
    |exact Dd rfl rfl (congrArg Value.bool (decide_eq_false (hbad fun hh=>by
     obtain⟨⟨g1,g2⟩,g3,g4⟩:=hh
     first
      |omega
      |exact g4 (hsame.1 (by assumption))
      |exact g3 (by assumption)
      |exact g3 (b2r (by assumption)))).symm)
    |exact Next.go (k+1) ⟨by omega,by
     intro i p hi hp
     rcases a0y i k with h9|h9
     ·exact hok i p h9 hp
     ·obtain rfl:i=k:=by omega
      obtain rfl:x=p:=by rw[hx]at hp;injection hp
      exact⟨⟨by omega,by omega⟩,(by first|assumption|exact fun e=>(by assumption:¬_=_) (b2r e)),fun g=>hsame.2 g (by assumption)⟩⟩ (by omega) CV (by show CovH _ _ [.live _,.map (F7 (Fc (c.apart.take (k+1))))];rw[hso];exact .live rfl (.map .nil))
  ·have hn:G4 x=(x.1,x.2):=by unfold G4;rw[if_neg hgt]
   rw[hn]at hso hg2 hsame
   repeat' first|refine WY ?_|(apply p0u A8 (by kernel_rfl))|refine Zb5 ?_|refine Zbe ?_|(apply S.strGt;(iterate 3 exact rfl))|(apply p3v;(iterate 4 exact rfl);exact hg2)|(apply p2v;(iterate 5 exact rfl))|refine Zc (Oq c.cues _ hs) ?_|refine V ?_|refine W2 ?_ ?_<;>intro hc
   all_goals first
    |exact Dd rfl rfl (congrArg Value.bool (decide_eq_false (hbad fun hh=>by
     obtain⟨⟨g1,g2⟩,g3,g4⟩:=hh
     first
      |omega
      |exact g4 (hsame.1 (by assumption))
      |exact g3 (by assumption)
      |exact g3 (b2r (by assumption)))).symm)
    |exact Next.go (k+1) ⟨by omega,by
     intro i p hi hp
     rcases a0y i k with h9|h9
     ·exact hok i p h9 hp
     ·obtain rfl:i=k:=by omega
      obtain rfl:x=p:=by rw[hx]at hp;injection hp
      exact⟨⟨by omega,by omega⟩,(by first|assumption|exact fun e=>(by assumption:¬_=_) (b2r e)),fun g=>hsame.2 g (by assumption)⟩⟩ (by omega) CV (by show CovH _ _ [.live _,.map (F7 (Fc (c.apart.take (k+1))))];rw[hso];exact .live rfl (.map .nil))
 ·have h1:¬(k:Int)<((c.apart.map Ah).length:Nat):=by omega
  repeat' first|refine WX ?_|refine W2 ?_ ?_<;>intro hc
  exact Dd rfl rfl (congrArg Value.bool (decide_eq_true ⟨by omega,fun i p hp=>hok i p (by have:=(a0f.1 hp).1;omega) hp⟩).symm)
def I0(l:List CueR):Int:=(l.map fun q=>(q.moves.length:Int)).sum
theorem Zw(l:List CueR)(q:CueR):I0 (l++[q])=I0 l+q.moves.length:=by simp[I0,List.sum_append]
def okQ(h:HouseR)(l:List CueR)(i:Nat)(q:CueR):Prop:=I0 (l.take (i+1))<=100/\Eo h q/\(¬∃y∈l.take i,y.name=q.name)/\(q.link=1->q.after=⟨#[]⟩)/\(¬q.link=1->∃y∈l.take i,y.name=q.after)
def A7d(h:HouseR)(l:List CueR):Prop:=∀i q,l[i]?=some q->okQ h l i q
def validP(h:HouseR)(c:SheetR):Prop:=Bv h/\(c.cues.length:Int)<=60/\A7d h c.cues/\R5 c
noncomputable instance (h:HouseR)(c:SheetR):Decidable (validP h c):=Classical.propDecidable _
theorem A43:¬Ec ⟨#[]⟩=true:=by simp[Ec]
theorem Acu{h:HouseR}{l:List CueR}{k:Nat}{n:ByteArray}(hok:∀i q,i<k->l[i]?=some q->okQ h l i q)(hn:∃y∈l.take k,y.name=n):¬n=⟨#[]⟩:=by
 rintro rfl
 obtain⟨y,hy,he⟩:=hn
 obtain⟨i,hi⟩:=a2x hy
 have hik:i<k:=by have:=(a0f.1 hi).1;simp at this;omega
 have:=(hok i y hik (by rw[a1o hik]at hi;exact hi)).2.1.1
 rw[he]at this
 exact A43 this
theorem Yh(h:HouseR)(c:SheetR)(hf:h.fits)(hc:c.fits):Fz 187 [A0 h.row,A0 c.row] (.b (decide (validP h c))):=by
 obtain⟨hc1,hc2,hc3⟩:=hc
 have hf1:=hf.1
 have hle:=lmA c.cues CueR.row
 refine Fo Tryz.func187 ?_
 repeat' first|refine W ?_|refine Zc (Kj h hf) ?_|refine V ?_|refine W2 ?_ ?_<;>intro hc
 all_goals first
  |exact Dd rfl rfl (congrArg Value.bool (decide_eq_false (fun hh=>by
   obtain⟨g1,g2,_⟩:=hh
   first|contradiction|omega)).symm)
  |skip
 refine p0c (fun k=>k<=c.cues.length/\(0<=I0 (c.cues.take k)/\I0 (c.cues.take k)<=100)/\∀i q,i<k->c.cues[i]?=some q->okQ h c.cues i q) (fun k=>c.cues.length-k) (fun k=>[(20,.i k),(19,.i (c.cues.map CueR.row).length),(18,.sl (c.cues.map CueR.row)),(2,.ptr 0 0),(3,.ptr 1 0),(5,.i (I0 (c.cues.take k)))]) (fun _=>[.live (h.row.map .lf),.live (c.row.map .lf)]) 0 ⟨a0k _,by simp[I0],by intro i q h;omega⟩ CV CH ?_
 rintro k ⟨hk,hsum,hok⟩
 by_cases hlt:k<c.cues.length
 ·have h1:(k:Int)<((c.cues.map CueR.row).length:Nat):=by omega
  obtain⟨q,hq⟩:=A2 hlt
  have hb:=A3 (R:=CueR.row) hq
  have hsn:=Ad hq
  have hmem:q∈c.cues:=a0a hq
  have hm3:=hc3 q hmem
  have hle3:=lmA q.moves MoveR.row
  have hss:I0 (c.cues.take (k+1))=I0 (c.cues.take k)+(q.moves.map MoveR.row).length:=by rw[hsn,Zw,hle3]
  have hidx:Bl c.cues q.name=(k:Int)↔_:=Hn (p:=fun s:CueR=>s.name=q.name) hq rfl
  have haft:0<=Bl (c.cues.take k) q.after↔_:=A7l
  have hne:=Acu (n:=q.after) hok
  have hbad:¬okQ h c.cues k q->¬validP h c:=fun g hh=>g (hh.2.2.1 k q hq)
  repeat' first|refine WY ?_|(apply p0u A8 (by kernel_rfl))|refine Zb5 ?_|(apply S.boolNe;(iterate 3 exact rfl))|refine Zbi (Yg h q hf1 (by omega)) ?_|refine Zc (Oq c.cues q.name hc1) ?_|(apply p1o;(iterate 3 exact rfl);omega;(intro row hr;obtain⟨z,_,rfl⟩:=a1d.1 hr;rfl))|refine Zc (A06 c.cues k q.after hc1) ?_|refine V ?_|refine W2 ?_ ?_<;>intro hc
  all_goals first
   |exact Dd rfl rfl (congrArg Value.bool (decide_eq_false (hbad fun hh=>by
    obtain⟨g1,g2,g3,g4,g5⟩:=hh
    have g6:=hidx.2 g3
    first
     |contradiction
     |omega
     |exact(by assumption:¬(q.link=1↔q.after=⟨#[]⟩)) ⟨g4,fun e=>a1x fun hn=>hne (g5 hn) e⟩
     |(have:=haft.2 (g5 (by assumption));omega))).symm)
   |exact Next.go (k+1) ⟨by omega,by rw[hss];omega,by
    intro i p hi hp
    rcases a0y i k with h9|h9
    ·exact hok i p h9 hp
    ·obtain rfl:i=k:=by omega
     obtain rfl:q=p:=by rw[hq]at hp;injection hp
     have g7:q.link=1↔q.after=⟨#[]⟩:=by first|assumption|exact a1x (by assumption)
     exact⟨by rw[hss];omega,by assumption,hidx.1 (by first|assumption|exact a1x (by assumption)),g7.1,fun hn=>haft.1 (by first|contradiction|omega)⟩⟩ (by omega) (.cons rfl rfl (.cons rfl rfl (.cons rfl rfl (.cons rfl rfl (.cons rfl rfl (.cons (by rw[hss];rfl) rfl .nil)))))) CH
 ·have h1:¬(k:Int)<((c.cues.map CueR.row).length:Nat):=by omega
  have hall:A7d h c.cues:=fun i p hp=>hok i p (by have:=(a0f.1 hp).1;omega) hp
  repeat' first|refine W ?_|refine Zc (A9h c hc1 hc2) ?_|refine V ?_|refine W2 ?_ ?_<;>intro hc
  all_goals exact Dd rfl rfl (congrArg Value.bool (decide_eq_decide.2 ⟨fun g=>⟨by assumption,by omega,hall,g⟩,fun g=>g.2.2.2⟩))
theorem Ze(h:HouseR)(c:SheetR)(hf:h.fits)(hc:c.fits):Fz 75 [A0 h.row,A0 c.row] (.b (decide (validP h c))):=by
 obtain⟨hc1,hc2,hc3⟩:=hc
 have hf1:=hf.1
 have hle:=lmA c.cues CueR.row
 have hle2:=lmA c.apart Ah
 refine Fo Tryz.func75 ?_
 repeat' first|refine W ?_|refine Zc (Ab7 h hf) ?_|refine V ?_|refine W2 ?_ ?_<;>intro hc
 all_goals first
  |exact Dd rfl rfl (congrArg Value.bool (decide_eq_false (fun hh=>by
   obtain⟨g1,g2,g3,g4⟩:=hh
   have g5:=g4.1
   first|contradiction|omega)).symm)
  |skip
 refine p0c (fun k=>k<=c.cues.length/\(0<=I0 (c.cues.take k)/\I0 (c.cues.take k)<=100)/\∀i q,i<k->c.cues[i]?=some q->okQ h c.cues i q) (fun k=>c.cues.length-k) (fun k=>[(6,.i k),(2,.ptr 0 0),(3,.ptr 1 0),(5,.i (I0 (c.cues.take k)))]) (fun _=>[.live (h.row.map .lf),.live (c.row.map .lf)]) 0 ⟨a0k _,by simp[I0],by intro i q h;omega⟩ CV CH ?_
 rintro k ⟨hk,hsum,hok⟩
 by_cases hlt:k<c.cues.length
 ·have h1:(k:Int)<((c.cues.map CueR.row).length:Nat):=by omega
  obtain⟨q,hq⟩:=A2 hlt
  have hb:=A3 (R:=CueR.row) hq
  have hsn:=Ad hq
  have hmem:q∈c.cues:=a0a hq
  have hm3:=hc3 q hmem
  have hle3:=lmA q.moves MoveR.row
  have hss:I0 (c.cues.take (k+1))=I0 (c.cues.take k)+(q.moves.map MoveR.row).length:=by rw[hsn,Zw,hle3]
  have hidx:Bl c.cues q.name=(k:Int)↔_:=Hn (p:=fun s:CueR=>s.name=q.name) hq rfl
  have haft:(0<=Bl c.cues q.after/\Bl c.cues q.after<(k:Int))↔_:=idx_lt_iff
  have hbad:¬okQ h c.cues k q->¬validP h c:=fun g hh=>g (hh.2.2.1 k q hq)
  repeat' first|refine WY ?_|(apply p0u A8 (by kernel_rfl))|refine Zb5 ?_|refine Zbi (Abb h q hf1 (by omega)) ?_|refine Zc (A2o c _ hc1) ?_|refine V ?_|refine W2 ?_ ?_<;>intro hc
  all_goals first
   |exact Dd rfl rfl (congrArg Value.bool (decide_eq_false (hbad fun hh=>by
    obtain⟨g1,g2,g3,g4,g5⟩:=hh
    have g6:=hidx.2 g3
    first
     |contradiction
     |omega
     |exact(by assumption:¬q.after=(⟨#[]⟩:ByteArray)) (g4 (by assumption))
     |(have:=haft.2 (g5 (by assumption));omega))).symm)
   |exact Next.go (k+1) ⟨by omega,by rw[hss];omega,by
    intro i p hi hp
    rcases a0y i k with h9|h9
    ·exact hok i p h9 hp
    ·obtain rfl:i=k:=by omega
     obtain rfl:q=p:=by rw[hq]at hp;injection hp
     exact⟨by rw[hss];omega,by assumption,hidx.1 (by first|assumption|exact a1x (by assumption)),fun e=>(by first|contradiction|assumption|exact a1x (by assumption)),fun hn=>haft.1 (by first|contradiction|omega)⟩⟩ (by omega) (.cons rfl rfl (.cons rfl rfl (.cons rfl rfl (.cons (by rw[hss];rfl) rfl .nil)))) CH
 ·have h1:¬(k:Int)<((c.cues.map CueR.row).length:Nat):=by omega
  have hall:A7d h c.cues:=fun i p hp=>hok i p (by have:=(a0f.1 hp).1;omega) hp
  repeat' first|refine WX ?_|refine W2 ?_ ?_<;>intro hc
  refine p0c (fun k=>k<=c.apart.length/\∀i p,i<k->c.apart[i]?=some p->okP c i p) (fun k=>c.apart.length-k) (fun k=>[(9,.i k),(2,.ptr 0 0),(3,.ptr 1 0)]) (fun _=>[.live (h.row.map .lf),.live (c.row.map .lf)]) 0 ⟨a0k _,by intro i q h;omega⟩ CV CH ?_
  rintro k ⟨hk,hokp⟩
  by_cases hlt2:k<c.apart.length
  ·have h1:(k:Int)<((c.apart.map Ah).length:Nat):=by omega
   obtain⟨x,hx⟩:=A2 hlt2
   have hb:=A3 (R:=Ah) hx
   have hsn:=Ad hx
   have hbad:¬okP c k x->¬validP h c:=fun g hh=>g (hh.2.2.2.2 k x hx)
   repeat' first|refine WY ?_|(apply p0u A8 (by kernel_rfl))|refine Zbq ?_|refine Zc (A2o c _ hc1) ?_|refine V ?_|refine W2 ?_ ?_<;>intro hc
   all_goals first
    |exact Dd rfl rfl (congrArg Value.bool (decide_eq_false (hbad fun hh=>by
     obtain⟨⟨g1,g2⟩,g3,g4⟩:=hh
     first
      |contradiction
      |omega)).symm)
    |skip
   refine p0c (fun j=>j<=k/\∀y∈c.apart.take j,¬K7 y x) (fun j=>k-j) (fun j=>[(12,.i j),(9,.i k),(2,.ptr 0 0),(3,.ptr 1 0),(10,.s x.1),(11,.s x.2)]) (fun _=>[.live (h.row.map .lf),.live (c.row.map .lf)]) 0 ⟨a0k _,by simp⟩ CV CH ?_
   rintro j ⟨hj,hne⟩
   by_cases hjk:j<k
   ·have h2:(j:Int)<k:=by omega
    obtain⟨y,hy⟩:=A2 (l:=c.apart) (k:=j) (by omega)
    have hby:=A3 (R:=Ah) hy
    have hsj:=Ad hy
    have hyk:y∈c.apart.take k:=a0a (by rw[a1o hjk];exact hy)
    repeat' first|refine WY ?_|(apply p0u A8 (by kernel_rfl))|refine Zbq ?_|refine V ?_|refine W2 ?_ ?_<;>intro hc
    all_goals first
     |exact Dd rfl rfl (congrArg Value.bool (decide_eq_false (hbad fun hh=>by
      obtain⟨_,_,g4⟩:=hh
      refine g4 ⟨y,hyk,?_⟩
      first
       |exact .inl ⟨by assumption,by assumption⟩
       |exact .inr ⟨by assumption,by assumption⟩)).symm)
     |exact Next.go (j+1) ⟨by omega,by rw[hsj];intro z hz;rcases a0p.1 hz with hz|hz;exact hne z hz;obtain rfl:z=y:=(by simpa using hz);unfold K7;rintro(⟨e1,e2⟩|⟨e1,e2⟩)<;>contradiction⟩ (by omega) CV CH
   ·have h2:¬(j:Int)<k:=by omega
    obtain rfl:j=k:=by omega
    repeat' first|refine WX ?_|refine W2 ?_ ?_<;>intro hc
    exact Next.go (j+1) ⟨by omega,by
      intro i p hi hp
      rcases a0y i j with h9|h9
      ·exact hokp i p h9 hp
      ·obtain rfl:i=j:=by omega
       obtain rfl:x=p:=by rw[hx]at hp;injection hp
       exact⟨⟨by omega,by omega⟩,by assumption,fun⟨y,hy,he⟩=>hne y hy he⟩⟩ (by omega) CV CH
  ·have h1:¬(k:Int)<((c.apart.map Ah).length:Nat):=by omega
   have hallp:R5 c:=⟨by omega,fun i p hp=>hokp i p (by have:=(a0f.1 hp).1;omega) hp⟩
   repeat' first|refine WX ?_|refine W2 ?_ ?_<;>intro hc
   exact Dd rfl rfl (congrArg Value.bool (decide_eq_true ⟨by assumption,by omega,hall,hallp⟩).symm)
theorem C5{H:AH}(l:List Lf):OutL H (l.map .lf) (l.map .lf):=by
 induction l with
 |nil=>exact .nil
 |cons x l ih=>exact .cons (.lf x) ih
theorem Res.row{P:Program}{st:St}{t b n:Nat}{ty:TypeId}{cells:List AV}{ds:TypeDesc}(cs:List Lf)[hu:HasU P ty ds][hi:HasS P ty n](h:st.tm.get t=some (.ptr b 0))(hb:st.H.at b=.live cells)(hd:ds.isRow=true)(hc:cells=cs.map .lf)(hn:Nat.beq cs.length n=true):Res P st (.cell t ty) (A0 cs):=by
 subst hc
 have hn':=a2b hn
 have:=Res.cells h hb hu.out hd hi.out (a3f (by simp;omega))
 rw[a8e,a0g (by simp;omega)]at this
 exact this
noncomputable instance (h:HouseR)(c:SheetR):Decidable (¬Rn h 8\/¬Rm c 8):=Classical.propDecidable _
def Ey(h:HouseR)(l:List Int):Prop:=∀(i:Nat)(n:Int)(s:SetR),l[i]?=some n->h.sets[i]?=some s->s.low<=n/\n<=s.high
open Classical in
noncomputable def F3(h:HouseR)(l:List Int)(q:CueR):Int:=if Bv h/\Eo h q then(if l.length=h.sets.length then(if Ey h l then 0 else 2)else 3)else 1
theorem Ub{h:HouseR}{l:List Int}{q:CueR}(g:¬(Bv h/\Eo h q)):F3 h l q=1:=by unfold F3;rw[if_neg g]
theorem A1i{h:HouseR}{l:List Int}{q:CueR}(g:Bv h/\Eo h q)(g2:¬l.length=h.sets.length):F3 h l q=3:=by unfold F3;rw[if_pos g,if_neg g2]
theorem A1h{h:HouseR}{l:List Int}{q:CueR}(g:Bv h/\Eo h q)(g2:l.length=h.sets.length)(g3:¬Ey h l):F3 h l q=2:=by unfold F3;rw[if_pos g,if_pos g2,if_neg g3]
theorem Ua{h:HouseR}{l:List Int}{q:CueR}(g:Bv h/\Eo h q)(g2:l.length=h.sets.length)(g3:Ey h l):F3 h l q=0:=by unfold F3;rw[if_pos g,if_pos g2,if_pos g3]
theorem A9j(h:HouseR)(l:List Int)(q:CueR)(hf:h.fits)(hq:q.moves.length<=9223372036854775807)(hl:l.length<=9223372036854775807):Fz 189 [A0 h.row,.sl (l.map A1),A0 q.row] (.i (F3 h l q)):=by
 have hf1:=hf.1
 have hle:=lmA h.sets SetR.row
 have hle2:=lmA l A1
 refine Fo Tryz.func189 ?_
 repeat' first|refine W ?_|refine Zc (Kj h hf) ?_|refine Zc (Yg h q hf1 hq) ?_|refine V ?_|refine W2 ?_ ?_<;>intro hc
 all_goals first
  |exact Dd rfl rfl (congrArg (Value.int .i64) (Ub (fun g=>absurd g.1 (by assumption))).symm)
  |exact Dd rfl rfl (congrArg (Value.int .i64) (Ub (fun g=>absurd g.2 (by assumption))).symm)
  |exact Dd rfl rfl (congrArg (Value.int .i64) (A1i ⟨by assumption,by assumption⟩ (by omega)).symm)
  |skip
 have hg:Bv h/\Eo h q:=⟨by assumption,by assumption⟩
 have hll:l.length=h.sets.length:=by omega
 refine p0c (fun k=>k<=l.length/\∀(i:Nat)(n:Int)(s:SetR),i<k->l[i]?=some n->h.sets[i]?=some s->s.low<=n/\n<=s.high) (fun k=>l.length-k) (fun k=>[(28,.i k),(27,.i (l.map A1).length),(26,.sl (l.map A1)),(3,.ptr 0 0)]) (fun _=>[.live (h.row.map .lf)]) 0 ⟨a0k _,by intro i n s h;omega⟩ CV (.live rfl .nil) ?_
 rintro k ⟨hk,hok⟩
 by_cases hlt:k<l.length
 ·have h1:(k:Int)<((l.map A1).length:Nat):=by omega
  obtain⟨x,hx⟩:=A2 hlt
  obtain⟨s,hs⟩:=A2 (l:=h.sets) (k:=k) (by omega)
  have hb:=A3 (R:=A1) hx
  have hbs:=A3 (R:=SetR.row) hs
  repeat' first|refine WY ?_|(apply p0u A8 (by kernel_rfl))|refine Zc (Ke _ _ _) ?_|refine V ?_|refine W2 ?_ ?_<;>intro hc
  all_goals first
   |exact Next.go (k+1) ⟨by omega,by
    intro i n t hi hn ht
    rcases a0y i k with h9|h9
    ·exact hok i n t h9 hn ht
    ·obtain rfl:i=k:=by omega
     obtain rfl:x=n:=by rw[hx]at hn;injection hn
     obtain rfl:s=t:=by rw[hs]at ht;injection ht
     assumption⟩ (by omega) CV (.live rfl .nil)
   |exact Dd rfl rfl (congrArg (Value.int .i64) (A1h hg hll (fun g=>absurd (g k x s hx hs) (by assumption))).symm)
 ·have h1:¬(k:Int)<((l.map A1).length:Nat):=by omega
  repeat' first|refine WX ?_|refine W2 ?_ ?_<;>intro hc
  exact Dd rfl rfl (congrArg (Value.int .i64) (Ua hg hll (fun i n s hn hs=>hok i n s (by have:=(a0f.1 hn).1;omega) hn hs)).symm)
def Y8(d:Int)(m:MoveR):Int:=if Cm m then(if 0<=d/\d<=1048576 then 0 else 2)else 1
theorem Wg(d:Int)(m:MoveR):Fz 229 [.i d,A0 m.row] (.i (Y8 d m)):=by
 refine Fo Tryz.func229 ?_
 repeat' first|refine W ?_|refine Zc (Pd m) ?_|refine Zc (Tl _ _ _) ?_|refine V ?_|refine W2 ?_ ?_<;>intro hc
 all_goals exact Dd rfl rfl (by unfold Y8;simp[*])
theorem Aem(d w:Int)(m:MoveR)(hm:Cm m)(hd:0<=d/\d<=1048576)(hw:0<=w/\w<=32768):Fz 294 [.i d,A0 m.row,.i w] (.b (decide (w*w*(m.rise+m.fall)<=2*m.rise*m.fall*d))):=by
 obtain⟨_,_,_,h4,h5⟩:=hm
 have b1:0<=w*w/\w*w<=32768*32768:=⟨a2c hw.1 hw.1,a3w hw.2 hw.2 hw.1 (by omega)⟩
 have b2:0<=w*w*(m.rise+m.fall)/\w*w*(m.rise+m.fall)<=32768*32768*32768:=⟨a2c b1.1 (by omega),a3w b1.2 (by omega) (by omega) (by omega)⟩
 have b3:0<=2*m.rise*m.fall/\2*m.rise*m.fall<=32768*16384:=⟨a2c (by omega) (by omega),a3w (by omega) h5.2 (by omega) (by omega)⟩
 have b4:0<=2*m.rise*m.fall*d/\2*m.rise*m.fall*d<=32768*16384*1048576:=⟨a2c b3.1 hd.1,a3w b3.2 hd.2 hd.1 (by omega)⟩
 refine Fo Tryz.func294 ?_
 repeat' first|refine WX ?_|refine W2 ?_ ?_<;>intro hc
 all_goals exact Dd rfl rfl rfl
def Ka(P:Nat->Bool):Nat->Nat
 |0=>0
 |k+1=>if P (k+1)=true then k+1 else Ka P k
theorem Y5{P:Nat->Bool}{lo:Nat}:∀{k:Nat},(lo=0\/P lo=true)->lo<=k->(∀w,lo<w->w<=k->¬P w=true)->Ka P k=lo
 |0,_,h,_=>by simp[Ka];omega
 |k+1,h0,h,hn=>by
  rw[Ka]
  by_cases e:lo=k+1
  ·rw[if_pos]
   ·exact e.symm
   ·rcases h0 with h0|h0
    ·omega
    ·rw[<-e];exact h0
  ·rw[if_neg (hn (k+1) (by omega) (a0n _))]
   exact Y5 h0 (by omega) fun w h1 h2=>hn w h1 (by omega)
def Dm(d:Int)(m:MoveR)(w:Int):Prop:=w*w*(m.rise+m.fall)<=2*d*m.rise*m.fall
instance (d:Int)(m:MoveR)(w:Int):Decidable (Dm d m w):=by unfold Dm;exact inferInstance
theorem A1e{d:Int}{m:MoveR}{v w:Int}(hm:0<=m.rise+m.fall)(h0:0<=v)(h:v<=w)(hw:Dm d m w):Dm d m v:=by
 unfold Dm at hw⊢
 have h1:v*v<=w*w:=a3w h h h0 (by omega)
 have h2:=a3q h1 hm
 omega
def Ai(d:Int)(m:MoveR):Nat:=if d=0 then 0 else Ka (fun w=>decide (Dm d m w)) m.speed.toNat
theorem Aea(d:Int)(m:MoveR)(hm:Cm m)(hd:0<=d/\d<=1048576):Fz 230 [.i d,A0 m.row] (.i (Ai d m)):=by
 obtain⟨_,_,h3,h4,h5⟩:=hm
 by_cases hd0:d=0
 ·skip
  refine Fo Tryz.func230 ?_
  repeat' first|refine W ?_|(apply p0u A8 (by kernel_rfl))|refine V ?_|refine W2 ?_ ?_<;>intro hc
  all_goals exact Dd rfl rfl (by simp[Ai,hd0])
 ·have c1:0<=2*d*m.rise/\2*d*m.rise<=2097152*16384:=⟨a2c (by omega) (by omega),a3w (by omega) h4.2 (by omega) (by omega)⟩
  have c2:0<=2*d*m.rise*m.fall/\2*d*m.rise*m.fall<=2097152*16384*16384:=⟨a2c c1.1 (by omega),a3w c1.2 h5.2 (by omega) (by omega)⟩
  have key:∀w:Int,0<=w->w<=8192->(0<=w*w/\w*w<=8192*8192)/\0<=w*w*(m.rise+m.fall)/\w*w*(m.rise+m.fall)<=8192*8192*32768:=fun w g1 g2=>by
   have b1:0<=w*w/\w*w<=8192*8192:=⟨a2c g1 g1,a3w g2 g2 g1 (by omega)⟩
   exact⟨b1,a2c b1.1 (by omega),a3w b1.2 (by omega) (by omega) (by omega)⟩
  have hsp:((m.speed.toNat:Nat):Int)=m.speed:=Int.toNat_of_nonneg (by omega)
  refine Fo Tryz.func230 ?_
  repeat' first|refine W ?_|(apply p0u A8 (by kernel_rfl))|refine V ?_|refine W2 ?_ ?_<;>intro hc
  refine p0c (fun(p:Nat×Nat)=>p.1<=p.2/\p.2<=m.speed.toNat/\Dm d m p.1/\∀w:Nat,p.2<w->w<=m.speed.toNat->¬Dm d m w) (fun p=>p.2-p.1) (fun p=>[(5,.i p.1),(6,.i p.2),(0,.i d),(3,.ptr 0 0)]) (fun _=>[.live (m.row.map .lf)]) (0,m.speed.toNat) ⟨by omega,a0n _,by unfold Dm;simp only[b0h,a9v,b1e];omega,by intro w h1 h2;omega⟩ (.cons rfl rfl (.cons (by rw[hsp];rfl) rfl CV)) (.live rfl .nil) ?_
  rintro p ⟨i1,i2,i3,i4⟩
  by_cases hlt:p.1<p.2
  ·have h1:(p.1:Int)<p.2:=by omega
   have kb:=key (((p.1:Int)+p.2+1)/2) (by omega) (by omega)
   have hmid:((p.1:Int)+p.2+1)/2=(((p.1+p.2+1)/2:Nat):Int):=by omega
   repeat' first|refine WY ?_|refine Zdc ?_|refine V ?_|refine W2 ?_ ?_<;>intro hc
   all_goals first
    |exact Next.go ((p.1+p.2+1)/2,p.2) ⟨by simp only;omega,i2,by simp only;rw[<-hmid];assumption,i4⟩ (by simp only;omega) (.cons (by rw[<-hmid];rfl) rfl CV) (.live rfl .nil)
    |exact Next.go (p.1,(p.1+p.2+1)/2-1) ⟨by simp only;omega,by simp only;omega,i3,by
     intro w g1 g2 g3
     simp only at g1
     have g4:Dm d m (((p.1:Int)+p.2+1)/2):=A1e (v:=((p.1:Int)+p.2+1)/2) (by omega) (by omega) (by omega) g3
     exact absurd g4 (by assumption)⟩ (by simp only;omega) (.cons rfl rfl (.cons (by rw[show(((p.1+p.2+1)/2-1:Nat):Int)=((p.1:Int)+p.2+1)/2-1 by omega];rfl) rfl CV)) (.live rfl .nil)
  ·have h1:¬(p.1:Int)<p.2:=by omega
   have ht:Ai d m=p.1:=by
    unfold Ai
    rw[if_neg hd0]
    exact Y5 (.inr (decide_eq_true i3)) (by omega) fun w g1 g2 g3=>i4 w (by omega) g2 (of_decide_eq_true g3)
   repeat' first|refine WX ?_|refine W2 ?_ ?_<;>intro hc
   exact Dd rfl rfl (by rw[ht])
theorem Zl(d w:Int)(m:MoveR):(w*w*(m.rise+m.fall)<=2*m.rise*m.fall*d)↔Dm d m w:=by
 unfold Dm
 rw[show 2*m.rise*m.fall*d=2*d*m.rise*m.fall by ac_rfl]
theorem Ab9(d w:Int)(m:MoveR)(hm:Cm m)(hd:0<=d/\d<=1048576)(hw:0<=w/\w<=32768):Fz 294 [.i d,A0 m.row,.i w] (.b (decide (Dm d m w))):=by
 have:=Aem d w m hm hd hw
 rwa[decide_eq_decide.2 (Zl d w m)]at this
theorem A62(d:Int)(m:MoveR)(hm:Cm m)(hd:1<=d/\d<=1048576):Fz 261 [.i d,A0 m.row] (.i (Ai d m)):=by
 have hmv:=hm
 obtain⟨_,_,h3,h4,h5⟩:=hm
 have hpos:0<=2*d*m.rise*m.fall:=a2c (a2c (by omega) (by omega)) (by omega)
 refine Fo Tryz.func261 ?_
 repeat' first|refine WX ?_|refine W2 ?_ ?_<;>intro hc
 refine p0c (fun(p:Nat×Nat)=>(p.1:Int)<=m.speed/\p.2<=16384/\(p.2=0\/∃k,p.2=2^k)/\Dm d m p.1/\∀w:Nat,p.1+(if p.2=0 then 1 else 2*p.2)<=w->(w:Int)<=m.speed->¬Dm d m w) (fun p=>p.2) (fun p=>[(5,.i p.1),(6,.i p.2),(0,.i d),(3,.ptr 0 0)]) (fun _=>[.live (m.row.map .lf)]) (0,16384) ⟨by simp only[b1e,b0h];omega,a0n _,.inr ⟨14,rfl⟩,by unfold Dm;simp only[b0h,a9v,b1e];exact hpos,by intro w h1 h2;have h9:0+32768<=w:=h1;omega⟩ CV (.live rfl .nil) ?_
 rintro p ⟨i1,i2,i3,i4,i5⟩
 by_cases hlt:0<p.2
 ·have h1:(p.2:Int)>0:=by omega
  have h1':(0:Int)<p.2:=by omega
  have hhalf:(p.2:Int)/2=((p.2/2:Nat):Int):=by omega
  have hpow:(p.2/2=0\/∃k,p.2/2=2^k)/\(if p.2/2=0 then 1 else 2*(p.2/2))=p.2:=by
   rcases i3 with i3|⟨k,i3⟩
   ·omega
   ·cases k with
    |zero=>rw[i3];exact⟨.inl rfl,rfl⟩
    |succ k=>
     have e:p.2/2=2^k:=by rw[i3,a3c];omega
     have e2:0<2^k:=Nat.two_pow_pos k
     refine⟨.inr ⟨k,e⟩,?_⟩
     rw[if_neg (by omega),e,i3,a3c];omega
  have i5':∀w:Nat,p.1+2*p.2<=w->(w:Int)<=m.speed->¬Dm d m w:=fun w g1 g2=>i5 w (by rw[if_neg (by omega)];exact g1) g2
  repeat' first|refine WY ?_|(apply S.call;exact rfl;exact rfl;exact Ab9 d _ m hmv (by omega) (by omega);exact rfl)|refine Zdc ?_|refine V ?_|refine W2 ?_ ?_<;>intro hc
  all_goals first
   |exact Next.go (p.1+p.2,p.2/2) ⟨by simp only[Int.natCast_add];omega,by simp only;omega,hpow.1,by simp only[Int.natCast_add];assumption,by
    intro w g1 g2
    simp only at g1
    rw[hpow.2]at g1
    exact i5' w (by omega) g2⟩ (by simp only;omega) (.cons (by rw[show((p.1+p.2:Nat):Int)=(p.1:Int)+p.2 by omega];rfl) rfl (.cons (by rw[<-hhalf];rfl) rfl CV)) (.live rfl .nil)
   |exact Next.go (p.1,p.2/2) ⟨i1,by simp only;omega,hpow.1,i4,by
    intro w g1 g2 g3
    simp only at g1
    rw[hpow.2]at g1
    have g4:Dm d m ((p.1:Int)+p.2):=A1e (v:=(p.1:Int)+p.2) (by omega) (by omega) (by omega) g3
    first|contradiction|omega⟩ (by simp only;omega) (.cons rfl rfl (.cons (by rw[<-hhalf];rfl) rfl CV)) (.live rfl .nil)
 ·have h1:¬(p.2:Int)>0:=by omega
  have h1':¬(0:Int)<p.2:=by omega
  have ht:Ai d m=p.1:=by
   unfold Ai
   rw[if_neg (by omega)]
   exact Y5 (.inr (decide_eq_true i4)) (by omega) fun w g1 g2 g3=>i5 w (by rw[if_pos (by omega)];omega) (by omega) (of_decide_eq_true g3)
  repeat' first|refine WX ?_|refine W2 ?_ ?_<;>intro hc
  exact Dd rfl rfl (by rw[ht])
end Go.Proofs.YtcaicpnepfjcmaaGreat
