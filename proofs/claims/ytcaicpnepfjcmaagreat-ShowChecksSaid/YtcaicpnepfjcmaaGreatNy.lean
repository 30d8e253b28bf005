/- Lemmas of the proof. -/
import Derived.Calls
import Derived.Shelf.SlSortCmp.WholeK
import Derived.Shelf.Spec.SlicesGrow
import Derived.Test.YtcaicpnepfjcmaaGreatProg
set_option linter.all false
namespace Go.Proofs.YtcaicpnepfjcmaaGreat
def a1b:= @Nat.le_trans
def a3m:= @Nat.le_refl
def b3a:= @Nat.le_succ
end Go.Proofs.YtcaicpnepfjcmaaGreat
namespace Go.Proofs.YtcaicpnepfjcmaaGreat.Up
open Go
theorem A0q{α:Type}:∀(x:Ask α)(w:World),w.drawn<=(w.ask x).2.drawn
 | .done a,w=>by unfold World.ask;exact a3m _
 | .ask what range k,w=>by
  unfold World.ask
  simp only[]
  split
  ·exact A0q (k 0) w
  ·exact a1b (b3a _) (A0q (k _) {w with drawn:=w.drawn+1})
theorem Ace(w:World)(c:Sys):w.drawn<=(w.sys c).2.drawn:=by
 unfold World.sys
 have:=A0q (Kernel.perform c w.os) w
 split
 ·exact a3m _
 ·rename_i h
  rw[h]at this
  exact this
theorem Afv{ε α β:Type}{x:Except ε α}{f:α->Except ε β}{b:β}(h:(x>>=f)=.ok b):∃a,x=.ok a/\f a=.ok b:=by
 cases x with
 |error e=>cases h
 |ok a=>exact⟨a,rfl,h⟩
theorem A3n{p:Program}{w:World}{at_:Addr}{u:TypeId}{k:Addr}{v:Value}{atomic:Bool}{r:World×List Addr}(h:w.viewStore p at_ u k v atomic=.ok r):r.1.drawn=w.drawn:=by
 unfold World.viewStore at h
 simp only[]at h
 repeat' (first|(split at h)|(obtain⟨_,_,h⟩:=Afv h))
 all_goals first
  |(cases h;done)
  |(injection h with h;rw[<-h])
theorem Tf{p:Program}{w:World}{a:Addr}{v:Value}{b:Bool}{r:World×List Addr}(h:w.farStore p a v b=.ok r):r.1.drawn=w.drawn:=by
 unfold World.farStore at h
 split at h
 ·split at h
  ·rename_i h2
   injection h with h
   rw[<-h]
   exact A3n h2
  ·cases h
 ·cases h
def rw_{α:Type}:Result α->World
 | .ok _ w=>w
 | .halt _ w=>w
theorem Ac2{α:Type}(p:Program):∀(s:Sem α)(w:World),w.drawn<=(rw_ (s.run p w)).drawn:=by
 intro s
 induction s with
 |pure a=>intro w;exact a3m _
 |load m a k ih=>
  intro w
  rw[Sem.run]
  split
  ·exact ih _ _
  ·split
   ·exact ih _ _
   ·exact a3m _
 |store m a v k ih=>
  intro w
  cases v<;>rw[Sem.run]<;>first|exact a3m _|skip
  all_goals first
   |(intro _ h;cases h;done)
   |(split
     ·split
      ·exact a3m _
      ·exact ih (w.setCell a _)
     ·split
      ·rename_i h
       have:=Tf h
       exact a1b (Nat.le_of_eq this.symm) (ih _)
      ·exact a3m _)
 |new o k ih=>intro w;rw[Sem.run];exact ih _ {w with heap:=w.heap.push o}
 |shape r k ih=>intro w;rw[Sem.run];exact ih _ _
 |freeze a n k ih=>intro w;rw[Sem.run];have:=ih (w.freeze a n);unfold World.freeze at this⊢;split<;>simp_all
 |frozen a k ih=>intro w;rw[Sem.run];exact ih _ _
 |getObj r k ih=>intro w;rw[Sem.run];split<;>first|exact ih _ _|exact a3m _
 |setObj r o k ih=>intro w;rw[Sem.run];split<;>first|exact ih {w with heap:=w.heap.setIfInBounds r o}|exact a3m _
 |choose q k ih=>
  intro w
  rw[Sem.run]
  split
  ·exact ih _ _
  ·exact a1b (b3a _) (ih _ {w with drawn:=w.drawn+1})
 |sys c k ih=>intro w;rw[Sem.run];exact a1b (Ace w c) (ih _ _)
 |program k ih=>intro w;rw[Sem.run];exact ih _ _
 |mark m k ih=>intro w;rw[Sem.run];exact ih _
 |halt h=>intro w;exact a3m _
theorem Sv{α:Type}(p:Program):∀(s:Sem α)(w:World)(es:Array Event),w.drawn<=(rw_ (s.runT p w es).1).drawn:=by
 intro s
 induction s with
 |pure a=>intro w es;exact a3m _
 |load m a k ih=>
  intro w es
  rw[Sem.runT]
  split
  ·exact ih _ _ _
  ·split
   ·exact ih _ _ _
   ·exact a3m _
 |store m a v k ih=>
  intro w es
  cases v<;>rw[Sem.runT]<;>first|exact a3m _|skip
  all_goals first
   |(intro _ h;cases h;done)
   |(split
     ·split
      ·exact a3m _
      ·exact ih (w.setCell a _) _
     ·split
      ·rename_i h
       have:=Tf h
       exact a1b (Nat.le_of_eq this.symm) (ih _ _)
      ·exact a3m _)
 |new o k ih=>intro w es;rw[Sem.runT];exact ih _ {w with heap:=w.heap.push o} _
 |shape r k ih=>intro w es;rw[Sem.runT];exact ih _ _ _
 |freeze a n k ih=>intro w es;rw[Sem.runT];have:=ih (w.freeze a n) es;unfold World.freeze at this⊢;split<;>simp_all
 |frozen a k ih=>intro w es;rw[Sem.runT];exact ih _ _ _
 |getObj r k ih=>intro w es;rw[Sem.runT];split<;>first|exact ih _ _ _|exact a3m _
 |setObj r o k ih=>intro w es;rw[Sem.runT];split<;>first|exact ih {w with heap:=w.heap.setIfInBounds r o} _|exact a3m _
 |choose q k ih=>
  intro w es
  rw[Sem.runT]
  split
  ·exact ih _ _ _
  ·exact a1b (b3a _) (ih _ {w with drawn:=w.drawn+1} _)
 |sys c k ih=>intro w es;rw[Sem.runT];exact a1b (Ace w c) (ih _ _ _)
 |program k ih=>intro w es;rw[Sem.runT];exact ih _ _ _
 |mark m k ih=>intro w es;rw[Sem.runT];exact ih _ _
 |halt h=>intro w es;exact a3m _

/-! ### Steps -/
def UpG(n:Nat):GStep->Prop
 | .go _ w _=>n<=w.drawn
 | .comm _ _ _ _ w _=>n<=w.drawn
 | .spawn _ _ w _=>n<=w.drawn
 | .count _ w _=>n<=w.drawn
 | .timer _ _ w _=>n<=w.drawn
 | .alone _ _ w _=>n<=w.drawn
 | .newcoro _ _ _ w _=>n<=w.drawn
 | .coroswitch _ _ _ w _=>n<=w.drawn
 | .collect _ w _=>n<=w.drawn
 | .watch _ w _=>n<=w.drawn
 | .ended _ _ _=>True
theorem UpG.after{n:Nat}{es:Array Event}{s:GStep}(h:UpG n s):UpG n (s.after es):=by
 cases s<;>exact h
theorem Ni{n:Nat}{fr:Frame}{m:String}{w:World}(h:n<=w.drawn):UpG n (endThrow fr m w):=h
theorem Nt{n:Nat}{p:Program}{fr:Frame}{v:Value}{w:World}(h:n<=w.drawn):UpG n (endPrinting p fr v w):=by
 unfold endPrinting
 simp only[]
 split
 ·exact h
 ·trivial
theorem A7h{n:Nat}{w:World}{fd:Nat}{t:ByteArray}{o:Outcome}:UpG n (endWith w fd t o):=by
 unfold endWith
 simp only[]
 split
 ·split<;>trivial
 ·trivial
 ·trivial
theorem Er{α:Type}{p:Program}{s:Sem α}{w w':World}{a:α}(h:s.run p w=.ok a w'):w.drawn<=w'.drawn:=by
 have:=Ac2 p s w
 rw[h]at this;exact this
theorem A6e{α:Type}{p:Program}{s:Sem α}{w w':World}{a:Halt}(h:s.run p w=.halt a w'):w.drawn<=w'.drawn:=by
 have:=Ac2 p s w
 rw[h]at this;exact this
theorem Te{n:Nat}{p:Program}{fr:Frame}{cs:List Frame}{d:Option Dying}{m:String}{w:World}(h:n<=w.drawn):UpG n (endFatal p fr cs d m w):=by
 unfold endFatal
 simp only[]
 split
 ·rename_i h2
  exact a1b h (Er h2)
 ·trivial
 ·trivial
theorem Ail{α:Type}{p:Program}{s:Sem α}{w w':World}{a:α}{es es':Array Event}(h:s.runT p w es=(.ok a w',es')):w.drawn<=w'.drawn:=by
 have:=Sv p s w es
 rw[h]at this;exact this
theorem Af3{α:Type}{p:Program}{s:Sem α}{w w':World}{a:Halt}{es es':Array Event}(h:s.runT p w es=(.halt a w',es')):w.drawn<=w'.drawn:=by
 have:=Sv p s w es
 rw[h]at this;exact this
theorem A8p{n:Nat}{p:Program}{fr:Frame}{d:Dying}{f:Fatal}{w:World}(h:n<=w.drawn):UpG n (writeOn p fr d f w):=by
 unfold writeOn
 simp only[]
 split
 ·trivial
 ·split
  ·rename_i h2;exact a1b h (Ail h2)
  ·rename_i h2;exact a1b h (Af3 h2)
  ·trivial
  ·trivial
theorem Fv{α:Type}{p:Program}{s:Sem α}{w w':World}{a:α}{es:Array Event}(h:(s.runT p w es).1=.ok a w'):w.drawn<=w'.drawn:=by
 have:=Sv p s w es
 rw[h]at this;exact this
theorem J0{α:Type}{p:Program}{s:Sem α}{w w':World}{a:Halt}{es:Array Event}(h:(s.runT p w es).1=.halt a w'):w.drawn<=w'.drawn:=by
 have:=Sv p s w es
 rw[h]at this;exact this
theorem Ahw{n:Nat}{p:Program}{fr:Frame}{d:Dying}{w:World}(h:n<=w.drawn):UpG n (die p fr d w):=by
 unfold die
 simp only[]
 split
 ·exact A8p h
 ·split
  ·split
   ·exact h
   ·exact A7h
  ·split
   ·exact h
   ·split
    ·rename_i h2;exact a1b h (Er h2)
    ·trivial
   ·apply UpG.after
    split
    ·rename_i h2;exact a1b h (Fv h2)
    ·rename_i h2;exact a1b h (Fv h2)
    ·trivial
    ·rename_i h2;exact Nt (a1b h (J0 h2))
    ·trivial
   ·trivial
theorem Kg{n:Nat}{p:Program}{b:Bool}{fr:Frame}{cs:List Frame}{d:Option Dying}{v:Value}{w:World}(h:n<=w.drawn):UpG n (doReturn p b fr cs d v w):=by
 unfold doReturn
 simp only[]
 repeat' split
 all_goals first|exact h|trivial
theorem Gz{n:Nat}{c:Prop}[Decidable c]{a b:GStep}(h:UpG n a)(k:UpG n b):UpG n (if c then a else b):=by
 split<;>assumption
theorem V9{n:Nat}{p:Program}{fr:Frame}{cs:List Frame}{dy:Option Dying}{d:Deferred}{w:World}(h:n<=w.drawn):UpG n (callDeferred p fr cs dy d w):=by
 unfold callDeferred
 simp only[]
 refine Gz trivial ?_
 ·apply UpG.after
  split
  all_goals rename_i h2
  all_goals first
   |trivial
   |exact a1b h (Fv h2)
   |exact a1b h (J0 h2)
   |exact Te (a1b h (J0 h2))
   |exact Ni (a1b h (J0 h2))
   |(split<;>first|exact a1b h (Fv h2)|trivial)
   |(exfalso;assumption)
   |skip
theorem Acm{n:Nat}{p:Program}{b:Bool}{fr:Frame}{cs:List Frame}{dy:Option Dying}{w:World}(h:n<=w.drawn):UpG n (unwind p b fr cs dy w):=by
 unfold unwind
 simp only[]
 split
 ·apply UpG.after
  split
  ·rename_i h2;exact a1b h (Fv h2)
  ·trivial
 ·exact V9 h
 ·split
  ·trivial
  ·split
   ·trivial
   ·split
    ·exact h
    ·split
     ·split
      ·exact h
      ·split
       ·rename_i h2;exact a1b h (Er h2)
       ·trivial
       ·trivial
     ·split
      ·exact Nt h
      ·trivial
  ·split
   ·exact Kg h
   ·apply UpG.after
    split
    ·rename_i h2;exact Kg (a1b h (Fv h2))
    ·trivial
    ·trivial

theorem Wt{α:Type}{p:Program}{s:Sem α}{b:Bool}{w w':World}{a:α}(h:(if b=true then s.runT p w #[]else(s.run p w, #[])).1=.ok a w'):w.drawn<=w'.drawn:=by
 cases b
 ·exact Er h
 ·exact Fv h
theorem Pv{α:Type}{p:Program}{s:Sem α}{b:Bool}{w w':World}{a:Halt}(h:(if b=true then s.runT p w #[]else(s.run p w, #[])).1=.halt a w'):w.drawn<=w'.drawn:=by
 cases b
 ·exact A6e h
 ·exact J0 h
theorem Ad7{n:Nat}{p:Program}{fr:Frame}{cs:List Frame}{dy:Option Dying}{g:Nat}{w:World}(h:n<=w.drawn):UpG n (early p fr cs dy g w):=by
 unfold early
 simp only[]
 have ny:∀w:World,n<=w.drawn->UpG n (match w.heap[g]? with
  |some (.pending c elem)=>.go {frame:=fr,callers:=cs,status:=.running,dying:=dy} {w with heap:=w.heap.setIfInBounds g (.cells c elem)}
  |_=>.ended (.stuck "early: the variable does not wait" (fr.pos p)) w):=fun w h=>by
  split
  ·exact h
  ·trivial
 refine Gz (ny w h) ?_
 split
 ·trivial
 ·refine Gz (ny w h) ?_
  refine Gz (ny w h) ?_
  split
  ·trivial
  ·exact h
  ·trivial
  ·exact ny w h
  ·refine Gz h ?_
   refine Gz (ny w h) ?_
   split
   ·rename_i h2;exact ny _ (a1b h (Er h2))
   ·rename_i h2;exact a1b h (Er h2)
   ·trivial
theorem M1{n:Nat}{p:Program}{b:Bool}{fr:Frame}{cs:List Frame}{dy:Option Dying}{s:Sem Next}{w:World}(h:n<=w.drawn):UpG n (stepG.apply p b fr cs dy s w):=by
 unfold stepG.apply
 simp only[]
 apply UpG.after
 split
 all_goals(try rename_i h2)
 all_goals first
  |trivial
  |exact a1b h (Wt h2)
  |exact a1b h (Pv h2)
  |exact Te (a1b h (Pv h2))
  |exact Ni (a1b h (Pv h2))
  |exact Ad7 (a1b h (Pv h2))
  |(refine Gz (Ni (a1b h (Wt h2))) ?_;exact a1b h (Wt h2))
  |(have h3:=a1b h (Wt h2);clear h2;split<;>exact h3)
theorem Agk{n:Nat}{p:Program}{b:Bool}{fr:Frame}{cs:List Frame}{dy:Option Dying}{w:World}(h:n<=w.drawn):UpG n (stepG.oper p b fr cs dy w):=by
 unfold stepG.oper
 split
 ·trivial
 ·split
  ·exact M1 h
  ·exact M1 h
theorem A4x{n:Nat}{α:Type}{o:Option α}{a:GStep}{f:α->GStep}(h:UpG n a)(k:∀x,UpG n (f x)):UpG n (o.elim a f):=by
 cases o
 ·exact h
 ·exact k _
theorem Ag0{n:Nat}{p:Program}{main b:Bool}{fr:Frame}{cs:List Frame}{dy:Option Dying}{w:World}(h:n<=w.drawn):UpG n (stepG.exec p main b fr cs dy w):=by
 unfold stepG.exec
 simp only[]
 split
 all_goals first
  |exact h
  |trivial
  |exact M1 h
  |(split
    ·refine Gz h trivial
    ·apply UpG.after
     split
     ·rename_i h2;exact Kg (a1b h (Fv h2))
     ·trivial)
  |(split<;>first|exact h|trivial)
  |(refine A4x ?_ (fun _=>h)
    split
    ·refine Gz h trivial
    ·apply UpG.after
     split
     ·rename_i h2;exact Kg (a1b h (Fv h2))
     ·trivial)
  |(apply UpG.after
    split
    ·rename_i h2;exact M1 (a1b h (Fv h2))
    ·trivial)
  |(apply UpG.after
    split
    ·rename_i h2;exact a1b h (Fv h2)
    ·rename_i h2;exact a1b h (J0 h2)
    ·trivial)
  |(refine A4x trivial (fun _=>M1 h))
  |(refine Gz h ?_
    split
    ·rename_i h2;exact a1b h (Er h2)
    ·trivial)
  |(refine Gz (Agk h) h)
  |skip
theorem Afa{n:Nat}{p:Program}{main b:Bool}{g:Goroutine}{w:World}(h:n<=w.drawn):UpG n (stepG p main g w b):=by
 unfold stepG
 simp only[]
 split
 ·exact Ahw h
 ·exact Ag0 h
 ·exact Acm h

/-! ### The machine -/
def UpS(n:Nat):Stepped->Prop
 | .next m=>n<=m.world.drawn
 | .ended _ _=>True
def UpM(n:Nat):Move->Prop
 | .goroutine m _=>n<=m.world.drawn
 | .machine s _=>UpS n s
theorem A59{n:Nat}{c:Prop}[Decidable c]{a b:Stepped}(h:UpS n a)(k:UpS n b):UpS n (if c then a else b):=by
 split<;>assumption
theorem Xj{n:Nat}{c:Prop}[Decidable c]{a b:Stepped×Array MemOp}(h:UpS n a.1)(k:UpS n b.1):UpS n (if c then a else b).1:=by
 split<;>assumption
theorem A3o{rest:Rest}{cs:Array CommCase}{w w':World}(h:waitingAt rest cs w=some w'):w'.drawn=w.drawn:=by
 unfold waitingAt at h
 split at h
 ·split at h
  ·injection h with h;rw[<-h]
  ·cases h
 ·injection h with h;rw[h]
theorem Xb{n:Nat}{p:Program}{rest:Rest}{gs:Array Goroutine}{i:Nat}{g:Goroutine}{cs:Array CommCase}{b:Bool}{sh:CommShape}{w:World}(h:n<=w.drawn):UpS n (communicate p rest gs i g cs b sh w).1:=by
 unfold communicate
 simp only[]
 refine Xj trivial ?_
 refine Xj ?_ ?_
 ·refine Xj ?_ h
  split
  ·rename_i h2
   have:=A3o h2
   show n<=_
   rw[this];exact h
  ·trivial
 ·split
  ·trivial
  ·rename_i h2
   have h3:=a1b h (Er h2)
   clear h2 h
   split
   ·split
    ·rename_i h4;exact a1b h3 (A6e h4)
    ·trivial
   ·exact h3
   ·exact h3
   ·split
    ·exact h3
    ·split
     ·rename_i h4
      have h5:=Er h4
      exact a1b h3 h5
     ·trivial
   ·exact h3
   ·exact h3
   ·trivial
theorem A5h{n:Nat}{p:Program}{gs:Array Goroutine}{rest:Rest}{w:World}(h:n<=w.drawn):UpS n (look p gs rest w):=by
 unfold look
 simp only[]
 split
 ·refine A59 trivial ?_
  split
  ·trivial
  ·split
   ·rename_i h2
    have h5:=Er h2
    exact a1b h h5
   ·trivial
   ·trivial
 ·trivial
theorem Ad6(w:World)(c:Nat):(drain w c).2.drawn=w.drawn:=by
 unfold drain
 split<;>rfl
theorem Zj(m:Machine)(k:Nat)(t:Timer)(a b:Nat):(retime m k t a b).2.world.drawn=m.world.drawn:=by
 unfold retime
 simp only[]
 split
 ·exact Ad6 _ _
 ·rfl
theorem A24{m:Machine}{var:Addr}{f:Nat->Timer->Value×Machine}{r:Value×Machine}{n:Nat}(hf:∀k t,(f k t).2.world.drawn=n)(h:timerOp.named m var f=.ok r):r.2.world.drawn=n:=by
 unfold timerOp.named at h
 split at h
 ·injection h with h;rw[<-h];exact hf _ _
 ·cases h
theorem Aal{m m':Machine}{var:Addr}(h:timerOp.opened m var=some m'):m'.world.drawn=m.world.drawn:=by
 unfold timerOp.opened at h
 split at h
 ·split at h
  ·injection h with h;rw[<-h]
  ·cases h
 ·injection h with h;rw[h]
theorem A8j{m:Machine}{op:TimerOp}{r:Value×Machine}(h:timerOp m op=.ok r):r.2.world.drawn=m.world.drawn:=by
 unfold timerOp at h
 split at h
 ·split at h
  ·injection h with h;rw[<-h];rfl
  ·split at h
   ·split at h
    ·cases h
    ·injection h with h;rw[<-h]
   ·cases h
 ·exact A24 (fun k t=>Zj _ _ _ _ _) h
 ·split at h
  ·rename_i h2
   have:=Aal h2
   exact A24 (fun k t=>(Zj _ _ _ _ _).trans this) h
  ·cases h
 ·injection h with h;rw[<-h];rfl
theorem Af4{n:Nat}{p:Program}{m:Machine}{k:Nat}(h:n<=m.world.drawn):UpS n (serve p m k):=by
 unfold serve
 simp only[]
 split
 ·trivial
 ·exact h
 ·split
  ·trivial
  ·exact h
theorem A32{n:Nat}{p:Program}{m:Machine}{i:Nat}{b:Bool}(h:n<=m.world.drawn):UpS n (runT p m i b).1:=by
 unfold runT
 simp only[]
 have key:=Afa (n:=n) (p:=p) (main:=i==0) (b:=b) (g:=(m.gs.swapAt! i {(default:Goroutine)with status:=.finished}).1) (w:=m.world) h
 split
 all_goals(rename_i h2;rw[h2]at key)
 all_goals first
  |trivial
  |exact key
  |exact Xb key
  |exact A5h key
  |(exact A59 trivial key)
  |(dsimp only[endThrow,dieOf]
    split<;>first|exact key|trivial)
  |(dsimp only[endThrow,dieOf]
    split
    ·rename_i h4
     have:=A8j h4
     show n<=_
     rw[this]
     exact key
    all_goals first|exact key|trivial)
theorem Xt{n:Nat}{p:Program}{m:Machine}{rs:List Nat}(h:n<=m.world.drawn):UpM n (match(choose (.sched rs.length)).run p m.world with
   | .halt _ w=>.machine (.ended (.stuck "sched" "") w)
   | .ok k world=>
    if rs.length<=1 then .goroutine {m with world} (rs.getD k 0)else
    match(choose (.extern "sched.slice" 65536)).run p world with
    | .halt _ w=>.machine (.ended (.stuck "sched.slice" "") w)
    | .ok n world=>.goroutine {m with world,rest:={m.rest with slice:=if n=0 then none else some (rs.getD k 0,n)}} (rs.getD k 0)):=by
 split
 ·trivial
 ·rename_i h2
  have h3:=a1b h (Er h2)
  split
  ·exact h3
  ·split
   ·trivial
   ·rename_i h4
    have h5:=Er h4
    exact a1b h3 h5
theorem Tx{n:Nat}{p:Program}{m:Machine}(h:n<=m.world.drawn):UpM n (askOn p m):=by
 unfold askOn
 simp only[]
 split
 ·trivial
 ·rename_i h2
  have h3:=a1b h (Er h2)
  split
  ·exact Af4 h3
  ·split
   ·split
    ·exact h3
    ·split
     ·exact h3
     ·split<;>trivial
   ·split
    ·exact Xt (m:={m with world:=_}) h3
    ·split
     ·trivial
     ·rename_i h4
      have h5:=a1b h3 (Er h4)
      exact Xt (m:={m with world:=_}) h5
     ·rename_i h4
      have h5:=a1b h3 (Er h4)
      exact h5
     ·rename_i h4
      have h5:=a1b h3 (Er h4)
      exact Xt (m:=Machine.advanceTo {m with world:=_} _) h5
theorem A4q{n:Nat}{p:Program}{m:Machine}(h:n<=m.world.drawn):UpM n (ask p m):=by
 unfold ask
 split
 ·split
  ·trivial
  ·rename_i h2
   have h3:=a1b h (Er h2)
   have h4:=A5h (p:=p) (gs:=m.gs) (rest:=m.rest) h3
   split
   ·rename_i h5
    rw[h5]at h4
    exact Tx h4
   ·exact h4
  ·rename_i h2
   exact Tx (m:={m with world:=_}) (a1b h (Er h2))
 ·exact Tx h
theorem Agf{n:Nat}{p:Program}{m:Machine}(h:n<=m.world.drawn):UpM n (move p m):=by
 unfold move
 split
 ·split
  ·exact h
  ·trivial
 ·split
  ·split
   ·exact h
   ·exact A4q h
  ·exact A4q h
theorem Ah7{n:Nat}{p:Program}{m:Machine}(h:n<=m.world.drawn):UpS n (step p m):=by
 unfold step stepT
 have:=Agf (p:=p) h
 split
 ·rename_i h2
  rw[h2]at this
  exact A32 this
 ·rename_i h2
  rw[h2]at this
  exact this
theorem A6d{p:Program}:∀(k:Nat){n:Nat}{m m':Machine},n<=m.world.drawn->runN p k m=.next m'->n<=m'.world.drawn
 |0,n,m,m',h,hr=>by
  rw[runN]at hr
  injection hr with hr
  rw[<-hr];exact h
 |k+1,n,m,m',h,hr=>by
  rw[runN]at hr
  have:=Ah7 (p:=p) h
  cases hs:step p m with
  |next m2=>
   rw[hs]at hr this
   exact A6d k this hr
  |ended o w=>rw[hs]at hr;cases hr
theorem calls_up{P:Program}{f:FuncId}{args:Array Value}{w:World}{v:Value}{R:World->Prop}(h:Calls P f args w fun e w'=>e=.returned v/\R w'):Calls P f args w fun e w'=>e=.returned v/\R w'/\w.drawn<=w'.drawn:=by
 intro cs
 obtain⟨e,w',fr,⟨rfl,hR⟩,hc,hf,hl⟩:=h cs
 refine⟨_,w',fr,⟨rfl,hR,?_⟩,hc,hf,hl⟩
 obtain⟨k,hk⟩:=hc
 exact A6d k (n:=w.drawn) (a3m _) hk
end Go.Proofs.YtcaicpnepfjcmaaGreat.Up
namespace Go.Proofs
open Go.Shelf
def Tryz.srt_ren:Go.Shelf.Ren:=⟨fun|6=>284|15=>299|14=>298|28=>310|29=>301|20=>302|21=>303|22=>304|23=>305|24=>306|25=>307|26=>308|27=>309|46=>311|47=>312|48=>313|49=>314|50=>315|57=>316|n=>n,fun|22=>286|24=>55|25=>112|3=>3|39=>261|0=>0|53=>321|55=>142|4=>4|46=>355|45=>354|50=>274|5=>5|9=>9|66=>361|70=>365|76=>367|77=>49|n=>n,fun|n=>n⟩
theorem Tryz.srt:Go.Proofs.SlLaysF0.n6 Tryz.prog Tryz.srt_ren:={
 mixed:=by kernel_rfl
 f6:=⟨Tryz.f284.name,by decide,Tryz.func284.trans (congrArg some (by kernel_rfl))⟩
 f14:=⟨Tryz.f298.name,by decide,Tryz.func298.trans (congrArg some (by kernel_rfl))⟩
 f15:=Tryz.func299.trans (congrArg some (by kernel_rfl))
 f20:=⟨Tryz.f302.name,by decide,Tryz.func302.trans (congrArg some (by kernel_rfl))⟩
 f21:=⟨Tryz.f303.name,by decide,Tryz.func303.trans (congrArg some (by kernel_rfl))⟩
 f22:=⟨Tryz.f304.name,by decide,Tryz.func304.trans (congrArg some (by kernel_rfl))⟩
 f23:=⟨Tryz.f305.name,by decide,Tryz.func305.trans (congrArg some (by kernel_rfl))⟩
 f24:=⟨Tryz.f306.name,by decide,Tryz.func306.trans (congrArg some (by kernel_rfl))⟩
 f25:=⟨Tryz.f307.name,by decide,Tryz.func307.trans (congrArg some (by kernel_rfl))⟩
 f26:=⟨Tryz.f308.name,by decide,Tryz.func308.trans (congrArg some (by kernel_rfl))⟩
 f27:=⟨Tryz.f309.name,by decide,Tryz.func309.trans (congrArg some (by kernel_rfl))⟩
 f28:=Tryz.func310.trans (congrArg some (by kernel_rfl))
 f29:=Tryz.func301.trans (congrArg some (by kernel_rfl))
 f46:=⟨Tryz.f311.name,by decide,Tryz.func311.trans (congrArg some (by kernel_rfl))⟩
 f47:=Tryz.func312.trans (congrArg some (by kernel_rfl))
 f48:=Tryz.func313.trans (congrArg some (by kernel_rfl))
 f49:=⟨Tryz.f314.name,by decide,Tryz.func314.trans (congrArg some (by kernel_rfl))⟩
 f50:=⟨Tryz.f315.name,by decide,Tryz.func315.trans (congrArg some (by kernel_rfl))⟩
 f57:=⟨Tryz.f316.name,by decide,Tryz.func316.trans (congrArg some (by kernel_rfl))⟩
 t0:=Tryz.underlying0
 a0:=Tryz.isAgg0
 z0:=Tryz.sizeOf0
 v0:=Tryz.zeroValue0
 t3:=Tryz.underlying3
 a3:=Tryz.isAgg3
 z3:=Tryz.sizeOf3
 v3:=Tryz.zeroValue3
 t4:=Tryz.underlying4
 a4:=Tryz.isAgg4
 z4:=Tryz.sizeOf4
 v4:=Tryz.zeroValue4
 t5:=Tryz.underlying5
 a5:=Tryz.isAgg5
 z5:=Tryz.sizeOf5
 v5:=Tryz.zeroValue5
 t9:=Tryz.underlying9
 a9:=Tryz.isAgg9
 z9:=Tryz.sizeOf9
 v9:=Tryz.zeroValue9
 t22:=Tryz.underlying286
 a22:=Tryz.isAgg286
 z22:=Tryz.sizeOf286
 v22:=Tryz.zeroValue286
 t25:=Tryz.underlying112
 a25:=Tryz.isAgg112
 z25:=Tryz.sizeOf112
 v25:=Tryz.zeroValue112
 t39:=Tryz.underlying261
 a39:=Tryz.isAgg261
 z39:=Tryz.sizeOf261
 v39:=Tryz.zeroValue261
 t45:=Tryz.underlying354
 a45:=Tryz.isAgg354
 z45:=Tryz.sizeOf354
 v45:=Tryz.zeroValue354
 t46:=Tryz.underlying355
 a46:=Tryz.isAgg355
 z46:=Tryz.sizeOf355
 v46:=Tryz.zeroValue355
 t50:=Tryz.underlying274
 a50:=Tryz.isAgg274
 z50:=Tryz.sizeOf274
 v50:=Tryz.zeroValue274
 t53:=Tryz.underlying321
 a53:=Tryz.isAgg321
 z53:=Tryz.sizeOf321
 v53:=Tryz.zeroValue321
 t55:=Tryz.underlying142
 a55:=Tryz.isAgg142
 z55:=Tryz.sizeOf142
 v55:=Tryz.zeroValue142
 t66:=Tryz.underlying361
 a66:=Tryz.isAgg361
 z66:=Tryz.sizeOf361
 v66:=Tryz.zeroValue361
 t70:=Tryz.underlying365
 a70:=Tryz.isAgg365
 z70:=Tryz.sizeOf365
 v70:=Tryz.zeroValue365
 t76:=Tryz.underlying367
 a76:=Tryz.isAgg367
 z76:=Tryz.sizeOf367
 v76:=Tryz.zeroValue367
 t77:=Tryz.underlying49
 a77:=Tryz.isAgg49
 z77:=Tryz.sizeOf49
 v77:=Tryz.zeroValue49}
def Tryz.grow_ren:Go.Shelf.Ren:=⟨fun|4=>297|n=>n,fun|22=>73|25=>192|3=>3|4=>4|9=>9|20=>20|0=>0|n=>n,fun|n=>n⟩
theorem Tryz.grow:Go.Proofs.Lays8.n4 Tryz.prog Tryz.grow_ren:={
 mixed:=by kernel_rfl
 f4:=⟨Tryz.f297.name,by decide,Tryz.func297.trans (congrArg some (by kernel_rfl))⟩
 t0:=Tryz.underlying0
 a0:=Tryz.isAgg0
 z0:=Tryz.sizeOf0
 v0:=Tryz.zeroValue0
 t3:=Tryz.underlying3
 a3:=Tryz.isAgg3
 z3:=Tryz.sizeOf3
 v3:=Tryz.zeroValue3
 t4:=Tryz.underlying4
 a4:=Tryz.isAgg4
 z4:=Tryz.sizeOf4
 v4:=Tryz.zeroValue4
 t9:=Tryz.underlying9
 a9:=Tryz.isAgg9
 z9:=Tryz.sizeOf9
 v9:=Tryz.zeroValue9
 t20:=Tryz.underlying20
 a20:=Tryz.isAgg20
 z20:=Tryz.sizeOf20
 v20:=Tryz.zeroValue20
 t22:=Tryz.underlying73
 a22:=Tryz.isAgg73
 z22:=Tryz.sizeOf73
 v22:=Tryz.zeroValue73}
end Go.Proofs
