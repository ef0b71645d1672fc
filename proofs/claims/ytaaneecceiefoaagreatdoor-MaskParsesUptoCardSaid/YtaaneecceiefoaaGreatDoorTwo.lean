import Derived.Test.YtaaneecceiefoaaGreatDoorIdWord
import Derived.StillTailTactics
set_option maxRecDepth 100000
set_option maxHeartbeats 4000000
set_option linter.unusedVariables false
set_option linter.unusedSimpArgs false
namespace Go.Proofs.YtaaneecceiefoaaGreatDoor.Ck
abbrev Str:=List UInt8
structure PVal where
 k:Int
 x:Int
 t:Str
 n1:Nat
 n2:Nat
 n3:Nat
 n4:Nat
def PVal.n (v:PVal):Nat:=v.n1+v.n2+v.n3+v.n4
structure PNote where
 name:Str
 val:PVal
structure PField where
 num:Int
 name:Str
 card:Int
 key:Int
 tk:Int
 tn:Str
 un:Str
 hd:Bool
 df:PVal
 notes:List PNote
structure PSpan where
 lo:Int
 hi:Int
structure PMsg where
 name:Str
 fields:List PField
 res:List PSpan
 gone:List Str
 notes:List PNote
structure PItem where
 name:Str
 num:Int
 notes:List PNote
structure PEnum where
 name:Str
 op:Bool
 items:List PItem
 res:List PSpan
 notes:List PNote
structure PMeth where
 name:Str
 inn:Str
 out:Str
 shape:Int
 notes:List PNote
structure PSvc where
 name:Str
 meths:List PMeth
 notes:List PNote
structure PSchema where
 msgs:List PMsg
 enums:List PEnum
 svcs:List PSvc
structure PProb where
 df:Str
 num:Int
 err:Int
def known:List (Str × Int × Int):=[([100,101,112,114,101,99,97,116,101,100],1,126),([100,111,99],7,126),([97,108,105,97,115],7,84),([115,105,110,99,101],4,84),([117,110,116,105,108],4,84),([109,105,110],3,4),([109,97,120],3,4),([108,101,110,103,116,104],4,4),([115,101,99,114,101,116],1,4),([105,100,101,109,112,111,116,101,110,116],1,64),([116,105,109,101,111,117,116],4,64),([114,111,117,116,101],7,64),([111,119,110,101,114],7,34)]
def find? (name:Str):Option (Int × Int):=(known.find? (fun r=>r.1=name)).map (·.2)
def qc0 (name:Str):Int:=match find? name with|some r=>r.1|none=>0
def fits (kind:Int) (v:PVal):Bool:=Pr.fitsB kind v.k v.x v.t v.n
def right (n:PNote):Bool:=decide (qc0 n.name ≠ 0) && fits (qc0 n.name) n.val
def ltS (a b:Str):Bool:=decide (a<b)
def bitOf (m t:Int):Bool:=decide (m / 2 ^ t.toNat % 2=1)
def qcz (n:PNote) (target:Int) (last:Str) (ok:Bool):Int:=
 match find? n.name with
 | none=>8
 | some (_,tg)=>
  if target<1 ∨ 6<target ∨ bitOf tg target=false then 1
  else if right n=false then 12
  else if ok=true/\ltS n.name last=true then 11
  else if ok=true/\n.name=last then 9
  else 0
def qe5 (target:Int):List PNote->Str->Bool->Int
 | [],_,_=>0
 | n :: r,last,ok=>if qcz n target last ok=0 then qe5 target r n.name true else qcz n target last ok
def qbb (l:List PNote) (target:Int):Int:=if 8<l.length then 3 else qe5 target l [] false
def qar (s:Str):Bool:=Id.isPart s && !Id.isWord s
def qal (s:Str):Bool:=Id.isFull s && !(Id.cut 46 s).any Id.isWord
def un (d:Str) (num:Int) (ok:Bool) (e:Int):List PProb:=if ok=true then []else [⟨d,num,e⟩]
def noted (d:Str) (num:Int) (l:List PNote) (target:Int):List PProb:=un d num (decide (qbb l target=0)) (qbb l target)
def qcs (l:List PSpan) (n:Int):Bool:=l.any fun x=>decide (x.lo<=n/\n<=x.hi)
def keyed (card key:Int):Bool:=if card ≠ 5 then decide (key=0)else decide (1<=key/\key<=7/\key ≠ 6)
def msgOf (s:PSchema) (name:Str):Option PMsg:=s.msgs.find? fun m=>m.name=name
def qg3 (s:PSchema) (name:Str):Option PEnum:=s.enums.find? fun e=>e.name=name
def typed (s:PSchema) (f:PField):Bool:=
 if 1<=f.tk/\f.tk<=8 then decide (f.tn=[])
 else if f.tk=9 then(qg3 s f.tn).isSome
 else if f.tk=10 then(msgOf s f.tn).isSome && decide (f.card ≠ 3)
 else false
def zeroV (v:PVal):Bool:=decide (v.k=0/\v.x=0/\v.t=[]/\v.n=0)
def u64 (n:Int):Int:=n % 18446744073709551616
def qct (s:PSchema) (f:PField):Bool:=
 if f.hd=false then zeroV f.df
 else if f.card ≠ 2 ∨ f.un ≠ [] ∨ fits f.tk f.df=false ∨ Pr.normB f.df.k f.df.x ≠ f.df.x then false
 else if f.tk ≠ 9 then true
 else match qg3 s f.tn with
  | none=>false
  | some e=>e.items.any fun it=>decide (u64 it.num=f.df.x)
def qik (m:PMsg) (i:Nat) (f:PField):Bool:=
 if f.un=[]then true
 else if f.card ≠ 2 ∨ qar f.un=false ∨ (m.fields.any fun x=>decide (x.name=f.un))=true then false
 else if((m.fields.take i).any fun x=>decide (x.un=f.un))=false then true
 else match m.fields[i-1]? with
  | some g=>decide (g.un=f.un)
  | none=>false
def qg2 (s:PSchema) (m:PMsg) (i:Nat) (f:PField):List PProb:=
 un m.name f.num (decide (1<=f.num/\f.num<=65535)) 6
 ++ un m.name f.num (decide (i=0) || (match m.fields[i-1]? with|some g=>decide (g.num<f.num)|none=>false)) 11
 ++ un m.name f.num (qar f.name) 8
 ++ un m.name f.num (!((m.fields.take i).any fun x=>decide (x.name=f.name))) 9
 ++ un m.name f.num (!qcs m.res f.num && !Id.has m.gone f.name) 21
 ++ un m.name f.num (decide (1<=f.card/\f.card<=5) && keyed f.card f.key) 1
 ++ un m.name f.num (typed s f) 12
 ++ un m.name f.num (qik m i f) 15
 ++ un m.name f.num (qct s f) 1
 ++ noted m.name f.num f.notes 2
def qdw (d:Str) (least most:Int):Option PSpan->List PSpan->List PProb
 | _,[] => []
 | last,p :: r=>
  un d (-1) (decide (least<=p.lo/\p.hi<=most/\p.lo<=p.hi)) 6
  ++ un d (-1) (match last with|none=>true|some q=>decide (q.hi<p.lo)) 11
  ++ qdw d least most (some p) r
def spans (d:Str) (l:List PSpan) (least most:Int):List PProb:=qdw d least most none l
def needs (m:PMsg):List Str:=(m.fields.filter fun f=>decide (f.card=1/\f.tk=10)).map (·.tn)
def qcf (s:PSchema) (fin:Str->Bool) (m:PMsg):Str->Bool:=
 match msgOf s m.name with
 | none=>fin
 | some f=>if((needs f).any fun n=>(msgOf s n).isSome && !fin n)=true then fin else fun x=>decide (x=m.name) || fin x
def qbk (s:PSchema) (fin:Str->Bool):Str->Bool:=s.msgs.foldl (qcf s) fin
def qc3 (s:PSchema):Nat->(Str->Bool)->Str->Bool
 | 0,fin=>fin
 | k+1,fin=>qc3 s k (qbk s fin)
def qd6 (s:PSchema):Str->Bool:=qc3 s (s.msgs.length+1) fun _=>false
def qo0 (s:PSchema) (m:PMsg) (fin:Str->Bool):Bool:=(needs m).any fun n=>(msgOf s n).isSome && !fin n
def qbs (s:PSchema) (m:PMsg):Nat->List PField->List PProb
 | _,[] => []
 | i,f :: r=>qg2 s m i f ++ qbs s m (i+1) r
def qbh (s:PSchema) (m:PMsg) (fin:Str->Bool):List PProb:=
 un m.name (-1) (qal m.name) 8
 ++ un m.name (-1) (decide (m.fields.length<=64/\m.res.length<=16/\m.gone.length<=16)) 3
 ++ qbs s m 0 m.fields
 ++ spans m.name m.res 1 65535
 ++ m.gone.flatMap (fun g=>un m.name (-1) (decide (Utf.bad g<0)) 7)
 ++ noted m.name (-1) m.notes 1
 ++ un m.name (-1) (!qo0 s m fin) 19
def qne (s:PSchema) (m:PMsg):List PProb:=qbh s m (qd6 s)
def itemP (e:PEnum) (i:Nat) (it:PItem):List PProb:=
 un e.name it.num (decide (0<=it.num/\it.num<=2147483647)) 6
 ++ un e.name it.num (decide (i=0) || (match e.items[i-1]? with|some g=>decide (g.num<it.num)|none=>false)) 11
 ++ un e.name it.num (qar it.name) 8
 ++ un e.name it.num (!((e.items.take i).any fun x=>decide (x.name=it.name))) 9
 ++ un e.name it.num (!qcs e.res it.num) 21
 ++ noted e.name it.num it.notes 4
def qd5 (e:PEnum):Nat->List PItem->List PProb
 | _,[] => []
 | i,f :: r=>itemP e i f ++ qd5 e (i+1) r
def enum (e:PEnum):List PProb:=
 un e.name (-1) (qal e.name) 8
 ++ un e.name (-1) (decide (1<=e.items.length/\e.items.length<=64/\e.res.length<=16)) 3
 ++ un e.name (-1) (match e.items with | []=>true|it :: _=>decide (it.num=0)) 14
 ++ qd5 e 0 e.items
 ++ spans e.name e.res 0 2147483647
 ++ noted e.name (-1) e.notes 3
def methP (s:PSchema) (v:PSvc) (i:Nat) (m:PMeth):List PProb:=
 un v.name i (qar m.name) 8
 ++ un v.name i (decide (i=0) || (match v.meths[i-1]? with|some g=>ltS g.name m.name|none=>false)) 11
 ++ un v.name i ((msgOf s m.inn).isSome && (msgOf s m.out).isSome) 12
 ++ un v.name i (decide (1<=m.shape/\m.shape<=4)) 1
 ++ noted v.name i m.notes 6
def qd2 (s:PSchema) (v:PSvc):Nat->List PMeth->List PProb
 | _,[] => []
 | i,m :: r=>methP s v i m ++ qd2 s v (i+1) r
def qbz (s:PSchema) (v:PSvc):List PProb:=
 un v.name (-1) (qal v.name) 8
 ++ un v.name (-1) (decide (v.meths.length<=64)) 3
 ++ qd2 s v 0 v.meths
 ++ noted v.name (-1) v.notes 5
def qiv:Str->List Str->Bool
 | _,[]=>true
 | a,b :: r=>ltS a b && qiv b r
def qhn:List Str->Bool
 | []=>true
 | a :: r=>qiv a r
def listP (l:List Str):List PProb:=un [] (-1) (decide (l.length<=64)) 3 ++ un [] (-1) (qhn l) 11
def meet (a b:List Str):Bool:=a.any fun s=>Id.has b s
def apart (a b c:List Str):Bool := !(meet b a || meet c a || meet c b)
def head (s:PSchema):List PProb:=
 listP (s.msgs.map (·.name)) ++ listP (s.enums.map (·.name)) ++ listP (s.svcs.map (·.name))
 ++ un [] (-1) (apart (s.msgs.map (·.name)) (s.enums.map (·.name)) (s.svcs.map (·.name))) 9
def all (s:PSchema):List PProb:=
 head s ++ s.msgs.flatMap (fun m=>qbh s m (qd6 s)) ++ s.enums.flatMap enum ++ s.svcs.flatMap (qbz s)
def valid (s:PSchema):Bool:=(all s).isEmpty
end Go.Proofs.YtaaneecceiefoaaGreatDoor.Ck
namespace Go.Proofs.YtaaneecceiefoaaGreatDoor
open Go.RowKit Ck
def Cells (w:World) (b o:Nat) (vs:List Value):Prop := ∀i v,vs[i]? = some v->w.cell? ⟨b,o+i,none⟩=some v
theorem Cells.bel {w w':World} {b o:Nat} {vs:List Value} (h:Cells w b o vs) (k:Bel w w'):Cells w' b o vs:=fun i v hv=>k.some (h i v hv)
def El {α:Type} (V:World->List Value->α->Prop) (w:World) (b o:Nat) (x:α):Prop := ∃vs,Cells w b o vs/\V w vs x
def Stays {α:Type} (V:World->List Value->α->Prop):Prop := ∀w w' vs x,Bel w w'->V w vs x->V w' vs x
theorem El.keeps {α:Type} {V:World->List Value->α->Prop} (h:Stays V):Keeps (El V):=fun w w' b o x hb k ⟨vs,h1,h2⟩=>⟨vs,h1.bel k,h w w' vs x k h2⟩
def Sv {α:Type} (C:Nat) (V:World->List Value->α->Prop):World->Value->List α->Prop:=Sl C (El V)
theorem Sv.bel {α:Type} {C:Nat} {V:World->List Value->α->Prop} (hV:Stays V) {w w':World} {v:Value} {xs:List α} (h:Sv C V w v xs) (k:Bel w w'):Sv C V w' v xs:=Sl.bel (El.keeps hV) h k
def VVal (vs:List Value) (v:PVal):Prop:=
 ∃(p1 p2 p3 p4:Option Addr) (c1 c2 c3 c4:Nat),vs=[.int .i64 v.k,.int .u64 v.x,.string (S v.t),.slice p1 v.n1 c1,.slice p2 v.n2 c2,.slice p3 v.n3 c3,.slice p4 v.n4 c4]/\0<=v.x/\v.x<18446744073709551616/\v.n1<=140737488355328/\v.n2<=140737488355328/\v.n3<=140737488355328/\v.n4<=140737488355328
def VNote (w:World) (vs:List Value) (n:PNote):Prop := ∃vv,vs=.string (S n.name) :: vv/\VVal vv n.val
theorem VNote.stays:Stays VNote:=fun _ _ _ _ _ h=>h
def VSpan (w:World) (vs:List Value) (x:PSpan):Prop:=vs=[.int .i64 x.lo,.int .i64 x.hi]
theorem VSpan.stays:Stays VSpan:=fun _ _ _ _ _ h=>h
def VStr (w:World) (vs:List Value) (k:Str):Prop:=vs=[.string (S k)]
theorem VStr.stays:Stays VStr:=fun _ _ _ _ _ h=>h
def Notes:=Sv 8 VNote
def Spans:=Sv 2 VSpan
def Texts:=Sv 1 VStr
def VField (w:World) (vs:List Value) (f:PField):Prop:=
 ∃vv nv,vs=[.int .i64 f.num,.string (S f.name),.int .i64 f.card,.int .i64 f.key,.int .i64 f.tk,.string (S f.tn),.string (S f.un),.bool f.hd] ++ vv ++ [nv]/\VVal vv f.df/\Notes w nv f.notes
theorem VField.stays:Stays VField:=fun _ _ _ _ k ⟨vv,nv,h1,h2,h3⟩=>⟨vv,nv,h1,h2,h3.bel VNote.stays k⟩
def VItem (w:World) (vs:List Value) (it:PItem):Prop := ∃nv,vs=[.string (S it.name),.int .i64 it.num,nv]/\Notes w nv it.notes
theorem VItem.stays:Stays VItem:=fun _ _ _ _ k ⟨nv,h1,h3⟩=>⟨nv,h1,h3.bel VNote.stays k⟩
def VMeth (w:World) (vs:List Value) (m:PMeth):Prop := ∃nv,vs=[.string (S m.name),.string (S m.inn),.string (S m.out),.int .i64 m.shape,nv]/\Notes w nv m.notes
theorem VMeth.stays:Stays VMeth:=fun _ _ _ _ k ⟨nv,h1,h3⟩=>⟨nv,h1,h3.bel VNote.stays k⟩
def VMsg (w:World) (vs:List Value) (m:PMsg):Prop:=
 ∃fv rv gv nv,vs=[.string (S m.name),fv,rv,gv,nv]/\Sv 16 VField w fv m.fields/\Spans w rv m.res/\Texts w gv m.gone/\Notes w nv m.notes
theorem VMsg.stays:Stays VMsg:=fun _ _ _ _ k ⟨fv,rv,gv,nv,h1,h2,h3,h4,h5⟩=>⟨fv,rv,gv,nv,h1,h2.bel VField.stays k,h3.bel VSpan.stays k,h4.bel VStr.stays k,h5.bel VNote.stays k⟩
def VEnum (w:World) (vs:List Value) (e:PEnum):Prop:=
 ∃iv rv nv,vs=[.string (S e.name),.bool e.op,iv,rv,nv]/\Sv 3 VItem w iv e.items/\Spans w rv e.res/\Notes w nv e.notes
theorem VEnum.stays:Stays VEnum:=fun _ _ _ _ k ⟨iv,rv,nv,h1,h2,h3,h4⟩=>⟨iv,rv,nv,h1,h2.bel VItem.stays k,h3.bel VSpan.stays k,h4.bel VNote.stays k⟩
def VSvc (w:World) (vs:List Value) (v:PSvc):Prop:=
 ∃mv nv,vs=[.string (S v.name),mv,nv]/\Sv 5 VMeth w mv v.meths/\Notes w nv v.notes
theorem VSvc.stays:Stays VSvc:=fun _ _ _ _ k ⟨mv,nv,h1,h2,h3⟩=>⟨mv,nv,h1,h2.bel VMeth.stays k,h3.bel VNote.stays k⟩
def VSchema (w:World) (vs:List Value) (s:PSchema):Prop:=
 ∃mv ev sv,vs=[mv,ev,sv]/\Sv 5 VMsg w mv s.msgs/\Sv 5 VEnum w ev s.enums/\Sv 3 VSvc w sv s.svcs
theorem VSchema.stays:Stays VSchema:=fun _ _ _ _ k ⟨mv,ev,sv,h1,h2,h3,h4⟩=>⟨mv,ev,sv,h1,h2.bel VMsg.stays k,h3.bel VEnum.stays k,h4.bel VSvc.stays k⟩
def probC (p:PProb):List Value:=[.string (S p.df),.int .i64 p.num,.int .i64 p.err]
end Go.Proofs.YtaaneecceiefoaaGreatDoor
namespace Go.Proofs.YtaaneecceiefoaaGreatDoor
open Go.ChangeShapes Go.WideShapes Go.RowKit Go.Deep
section
variable {H : Type} {enc : TypeId × Value → H} {w : World} {base : Nat} {spare : Nat → Bool} {held : Bool}
def Wt (t:TypeId) (y:DataW H × List MemPlace):Prop:=(y.1.weights Tryz.prog t).all (·<=reachBytes)=true
theorem qco {P:Program} {e:TypeId} : ∀{l:List (DataW H)},(DataW.weightsAll P e l).all (·<=reachBytes)=true->∀d ∈ l,(d.weights P e).all (·<=reachBytes)=true
 | [],_,d,hd=>by cases hd
 | x :: r,h,d,hd=>by
  simp only [DataW.weightsAll,List.all_append,Bool.and_eq_true]at h;rcases List.mem_cons.1 hd with rfl|hd
  ·exact h.1
  ·exact qco h.2 d hd
theorem qko {α:Type} (R:Nat->α->Prop) : ∀n,(∀i,i<n->∃x,R i x)->∃xs:List α,xs.length=n/\∀i x,xs[i]? = some x->R i x
 | 0,_=>⟨[],rfl,fun i x h=>by simp at h⟩
 | n+1,h=>by
  obtain⟨xs,hl,hx⟩:=qko R n (fun i hi=>h i (by omega));obtain⟨x,hxn⟩:=h n (by omega);refine⟨xs ++ [x],by simp [hl],fun i y hy=>?_⟩;rcases Nat.lt_or_ge i xs.length with hi|hi
  ·rw [List.getElem?_append_left hi]at hy
   exact hx i y hy
  ·rw [List.getElem?_append_right hi]at hy
   have hi0:i-xs.length=0:=by
    have:=(List.getElem?_eq_some_iff.1 hy).1
    simpa using this
   rw [hi0]at hy;simp at hy;subst hy;rwa [show i=n by omega]
theorem qjg {P:Program} : ∀{ts:List TypeId} {ds:List (DataW H)},(DataW.weightsEach P ts ds).all (·<=reachBytes)=true->∀(i:Nat) t d,ts[i]? = some t->ds[i]? = some d->(d.weights P t).all (·<=reachBytes)=true
 | [],_,_,i,t,d,h,_=>by simp at h
 | _ :: _,[],_,i,t,d,_,h=>by simp at h
 | t0 :: ts,d0 :: ds,hw,i,t,d,h1,h2=>by
  simp only [DataW.weightsEach,List.all_append,Bool.and_eq_true]at hw;cases i with
  | zero=>simp at h1 h2;subst h1;subst h2;exact hw.1
  | succ i=>exact qjg hw.2 i t d (by simpa using h1) (by simpa using h2)
end
end Go.Proofs.YtaaneecceiefoaaGreatDoor
namespace Go.Proofs.YtaaneecceiefoaaGreatDoor.Ma
inductive PMask where
 | mk (num:Int) (subs:List PMask)
def PMask.num:PMask->Int
 | .mk n _=>n
def PMask.subs:PMask->List PMask
 | .mk _ l=>l
theorem PMask.eta (x:PMask):PMask.mk x.num x.subs=x:=by cases x;rfl
theorem PMask.ext2 {x y:PMask} (h1:x.num=y.num) (h2:x.subs=y.subs):x=y:=by
 rw [←x.eta, ←y.eta,h1,h2]
def whole (x:PMask):Bool:=x.subs.isEmpty
def find (l:List PMask) (k:Int):Option PMask:=l.find? (fun x=>decide (x.num=k))
def Dp:Nat->List PMask->Prop
 | 0,l=>l=[]
 | n+1,l => ∀x ∈ l,Dp n x.subs
def Asc (l:List PMask):Prop:=l.Pairwise (fun x y=>x.num<y.num)
def Srt:Nat->List PMask->Prop
 | 0,l=>l=[]
 | n+1,l=>Asc l/\∀x ∈ l,Srt n x.subs
theorem Srt.asc {n:Nat} {l:List PMask} (h:Srt n l):Asc l:=by
 cases n with
 | zero=>rw [show l=[]from h];exact List.Pairwise.nil
 | succ n=>exact h.1
theorem Srt.dp : ∀{n:Nat} {l:List PMask},Srt n l->Dp n l
 | 0,_,h=>h
 | n+1,_,h=>fun x hx=>Srt.dp (h.2 x hx)
theorem Srt.nil : ∀n:Nat,Srt n []
 | 0=>rfl
 | n+1=>⟨List.Pairwise.nil,fun x hx=>by cases hx⟩
theorem Dp.nil : ∀n:Nat,Dp n []
 | 0=>rfl
 | n+1=>fun x hx=>by cases hx
theorem Srt.up : ∀{n:Nat} {l:List PMask},Srt n l->Srt (n+1) l
 | 0,l,h=>by rw [show l=[]from h];exact Srt.nil 1
 | n+1,l,h=>⟨h.1,fun x hx=>Srt.up (h.2 x hx)⟩
theorem Dp.up : ∀{n:Nat} {l:List PMask},Dp n l->Dp (n+1) l
 | 0,l,h=>by rw [show l=[]from h];exact Dp.nil 1
 | n+1,l,h=>fun x hx=>Dp.up (h x hx)
theorem Srt.le {n m:Nat} {l:List PMask} (h:Srt n l) (hm:n<=m):Srt m l:=by
 induction hm with
 | refl=>exact h
 | step _ ih=>exact ih.up
theorem Dp.le {n m:Nat} {l:List PMask} (h:Dp n l) (hm:n<=m):Dp m l:=by
 induction hm with
 | refl=>exact h
 | step _ ih=>exact ih.up
theorem qnt (k:Int):find [] k=none:=rfl
theorem qad (x:PMask) (l:List PMask) (k:Int):find (x :: l) k=if x.num=k then some x else find l k:=by
 unfold find;rw [List.find?_cons];by_cases h:x.num=k <;> simp [h]
theorem qas {l:List PMask} {k:Int} {x:PMask} (h:find l k=some x):x ∈ l/\x.num=k:=by
 refine⟨List.mem_of_find?_eq_some h,?_⟩;have:=List.find?_some h
 simpa using this
theorem find_none {l:List PMask} {k:Int}:find l k=none ↔ ∀x ∈ l,x.num ≠ k:=by
 unfold find;rw [List.find?_eq_none];simp
theorem qdd (a b:List PMask) (k:Int):find (a ++ b) k=(find a k).or (find b k):=by
 unfold find;rw [List.find?_append]
theorem Asc.head {x:PMask} {l:List PMask} (h:Asc (x :: l)) : ∀y ∈ l,x.num<y.num:=(List.pairwise_cons.1 h).1
theorem Asc.tail {x:PMask} {l:List PMask} (h:Asc (x :: l)):Asc l:=(List.pairwise_cons.1 h).2
theorem find_mem {l:List PMask} (h:Asc l) {x:PMask} (hx:x ∈ l):find l x.num=some x:=by
 induction l with
 | nil=>cases hx
 | cons y l ih=>
  rw [qad];rcases List.mem_cons.1 hx with rfl|hx
  ·rw [if_pos rfl]
  ·rw [if_neg (by have:=h.head x hx;omega)]
   exact ih h.tail hx
theorem qid {x:PMask} {l:List PMask} (h:Asc (x :: l)) {k:Int} (hk:k<=x.num):find l k=none:=
 find_none.2 fun y hy=>by have:=h.head y hy;omega
theorem ext : ∀{a b:List PMask},Asc a->Asc b->(∀k,find a k=find b k)->a=b
 | [],[],_,_,_=>rfl
 | [],y :: b,_,_,h=>by have:=h y.num;rw [qnt,qad,if_pos rfl]at this;cases this
 | x :: a,[],_,_,h=>by have:=h x.num;rw [qnt,qad,if_pos rfl]at this;cases this
 | x :: a,y :: b,ha,hb,h=>by
  have h1:=h x.num;have h2:=h y.num;rw [qad,if_pos rfl,qad]at h1;rw [qad,qad (x:=y),if_pos rfl]at h2
  have hxy:x=y:=by
   by_cases e:y.num=x.num
   ·rw [if_pos e]at h1;exact Option.some.inj h1
   ·rw [if_neg e]at h1
    rw [if_neg (fun e'=>e e'.symm)]at h2;have m1:=(qas h1.symm).1;have m2:=(qas h2).1;have:=hb.head x m1;have:=ha.head y m2;omega
  subst hxy;refine congrArg (x :: ·) (ext ha.tail hb.tail fun k=>?_);have:=h k;rw [qad,qad]at this;by_cases e:x.num=k
  ·subst e
   rw [qid ha (Int.le_refl _),qid hb (Int.le_refl _)]
  ·rwa [if_neg e,if_neg e]at this
def ins (x:PMask):List PMask->List PMask
 | [] => [x]
 | y :: l=>if x.num<=y.num then x :: y :: l else y :: ins x l
def isort:List PMask->List PMask
 | [] => []
 | x :: l=>ins x (isort l)
theorem mem_ins {x z:PMask} : ∀{l:List PMask},z ∈ ins x l ↔ z=x ∨ z ∈ l
 | []=>by simp [ins]
 | y :: l=>by
  unfold ins
  split
  ·simp
  ·simp only [List.mem_cons,mem_ins (l:=l)]
   constructor
   ·rintro (h|h|h)
    ·exact .inr (.inl h)
    ·exact .inl h
    ·exact .inr (.inr h)
   ·rintro (h|h|h)
    ·exact .inr (.inl h)
    ·exact .inl h
    ·exact .inr (.inr h)
theorem mem_isort {z:PMask} : ∀{l:List PMask},z ∈ isort l ↔ z ∈ l
 | []=>by simp [isort]
 | x :: l=>by unfold isort;rw [mem_ins,mem_isort (l:=l),List.mem_cons]
def Dif (l:List PMask):Prop:=l.Pairwise (fun x y=>x.num ≠ y.num)
theorem asc_ins {x:PMask} : ∀{l:List PMask},Asc l->(∀y ∈ l,x.num ≠ y.num)->Asc (ins x l)
 | [],_,_=>List.pairwise_singleton ..
 | y :: l,h,hd=>by
  unfold ins;have hy:=hd y (List.mem_cons_self ..)
  split
  ·refine List.pairwise_cons.2 ⟨fun z hz=>?_,h⟩
   rcases List.mem_cons.1 hz with rfl|hz
   ·omega
   ·have:=h.head z hz;omega
  ·refine List.pairwise_cons.2 ⟨fun z hz=>?_,asc_ins h.tail (fun z hz=>hd z (List.mem_cons_of_mem _ hz))⟩
   rcases mem_ins.1 hz with rfl|hz
   ·omega
   ·exact h.head z hz
theorem qfd : ∀{l:List PMask},Dif l->Asc (isort l)
 | [],_=>List.Pairwise.nil
 | x :: l,h=>asc_ins (qfd (List.pairwise_cons.1 h).2) (fun y hy=>(List.pairwise_cons.1 h).1 y (mem_isort.1 hy))
theorem qnu : ∀{l:List PMask},Dif l->∀{x:PMask},x ∈ l->find l x.num=some x
 | y :: l,h,x,hx=>by
  rw [qad];rcases List.mem_cons.1 hx with rfl|hx
  ·rw [if_pos rfl]
  ·rw [if_neg ((List.pairwise_cons.1 h).1 x hx)]
   exact qnu (List.pairwise_cons.1 h).2 hx
theorem qkj {a b:List PMask} (ha:Dif a) (hb:Dif b) (h : ∀x,x ∈ a ↔ x ∈ b) (k:Int):find a k=find b k:=by
 cases e:find a k with
 | none=>
  refine(find_none.2 fun x hx=>?_).symm;exact find_none.1 e x ((h x).2 hx)
 | some x=>
  obtain⟨h1,h2⟩:=qas e;subst h2;exact(qnu hb ((h x).1 h1)).symm
theorem Asc.dif {l:List PMask} (h:Asc l):Dif l:=List.Pairwise.imp (R:=fun x y:PMask=>x.num<y.num) (fun hab=>by omega) h
theorem qie {l:List PMask} (h:Dif l) (k:Int):find (isort l) k=find l k:=qkj (qfd h).dif h (fun _=>mem_isort) k
theorem sort_eq {l l':List PMask} (h:Dif l) (hp:l'.Perm l) (hs:l'.Pairwise (fun x y=>x.num<=y.num)):l'=isort l:=by
 have hd:Dif l':=(hp.pairwise_iff (R:=fun x y:PMask=>x.num ≠ y.num) (fun hab=>Ne.symm hab)).2 h
 have ha:Asc l':=by
  have:=List.Pairwise.and hs hd;exact List.Pairwise.imp (R:=fun x y:PMask=>x.num<=y.num/\x.num ≠ y.num) (fun hab=>by omega) this
 exact ext ha (qfd h) fun k=>(qkj hd h (fun x=>hp.mem_iff) k).trans (qie h k).symm
def joinF (f:List PMask->List PMask->List PMask) (x y:PMask):PMask:=.mk x.num (if whole x || whole y then []else f x.subs y.subs)
def uniA (f:List PMask->List PMask->List PMask) (b:List PMask) (x:PMask):PMask:=match find b x.num with
 | some y=>joinF f x y
 | none=>x
theorem qgl (f:List PMask->List PMask->List PMask) (b:List PMask) (x:PMask):(uniA f b x).num=x.num:=by
 unfold uniA
 split <;> rfl
def qb8 (f:List PMask->List PMask->List PMask) (a b:List PMask):List PMask:=a.map (uniA f b) ++ b.filter (fun y=>(find a y.num).isNone)
def union:Nat->List PMask->List PMask->List PMask
 | 0,_,_ => []
 | n+1,a,b=>isort (qb8 (union n) a b)
def qf0 (f:List PMask->List PMask->List PMask):Nat->List PMask->List PMask->List PMask
 | 0,_,_ => []
 | _+1,[],b=>b
 | _+1,a,[]=>a
 | n+1,x :: a,y :: b=>if x.num<y.num then x :: qf0 f n a (y :: b)else if y.num<x.num then y :: qf0 f n (x :: a) b else joinF f x y :: qf0 f n a b
def qeb:Nat->List PMask->List PMask->List PMask
 | 0,_,_ => []
 | n+1,a,b=>qf0 (qeb n) (a.length+b.length) a b
def uniO (f:List PMask->List PMask->List PMask):Option PMask->Option PMask->Option PMask
 | some x,some y=>some (joinF f x y)
 | some x,none=>some x
 | none,y=>y
theorem find_map (F:PMask->PMask) (hF : ∀x,(F x).num=x.num) (l:List PMask) (k:Int):find (l.map F) k=(find l k).map F:=by
 induction l with
 | nil=>rfl
 | cons x l ih=>
  rw [List.map_cons,qad,qad,hF,ih]
  split <;> rfl
theorem qld {p:PMask->Bool} {k:Int} (hp : ∀x:PMask,x.num=k->p x=true) (l:List PMask):find (l.filter p) k=find l k:=by
 induction l with
 | nil=>rfl
 | cons x l ih=>
  by_cases e:x.num=k
  ·rw [List.filter_cons_of_pos (hp x e),qad,qad,if_pos e,if_pos e]
  ·rw [qad,if_neg e]
   by_cases q:p x=true
   ·rw [List.filter_cons_of_pos q,qad,if_neg e,ih]
   ·rw [List.filter_cons_of_neg q,ih]
theorem find_raw (f:List PMask->List PMask->List PMask) (a b:List PMask) (k:Int):find (qb8 f a b) k=uniO f (find a k) (find b k):=by
 unfold qb8;rw [qdd,find_map _ (qgl f b)];cases e:find a k with
 | some x=>
  have hk:=(qas e).2;show some (uniA f b x)=_
  unfold uniA;rw [hk];cases find b k <;> rfl
 | none=>
  show find _ k=find b k
  exact qld (fun x hx=>by rw [hx,e];rfl) b
theorem qnz (f:List PMask->List PMask->List PMask) {a b:List PMask} (ha:Asc a) (hb:Asc b):Dif (qb8 f a b):=by
 unfold qb8 Dif;rw [List.pairwise_append];refine⟨?_,(hb.dif).filter _,fun x hx y hy=>?_⟩
 ·rw [List.pairwise_map]
  exact List.Pairwise.imp (R:=fun x y:PMask=>x.num ≠ y.num) (fun hxy=>by rw [qgl,qgl];exact hxy) ha.dif
 ·obtain⟨x0,h1,rfl⟩:=List.mem_map.1 hx
  have h2:=(List.mem_filter.1 hy).2;rw [Option.isNone_iff_eq_none]at h2;rw [qgl];exact find_none.1 h2 x0 h1
theorem qd7 {n:Nat} {a b:List PMask} (ha:Asc a) (hb:Asc b) (k:Int):find (union (n+1) a b) k=uniO (union n) (find a k) (find b k):=by
 show find (isort _) k=_
 rw [qie (qnz _ ha hb),find_raw]
theorem qdg {n:Nat} {a b:List PMask} (ha:Asc a) (hb:Asc b):Asc (union n a b):=by
 cases n with
 | zero=>exact List.Pairwise.nil
 | succ n=>exact qfd (qnz _ ha hb)
theorem qe9 (f:List PMask->List PMask->List PMask) : ∀(m:Nat) {a b:List PMask},a.length+b.length<=m->Asc a->Asc b->(∀k,find (qf0 f m a b) k=uniO f (find a k) (find b k))/\Asc (qf0 f m a b)/\∀z ∈ qf0 f m a b,(∃x ∈ a,z.num=x.num) ∨ ∃y ∈ b,z.num=y.num
 | 0,[],[],_,_,_=>⟨fun _=>rfl,List.Pairwise.nil,fun z hz=>by cases hz⟩
 | 0,x :: a,_,hl,_,_=>by simp at hl
 | 0,[],y :: b,hl,_,_=>by simp at hl
 | m+1,[],b,_,_,hb=>⟨fun _=>rfl,hb,fun z hz=>.inr ⟨z,hz,rfl⟩⟩
 | m+1,x :: a,[],_,ha,_=>by
  refine⟨fun k=>?_,ha,fun z hz=>.inl ⟨z,hz,rfl⟩⟩;show find (x :: a) k=uniO f (find (x :: a) k) none
  cases find (x :: a) k <;> rfl
 | m+1,x :: a,y :: b,hl,ha,hb=>by
  simp only [List.length_cons]at hl;unfold qf0
  split
  ·rename_i h
   obtain⟨i1,i2,i3⟩:=qe9 f m (a:=a) (b:=y :: b) (by simp;omega) ha.tail hb;refine⟨fun k=>?_,List.pairwise_cons.2 ⟨fun z hz=>?_,i2⟩,fun z hz=>?_⟩
   ·rw [qad,i1,qad (x:=x)]
    by_cases e:x.num=k
    ·rw [if_pos e,if_pos e]
     rw [qad,if_neg (by omega),qid hb (by omega)];rfl
    ·rw [if_neg e,if_neg e]
   ·rcases i3 z hz with⟨u,hu,e⟩|⟨u,hu,e⟩
    ·have:=ha.head u hu;omega
    ·rcases List.mem_cons.1 hu with rfl|hu
     ·omega
     ·have:=hb.head u hu;omega
   ·rcases List.mem_cons.1 hz with rfl|hz
    ·exact .inl ⟨_,List.mem_cons_self ..,rfl⟩
    ·rcases i3 z hz with⟨u,hu,e⟩|h
     ·exact .inl ⟨u,List.mem_cons_of_mem _ hu,e⟩
     ·exact .inr h
  ·rename_i h
   split
   ·rename_i h'
    obtain⟨i1,i2,i3⟩:=qe9 f m (a:=x :: a) (b:=b) (by simp;omega) ha hb.tail;refine⟨fun k=>?_,List.pairwise_cons.2 ⟨fun z hz=>?_,i2⟩,fun z hz=>?_⟩
    ·rw [qad,i1,qad (x:=y)]
     by_cases e:y.num=k
     ·rw [if_pos e,if_pos e]
      rw [qad,if_neg (by omega),qid ha (by omega)];rfl
     ·rw [if_neg e,if_neg e]
    ·rcases i3 z hz with⟨u,hu,e⟩|⟨u,hu,e⟩
     ·rcases List.mem_cons.1 hu with rfl|hu
      ·omega
      ·have:=ha.head u hu;omega
     ·have:=hb.head u hu;omega
    ·rcases List.mem_cons.1 hz with rfl|hz
     ·exact .inr ⟨_,List.mem_cons_self ..,rfl⟩
     ·rcases i3 z hz with h|⟨u,hu,e⟩
      ·exact .inl h
      ·exact .inr ⟨u,List.mem_cons_of_mem _ hu,e⟩
   ·rename_i h'
    have hxy:x.num=y.num:=by omega
    obtain⟨i1,i2,i3⟩:=qe9 f m (a:=a) (b:=b) (by omega) ha.tail hb.tail;refine⟨fun k=>?_,List.pairwise_cons.2 ⟨fun z hz=>?_,i2⟩,fun z hz=>?_⟩
    ·rw [qad,i1,qad (x:=x),qad (x:=y)]
     show(if x.num=k then _ else _)=_
     by_cases e:x.num=k
     ·rw [if_pos e,if_pos e,if_pos (by omega)]
      rfl
     ·rw [if_neg e,if_neg e,if_neg (by omega)]
    ·show x.num<z.num
     rcases i3 z hz with⟨u,hu,e⟩|⟨u,hu,e⟩
     ·have:=ha.head u hu;omega
     ·have:=hb.head u hu;omega
    ·rcases List.mem_cons.1 hz with rfl|hz
     ·exact .inl ⟨x,List.mem_cons_self ..,rfl⟩
     ·rcases i3 z hz with⟨u,hu,e⟩|⟨u,hu,e⟩
      ·exact .inl ⟨u,List.mem_cons_of_mem _ hu,e⟩
      ·exact .inr ⟨u,List.mem_cons_of_mem _ hu,e⟩
theorem qlr : ∀(n:Nat) {a b:List PMask},Srt n a->Srt n b->union n a b=qeb n a b
 | 0,_,_,_,_=>rfl
 | n+1,a,b,ha,hb=>by
  obtain⟨h1,h2,_⟩:=qe9 (qeb n) (a.length+b.length) (Nat.le_refl _) ha.1 hb.1;refine ext (qdg ha.1 hb.1) h2 fun k=>?_
  rw [qd7 ha.1 hb.1];refine Eq.trans ?_ (h1 k).symm;cases ea:find a k with
  | none=>rfl
  | some x=>
   cases eb:find b k with
   | none=>rfl
   | some y=>
    show some (joinF _ x y)=some (joinF _ x y)
    unfold joinF;rw [qlr n (ha.2 x (qas ea).1) (hb.2 y (qas eb).1)]
end Go.Proofs.YtaaneecceiefoaaGreatDoor.Ma
namespace Go.Proofs.YtaaneecceiefoaaGreatDoor
open Go.RowKit
theorem qae {P:Program} {id:Nat} {Q:Exit->Act->World->Prop} {a:Act} {w wd:World} {l:List Oper} (n:Nat) (hm:P.follows .mixedOrders=true) (hB:Region.lexTailB .any l.toArray n=true) (hwd:wd=w.drew)
  (h:wpStill P l.toArray wd (fun a'=>wpList P l.toArray Q (l.drop n) a' wd) (l.take n) a):(Code.region id l.toArray true).wp P Q a w:=by subst hwd;exact wp_region_still_tail n hm hB h
theorem qaf {P:Program} {ops:Array Oper} {w:World} {Q:Act->Prop} {o:Oper} {rest:List Oper} {a:Act} (h:Region.wanted o (yielded ops a.tmps)=false) (k:wpStill P ops w Q rest (a.put o.dst undef)):wpStill P ops w Q (o :: rest) a:=by
 unfold wpStill;rw [h];exact k
end Go.Proofs.YtaaneecceiefoaaGreatDoor
namespace Go.Proofs.YtaaneecceiefoaaGreatDoor
open Go.RowKit
section
variable {P : Program} {ops : Array Oper} {md : Region.Mode}
def cutOps (ops:Array Oper) (n:Nat):Array Oper:=ops.extract 0 (n+1)
theorem cut_none {n i:Nat} (hi:n<i):(cutOps ops n)[i]? = none:=by
 unfold cutOps;rw [Array.getElem?_extract,if_neg (by omega)]
def qh9 (k size:Nat):Array Bool:=Array.ofFn (n:=size) fun i=>decide (i.1<k)
theorem qnr (k size i:Nat) (d:Bool) (h:i<size):(qh9 k size).getD i d=decide (i<k):=by
 unfold qh9;simp [h]
end
end Go.Proofs.YtaaneecceiefoaaGreatDoor
