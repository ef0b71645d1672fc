import Derived.Test.YtgpjhibdongmbaaGreatDoorIdWord
import Derived.Test.YtgpjhibdongmbaaGreatDoorUtfDec
set_option maxRecDepth 100000
set_option maxHeartbeats 4000000
set_option linter.unusedVariables false
set_option linter.unusedSimpArgs false
namespace Go.Proofs.YtgpjhibdongmbaaGreatDoor.Ck
abbrev Str:=List UInt8
structure PVal where
 k:Int
 x:Int
 t:Str
 n1:Nat
 n2:Nat
 n3:Nat
 n4:Nat
def PVal.n (v:PVal):Nat:=v.n1+v.n2+v.n3+v.n4
structure PNote where
 name:Str
 val:PVal
structure PField where
 num:Int
 name:Str
 card:Int
 key:Int
 tk:Int
 tn:Str
 un:Str
 hd:Bool
 df:PVal
 notes:List PNote
structure PSpan where
 lo:Int
 hi:Int
structure PMsg where
 name:Str
 fields:List PField
 res:List PSpan
 gone:List Str
 notes:List PNote
structure PItem where
 name:Str
 num:Int
 notes:List PNote
structure PEnum where
 name:Str
 op:Bool
 items:List PItem
 res:List PSpan
 notes:List PNote
structure PMeth where
 name:Str
 inn:Str
 out:Str
 shape:Int
 notes:List PNote
structure PSvc where
 name:Str
 meths:List PMeth
 notes:List PNote
structure PSchema where
 msgs:List PMsg
 enums:List PEnum
 svcs:List PSvc
structure PProb where
 df:Str
 num:Int
 err:Int
def known:List (Str × Int × Int):=[([100,101,112,114,101,99,97,116,101,100],1,126),([100,111,99],7,126),([97,108,105,97,115],7,84),([115,105,110,99,101],4,84),([117,110,116,105,108],4,84),([109,105,110],3,4),([109,97,120],3,4),([108,101,110,103,116,104],4,4),([115,101,99,114,101,116],1,4),([105,100,101,109,112,111,116,101,110,116],1,64),([116,105,109,101,111,117,116],4,64),([114,111,117,116,101],7,64),([111,119,110,101,114],7,34)]
def find? (name:Str):Option (Int × Int):=(known.find? (fun r=>r.1=name)).map (·.2)
def qbj (name:Str):Int:=match find? name with|some r=>r.1|none=>0
def fits (kind:Int) (v:PVal):Bool:=Pr.fitsB kind v.k v.x v.t v.n
def right (n:PNote):Bool:=decide (qbj n.name ≠ 0) && fits (qbj n.name) n.val
def ltS (a b:Str):Bool:=decide (a<b)
def bitOf (m t:Int):Bool:=decide (m / 2 ^ t.toNat % 2=1)
def qb1 (n:PNote) (qbp:Int) (last:Str) (ok:Bool):Int:=
 match find? n.name with
 | none=>8
 | some (_,tg)=>
  if qbp<1 ∨ 6<qbp ∨ bitOf tg qbp=false then 1
  else if right n=false then 12
  else if ok=true/\ltS n.name last=true then 11
  else if ok=true/\n.name=last then 9
  else 0
def qgp (qbp:Int):List PNote->Str->Bool->Int
 | [],_,_=>0
 | n :: r,last,ok=>if qb1 n qbp last ok=0 then qgp qbp r n.name true else qb1 n qbp last ok
def qar (l:List PNote) (qbp:Int):Int:=if 8<l.length then 3 else qgp qbp l [] false
def qag (s:Str):Bool:=Id.isPart s && !Id.isWord s
def qaw (s:Str):Bool:=Id.isFull s && !(Id.cut 46 s).any Id.isWord
def un (d:Str) (num:Int) (ok:Bool) (e:Int):List PProb:=if ok=true then []else [⟨d,num,e⟩]
def noted (d:Str) (num:Int) (l:List PNote) (qbp:Int):List PProb:=un d num (decide (qar l qbp=0)) (qar l qbp)
def qbi (l:List PSpan) (n:Int):Bool:=l.any fun x=>decide (x.lo<=n/\n<=x.hi)
def keyed (card key:Int):Bool:=if card ≠ 5 then decide (key=0)else decide (1<=key/\key<=7/\key ≠ 6)
def msgOf (s:PSchema) (name:Str):Option PMsg:=s.msgs.find? fun m=>m.name=name
def enumOf (s:PSchema) (name:Str):Option PEnum:=s.enums.find? fun e=>e.name=name
def typed (s:PSchema) (f:PField):Bool:=
 if 1<=f.tk/\f.tk<=8 then decide (f.tn=[])
 else if f.tk=9 then(enumOf s f.tn).isSome
 else if f.tk=10 then(msgOf s f.tn).isSome && decide (f.card ≠ 3)
 else false
def zeroV (v:PVal):Bool:=decide (v.k=0/\v.x=0/\v.t=[]/\v.n=0)
def u64 (n:Int):Int:=n % 18446744073709551616
def qjg (s:PSchema) (f:PField):Bool:=
 if f.hd=false then zeroV f.df
 else if f.card ≠ 2 ∨ f.un ≠ [] ∨ fits f.tk f.df=false ∨ Pr.normB f.df.k f.df.x ≠ f.df.x then false
 else if f.tk ≠ 9 then true
 else match enumOf s f.tn with
  | none=>false
  | some e=>e.items.any fun it=>decide (u64 it.num=f.df.x)
def united (m:PMsg) (i:Nat) (f:PField):Bool:=
 if f.un=[]then true
 else if f.card ≠ 2 ∨ qag f.un=false ∨ (m.fields.any fun x=>decide (x.name=f.un))=true then false
 else if((m.fields.take i).any fun x=>decide (x.un=f.un))=false then true
 else match m.fields[i-1]? with
  | some g=>decide (g.un=f.un)
  | none=>false
def fieldP (s:PSchema) (m:PMsg) (i:Nat) (f:PField):List PProb:=
 un m.name f.num (decide (1<=f.num/\f.num<=65535)) 6
 ++ un m.name f.num (decide (i=0) || (match m.fields[i-1]? with|some g=>decide (g.num<f.num)|none=>false)) 11
 ++ un m.name f.num (qag f.name) 8
 ++ un m.name f.num (!((m.fields.take i).any fun x=>decide (x.name=f.name))) 9
 ++ un m.name f.num (!qbi m.res f.num && !Id.has m.gone f.name) 21
 ++ un m.name f.num (decide (1<=f.card/\f.card<=5) && keyed f.card f.key) 1
 ++ un m.name f.num (typed s f) 12
 ++ un m.name f.num (united m i f) 15
 ++ un m.name f.num (qjg s f) 1
 ++ noted m.name f.num f.notes 2
def spansGo (d:Str) (least most:Int):Option PSpan->List PSpan->List PProb
 | _,[] => []
 | last,p :: r=>
  un d (-1) (decide (least<=p.lo/\p.hi<=most/\p.lo<=p.hi)) 6
  ++ un d (-1) (match last with|none=>true|some q=>decide (q.hi<p.lo)) 11
  ++ spansGo d least most (some p) r
def spans (d:Str) (l:List PSpan) (least most:Int):List PProb:=spansGo d least most none l
def needs (m:PMsg):List Str:=(m.fields.filter fun f=>decide (f.card=1/\f.tk=10)).map (·.tn)
def finStep (s:PSchema) (fin:Str->Bool) (m:PMsg):Str->Bool:=
 match msgOf s m.name with
 | none=>fin
 | some f=>if((needs f).any fun n=>(msgOf s n).isSome && !fin n)=true then fin else fun x=>decide (x=m.name) || fin x
def finRound (s:PSchema) (fin:Str->Bool):Str->Bool:=s.msgs.foldl (finStep s) fin
def qg4 (s:PSchema):Nat->(Str->Bool)->Str->Bool
 | 0,fin=>fin
 | k+1,fin=>qg4 s k (finRound s fin)
def finite (s:PSchema):Str->Bool:=qg4 s (s.msgs.length+1) fun _=>false
def cyclic (s:PSchema) (m:PMsg) (fin:Str->Bool):Bool:=(needs m).any fun n=>(msgOf s n).isSome && !fin n
def qi8 (s:PSchema) (m:PMsg):Nat->List PField->List PProb
 | _,[] => []
 | i,f :: r=>fieldP s m i f ++ qi8 s m (i+1) r
def qfy (s:PSchema) (m:PMsg) (fin:Str->Bool):List PProb:=
 un m.name (-1) (qaw m.name) 8
 ++ un m.name (-1) (decide (m.fields.length<=64/\m.res.length<=16/\m.gone.length<=16)) 3
 ++ qi8 s m 0 m.fields
 ++ spans m.name m.res 1 65535
 ++ m.gone.flatMap (fun g=>un m.name (-1) (decide (Utf.bad g<0)) 7)
 ++ noted m.name (-1) m.notes 1
 ++ un m.name (-1) (!cyclic s m fin) 19
def message (s:PSchema) (m:PMsg):List PProb:=qfy s m (finite s)
def itemP (e:PEnum) (i:Nat) (it:PItem):List PProb:=
 un e.name it.num (decide (0<=it.num/\it.num<=2147483647)) 6
 ++ un e.name it.num (decide (i=0) || (match e.items[i-1]? with|some g=>decide (g.num<it.num)|none=>false)) 11
 ++ un e.name it.num (qag it.name) 8
 ++ un e.name it.num (!((e.items.take i).any fun x=>decide (x.name=it.name))) 9
 ++ un e.name it.num (!qbi e.res it.num) 21
 ++ noted e.name it.num it.notes 4
def itemsGo (e:PEnum):Nat->List PItem->List PProb
 | _,[] => []
 | i,f :: r=>itemP e i f ++ itemsGo e (i+1) r
def enum (e:PEnum):List PProb:=
 un e.name (-1) (qaw e.name) 8
 ++ un e.name (-1) (decide (1<=e.items.length/\e.items.length<=64/\e.res.length<=16)) 3
 ++ un e.name (-1) (match e.items with | []=>true|it :: _=>decide (it.num=0)) 14
 ++ itemsGo e 0 e.items
 ++ spans e.name e.res 0 2147483647
 ++ noted e.name (-1) e.notes 3
def methP (s:PSchema) (v:PSvc) (i:Nat) (m:PMeth):List PProb:=
 un v.name i (qag m.name) 8
 ++ un v.name i (decide (i=0) || (match v.meths[i-1]? with|some g=>ltS g.name m.name|none=>false)) 11
 ++ un v.name i ((msgOf s m.inn).isSome && (msgOf s m.out).isSome) 12
 ++ un v.name i (decide (1<=m.shape/\m.shape<=4)) 1
 ++ noted v.name i m.notes 6
def methsGo (s:PSchema) (v:PSvc):Nat->List PMeth->List PProb
 | _,[] => []
 | i,m :: r=>methP s v i m ++ methsGo s v (i+1) r
def service (s:PSchema) (v:PSvc):List PProb:=
 un v.name (-1) (qaw v.name) 8
 ++ un v.name (-1) (decide (v.meths.length<=64)) 3
 ++ methsGo s v 0 v.meths
 ++ noted v.name (-1) v.notes 5
def qhg:Str->List Str->Bool
 | _,[]=>true
 | a,b :: r=>ltS a b && qhg b r
def rising:List Str->Bool
 | []=>true
 | a :: r=>qhg a r
def listP (l:List Str):List PProb:=un [] (-1) (decide (l.length<=64)) 3 ++ un [] (-1) (rising l) 11
def meet (a b:List Str):Bool:=a.any fun s=>Id.has b s
def apart (a b c:List Str):Bool := !(meet b a || meet c a || meet c b)
def head (s:PSchema):List PProb:=
 listP (s.msgs.map (·.name)) ++ listP (s.enums.map (·.name)) ++ listP (s.svcs.map (·.name))
 ++ un [] (-1) (apart (s.msgs.map (·.name)) (s.enums.map (·.name)) (s.svcs.map (·.name))) 9
def all (s:PSchema):List PProb:=
 head s ++ s.msgs.flatMap (fun m=>qfy s m (finite s)) ++ s.enums.flatMap enum ++ s.svcs.flatMap (service s)
def valid (s:PSchema):Bool:=(all s).isEmpty
end Go.Proofs.YtgpjhibdongmbaaGreatDoor.Ck
namespace Go.Proofs.YtgpjhibdongmbaaGreatDoor
open Go.RowKit Ck
def Cells (w:World) (b o:Nat) (vs:List Value):Prop := ∀i v,vs[i]? = some v->w.cell? ⟨b,o+i,none⟩=some v
theorem Cells.bel {w w':World} {b o:Nat} {vs:List Value} (h:Cells w b o vs) (k:Bel w w'):Cells w' b o vs:=fun i v hv=>k.some (h i v hv)
def El {α:Type} (V:World->List Value->α->Prop) (w:World) (b o:Nat) (x:α):Prop := ∃vs,Cells w b o vs/\V w vs x
def Stays {α:Type} (V:World->List Value->α->Prop):Prop := ∀w w' vs x,Bel w w'->V w vs x->V w' vs x
theorem El.keeps {α:Type} {V:World->List Value->α->Prop} (h:Stays V):Keeps (El V):=fun w w' b o x hb k ⟨vs,h1,h2⟩=>⟨vs,h1.bel k,h w w' vs x k h2⟩
def Sv {α:Type} (C:Nat) (V:World->List Value->α->Prop):World->Value->List α->Prop:=Sl C (El V)
theorem Sv.bel {α:Type} {C:Nat} {V:World->List Value->α->Prop} (hV:Stays V) {w w':World} {v:Value} {xs:List α} (h:Sv C V w v xs) (k:Bel w w'):Sv C V w' v xs:=Sl.bel (El.keeps hV) h k
def VVal (vs:List Value) (v:PVal):Prop:=
 ∃(p1 p2 p3 p4:Option Addr) (c1 c2 c3 c4:Nat),vs=[.int .i64 v.k,.int .u64 v.x,.string (S v.t),.slice p1 v.n1 c1,.slice p2 v.n2 c2,.slice p3 v.n3 c3,.slice p4 v.n4 c4]/\0<=v.x/\v.x<18446744073709551616/\v.n1<=140737488355328/\v.n2<=140737488355328/\v.n3<=140737488355328/\v.n4<=140737488355328
def VNote (w:World) (vs:List Value) (n:PNote):Prop := ∃vv,vs=.string (S n.name) :: vv/\VVal vv n.val
theorem VNote.stays:Stays VNote:=fun _ _ _ _ _ h=>h
def VSpan (w:World) (vs:List Value) (x:PSpan):Prop:=vs=[.int .i64 x.lo,.int .i64 x.hi]
theorem VSpan.stays:Stays VSpan:=fun _ _ _ _ _ h=>h
def VStr (w:World) (vs:List Value) (k:Str):Prop:=vs=[.string (S k)]
theorem VStr.stays:Stays VStr:=fun _ _ _ _ _ h=>h
def Notes:=Sv 8 VNote
def Spans:=Sv 2 VSpan
def Texts:=Sv 1 VStr
def VField (w:World) (vs:List Value) (f:PField):Prop:=
 ∃vv nv,vs=[.int .i64 f.num,.string (S f.name),.int .i64 f.card,.int .i64 f.key,.int .i64 f.tk,.string (S f.tn),.string (S f.un),.bool f.hd] ++ vv ++ [nv]/\VVal vv f.df/\Notes w nv f.notes
theorem VField.stays:Stays VField:=fun _ _ _ _ k ⟨vv,nv,h1,h2,h3⟩=>⟨vv,nv,h1,h2,h3.bel VNote.stays k⟩
def VItem (w:World) (vs:List Value) (it:PItem):Prop := ∃nv,vs=[.string (S it.name),.int .i64 it.num,nv]/\Notes w nv it.notes
theorem VItem.stays:Stays VItem:=fun _ _ _ _ k ⟨nv,h1,h3⟩=>⟨nv,h1,h3.bel VNote.stays k⟩
def VMeth (w:World) (vs:List Value) (m:PMeth):Prop := ∃nv,vs=[.string (S m.name),.string (S m.inn),.string (S m.out),.int .i64 m.shape,nv]/\Notes w nv m.notes
theorem VMeth.stays:Stays VMeth:=fun _ _ _ _ k ⟨nv,h1,h3⟩=>⟨nv,h1,h3.bel VNote.stays k⟩
def VMsg (w:World) (vs:List Value) (m:PMsg):Prop:=
 ∃fv rv gv nv,vs=[.string (S m.name),fv,rv,gv,nv]/\Sv 16 VField w fv m.fields/\Spans w rv m.res/\Texts w gv m.gone/\Notes w nv m.notes
theorem VMsg.stays:Stays VMsg:=fun _ _ _ _ k ⟨fv,rv,gv,nv,h1,h2,h3,h4,h5⟩=>⟨fv,rv,gv,nv,h1,h2.bel VField.stays k,h3.bel VSpan.stays k,h4.bel VStr.stays k,h5.bel VNote.stays k⟩
def VEnum (w:World) (vs:List Value) (e:PEnum):Prop:=
 ∃iv rv nv,vs=[.string (S e.name),.bool e.op,iv,rv,nv]/\Sv 3 VItem w iv e.items/\Spans w rv e.res/\Notes w nv e.notes
theorem VEnum.stays:Stays VEnum:=fun _ _ _ _ k ⟨iv,rv,nv,h1,h2,h3,h4⟩=>⟨iv,rv,nv,h1,h2.bel VItem.stays k,h3.bel VSpan.stays k,h4.bel VNote.stays k⟩
def VSvc (w:World) (vs:List Value) (v:PSvc):Prop:=
 ∃mv nv,vs=[.string (S v.name),mv,nv]/\Sv 5 VMeth w mv v.meths/\Notes w nv v.notes
theorem VSvc.stays:Stays VSvc:=fun _ _ _ _ k ⟨mv,nv,h1,h2,h3⟩=>⟨mv,nv,h1,h2.bel VMeth.stays k,h3.bel VNote.stays k⟩
def VSchema (w:World) (vs:List Value) (s:PSchema):Prop:=
 ∃mv ev sv,vs=[mv,ev,sv]/\Sv 5 VMsg w mv s.msgs/\Sv 5 VEnum w ev s.enums/\Sv 3 VSvc w sv s.svcs
theorem VSchema.stays:Stays VSchema:=fun _ _ _ _ k ⟨mv,ev,sv,h1,h2,h3,h4⟩=>⟨mv,ev,sv,h1,h2.bel VMsg.stays k,h3.bel VEnum.stays k,h4.bel VSvc.stays k⟩
end Go.Proofs.YtgpjhibdongmbaaGreatDoor
