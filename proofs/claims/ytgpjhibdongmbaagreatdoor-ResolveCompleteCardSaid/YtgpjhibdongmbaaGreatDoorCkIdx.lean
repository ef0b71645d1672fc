import Derived.Test.YtgpjhibdongmbaaGreatDoorIdWord
import Derived.Test.YtgpjhibdongmbaaGreatDoorUtfDec
import Derived.Shelf.SlicesQ.Load
set_option maxRecDepth 100000
set_option maxHeartbeats 4000000
set_option linter.unusedVariables false
set_option linter.unusedSimpArgs false
namespace Go.Proofs.YtgpjhibdongmbaaGreatDoor.Ck
abbrev Str:=List UInt8
structure PVal where
 k:Int
 x:Int
 t:Str
 n1:Nat
 n2:Nat
 n3:Nat
 n4:Nat
def PVal.n (v:PVal):Nat:=v.n1+v.n2+v.n3+v.n4
structure PNote where
 name:Str
 val:PVal
structure PField where
 num:Int
 name:Str
 card:Int
 key:Int
 tk:Int
 tn:Str
 un:Str
 hd:Bool
 df:PVal
 notes:List PNote
structure PSpan where
 lo:Int
 hi:Int
structure PMsg where
 name:Str
 fields:List PField
 res:List PSpan
 gone:List Str
 notes:List PNote
structure PItem where
 name:Str
 num:Int
 notes:List PNote
structure PEnum where
 name:Str
 op:Bool
 items:List PItem
 res:List PSpan
 notes:List PNote
structure PMeth where
 name:Str
 inn:Str
 out:Str
 shape:Int
 notes:List PNote
structure PSvc where
 name:Str
 meths:List PMeth
 notes:List PNote
structure PSchema where
 msgs:List PMsg
 enums:List PEnum
 svcs:List PSvc
structure PProb where
 df:Str
 num:Int
 err:Int
def known:List (Str × Int × Int):=[([100,101,112,114,101,99,97,116,101,100],1,126),([100,111,99],7,126),([97,108,105,97,115],7,84),([115,105,110,99,101],4,84),([117,110,116,105,108],4,84),([109,105,110],3,4),([109,97,120],3,4),([108,101,110,103,116,104],4,4),([115,101,99,114,101,116],1,4),([105,100,101,109,112,111,116,101,110,116],1,64),([116,105,109,101,111,117,116],4,64),([114,111,117,116,101],7,64),([111,119,110,101,114],7,34)]
def find? (name:Str):Option (Int × Int):=(known.find? (fun r=>r.1=name)).map (·.2)
def qay (name:Str):Int:=match find? name with|some r=>r.1|none=>0
def fits (kind:Int) (v:PVal):Bool:=Pr.fitsB kind v.k v.x v.t v.n
def right (n:PNote):Bool:=decide (qay n.name ≠ 0) && fits (qay n.name) n.val
def ltS (a b:Str):Bool:=decide (a<b)
def bitOf (m t:Int):Bool:=decide (m / 2 ^ t.toNat % 2=1)
def qb0 (n:PNote) (qai:Int) (last:Str) (ok:Bool):Int:=
 match find? n.name with
 | none=>8
 | some (_,tg)=>
  if qai<1 ∨ 6<qai ∨ bitOf tg qai=false then 1
  else if right n=false then 12
  else if ok=true/\ltS n.name last=true then 11
  else if ok=true/\n.name=last then 9
  else 0
def qc5 (qai:Int):List PNote->Str->Bool->Int
 | [],_,_=>0
 | n :: r,last,ok=>if qb0 n qai last ok=0 then qc5 qai r n.name true else qb0 n qai last ok
def qam (l:List PNote) (qai:Int):Int:=if 8<l.length then 3 else qc5 qai l [] false
def qa5 (s:Str):Bool:=Id.isPart s && !Id.isWord s
def qah (s:Str):Bool:=Id.isFull s && !(Id.cut 46 s).any Id.isWord
def un (d:Str) (num:Int) (ok:Bool) (e:Int):List PProb:=if ok=true then []else [⟨d,num,e⟩]
def noted (d:Str) (num:Int) (l:List PNote) (qai:Int):List PProb:=un d num (decide (qam l qai=0)) (qam l qai)
def qb6 (l:List PSpan) (n:Int):Bool:=l.any fun x=>decide (x.lo<=n/\n<=x.hi)
def keyed (card key:Int):Bool:=if card ≠ 5 then decide (key=0)else decide (1<=key/\key<=7/\key ≠ 6)
def msgOf (s:PSchema) (name:Str):Option PMsg:=s.msgs.find? fun m=>m.name=name
def enumOf (s:PSchema) (name:Str):Option PEnum:=s.enums.find? fun e=>e.name=name
def typed (s:PSchema) (f:PField):Bool:=
 if 1<=f.tk/\f.tk<=8 then decide (f.tn=[])
 else if f.tk=9 then(enumOf s f.tn).isSome
 else if f.tk=10 then(msgOf s f.tn).isSome && decide (f.card ≠ 3)
 else false
def zeroV (v:PVal):Bool:=decide (v.k=0/\v.x=0/\v.t=[]/\v.n=0)
def u64 (n:Int):Int:=n % 18446744073709551616
def qmk (s:PSchema) (f:PField):Bool:=
 if f.hd=false then zeroV f.df
 else if f.card ≠ 2 ∨ f.un ≠ [] ∨ fits f.tk f.df=false ∨ Pr.normB f.df.k f.df.x ≠ f.df.x then false
 else if f.tk ≠ 9 then true
 else match enumOf s f.tn with
  | none=>false
  | some e=>e.items.any fun it=>decide (u64 it.num=f.df.x)
def united (m:PMsg) (i:Nat) (f:PField):Bool:=
 if f.un=[]then true
 else if f.card ≠ 2 ∨ qa5 f.un=false ∨ (m.fields.any fun x=>decide (x.name=f.un))=true then false
 else if((m.fields.take i).any fun x=>decide (x.un=f.un))=false then true
 else match m.fields[i-1]? with
  | some g=>decide (g.un=f.un)
  | none=>false
def fieldP (s:PSchema) (m:PMsg) (i:Nat) (f:PField):List PProb:=
 un m.name f.num (decide (1<=f.num/\f.num<=65535)) 6
 ++ un m.name f.num (decide (i=0) || (match m.fields[i-1]? with|some g=>decide (g.num<f.num)|none=>false)) 11
 ++ un m.name f.num (qa5 f.name) 8
 ++ un m.name f.num (!((m.fields.take i).any fun x=>decide (x.name=f.name))) 9
 ++ un m.name f.num (!qb6 m.res f.num && !Id.has m.gone f.name) 21
 ++ un m.name f.num (decide (1<=f.card/\f.card<=5) && keyed f.card f.key) 1
 ++ un m.name f.num (typed s f) 12
 ++ un m.name f.num (united m i f) 15
 ++ un m.name f.num (qmk s f) 1
 ++ noted m.name f.num f.notes 2
def spansGo (d:Str) (least most:Int):Option PSpan->List PSpan->List PProb
 | _,[] => []
 | last,p :: r=>
  un d (-1) (decide (least<=p.lo/\p.hi<=most/\p.lo<=p.hi)) 6
  ++ un d (-1) (match last with|none=>true|some q=>decide (q.hi<p.lo)) 11
  ++ spansGo d least most (some p) r
def spans (d:Str) (l:List PSpan) (least most:Int):List PProb:=spansGo d least most none l
def needs (m:PMsg):List Str:=(m.fields.filter fun f=>decide (f.card=1/\f.tk=10)).map (·.tn)
def finStep (s:PSchema) (fin:Str->Bool) (m:PMsg):Str->Bool:=
 match msgOf s m.name with
 | none=>fin
 | some f=>if((needs f).any fun n=>(msgOf s n).isSome && !fin n)=true then fin else fun x=>decide (x=m.name) || fin x
def finRound (s:PSchema) (fin:Str->Bool):Str->Bool:=s.msgs.foldl (finStep s) fin
def qi7 (s:PSchema):Nat->(Str->Bool)->Str->Bool
 | 0,fin=>fin
 | k+1,fin=>qi7 s k (finRound s fin)
def finite (s:PSchema):Str->Bool:=qi7 s (s.msgs.length+1) fun _=>false
def cyclic (s:PSchema) (m:PMsg) (fin:Str->Bool):Bool:=(needs m).any fun n=>(msgOf s n).isSome && !fin n
def qky (s:PSchema) (m:PMsg):Nat->List PField->List PProb
 | _,[] => []
 | i,f :: r=>fieldP s m i f ++ qky s m (i+1) r
def qhx (s:PSchema) (m:PMsg) (fin:Str->Bool):List PProb:=
 un m.name (-1) (qah m.name) 8
 ++ un m.name (-1) (decide (m.fields.length<=64/\m.res.length<=16/\m.gone.length<=16)) 3
 ++ qky s m 0 m.fields
 ++ spans m.name m.res 1 65535
 ++ m.gone.flatMap (fun g=>un m.name (-1) (decide (Utf.bad g<0)) 7)
 ++ noted m.name (-1) m.notes 1
 ++ un m.name (-1) (!cyclic s m fin) 19
def message (s:PSchema) (m:PMsg):List PProb:=qhx s m (finite s)
def itemP (e:PEnum) (i:Nat) (it:PItem):List PProb:=
 un e.name it.num (decide (0<=it.num/\it.num<=2147483647)) 6
 ++ un e.name it.num (decide (i=0) || (match e.items[i-1]? with|some g=>decide (g.num<it.num)|none=>false)) 11
 ++ un e.name it.num (qa5 it.name) 8
 ++ un e.name it.num (!((e.items.take i).any fun x=>decide (x.name=it.name))) 9
 ++ un e.name it.num (!qb6 e.res it.num) 21
 ++ noted e.name it.num it.notes 4
def itemsGo (e:PEnum):Nat->List PItem->List PProb
 | _,[] => []
 | i,f :: r=>itemP e i f ++ itemsGo e (i+1) r
def enum (e:PEnum):List PProb:=
 un e.name (-1) (qah e.name) 8
 ++ un e.name (-1) (decide (1<=e.items.length/\e.items.length<=64/\e.res.length<=16)) 3
 ++ un e.name (-1) (match e.items with | []=>true|it :: _=>decide (it.num=0)) 14
 ++ itemsGo e 0 e.items
 ++ spans e.name e.res 0 2147483647
 ++ noted e.name (-1) e.notes 3
def methP (s:PSchema) (v:PSvc) (i:Nat) (m:PMeth):List PProb:=
 un v.name i (qa5 m.name) 8
 ++ un v.name i (decide (i=0) || (match v.meths[i-1]? with|some g=>ltS g.name m.name|none=>false)) 11
 ++ un v.name i ((msgOf s m.inn).isSome && (msgOf s m.out).isSome) 12
 ++ un v.name i (decide (1<=m.shape/\m.shape<=4)) 1
 ++ noted v.name i m.notes 6
def methsGo (s:PSchema) (v:PSvc):Nat->List PMeth->List PProb
 | _,[] => []
 | i,m :: r=>methP s v i m ++ methsGo s v (i+1) r
def service (s:PSchema) (v:PSvc):List PProb:=
 un v.name (-1) (qah v.name) 8
 ++ un v.name (-1) (decide (v.meths.length<=64)) 3
 ++ methsGo s v 0 v.meths
 ++ noted v.name (-1) v.notes 5
def qjp:Str->List Str->Bool
 | _,[]=>true
 | a,b :: r=>ltS a b && qjp b r
def rising:List Str->Bool
 | []=>true
 | a :: r=>qjp a r
def listP (l:List Str):List PProb:=un [] (-1) (decide (l.length<=64)) 3 ++ un [] (-1) (rising l) 11
def meet (a b:List Str):Bool:=a.any fun s=>Id.has b s
def apart (a b c:List Str):Bool := !(meet b a || meet c a || meet c b)
def head (s:PSchema):List PProb:=
 listP (s.msgs.map (·.name)) ++ listP (s.enums.map (·.name)) ++ listP (s.svcs.map (·.name))
 ++ un [] (-1) (apart (s.msgs.map (·.name)) (s.enums.map (·.name)) (s.svcs.map (·.name))) 9
def all (s:PSchema):List PProb:=
 head s ++ s.msgs.flatMap (fun m=>qhx s m (finite s)) ++ s.enums.flatMap enum ++ s.svcs.flatMap (service s)
def valid (s:PSchema):Bool:=(all s).isEmpty
end Go.Proofs.YtgpjhibdongmbaaGreatDoor.Ck
namespace Go.Proofs.YtgpjhibdongmbaaGreatDoor
section
open Go.RowKit Ck
def Cells (w:World) (b o:Nat) (vs:List Value):Prop := ∀i v,vs[i]? = some v->w.cell? ⟨b,o+i,none⟩=some v
theorem Cells.bel {w w':World} {b o:Nat} {vs:List Value} (h:Cells w b o vs) (k:Bel w w'):Cells w' b o vs:=fun i v hv=>k.some (h i v hv)
def El {α:Type} (V:World->List Value->α->Prop) (w:World) (b o:Nat) (x:α):Prop := ∃vs,Cells w b o vs/\V w vs x
def Stays {α:Type} (V:World->List Value->α->Prop):Prop := ∀w w' vs x,Bel w w'->V w vs x->V w' vs x
theorem El.keeps {α:Type} {V:World->List Value->α->Prop} (h:Stays V):Keeps (El V):=fun w w' b o x hb k ⟨vs,h1,h2⟩=>⟨vs,h1.bel k,h w w' vs x k h2⟩
def Sv {α:Type} (C:Nat) (V:World->List Value->α->Prop):World->Value->List α->Prop:=Sl C (El V)
theorem Sv.bel {α:Type} {C:Nat} {V:World->List Value->α->Prop} (hV:Stays V) {w w':World} {v:Value} {xs:List α} (h:Sv C V w v xs) (k:Bel w w'):Sv C V w' v xs:=Sl.bel (El.keeps hV) h k
def VVal (vs:List Value) (v:PVal):Prop:=
 ∃(p1 p2 p3 p4:Option Addr) (c1 c2 c3 c4:Nat),vs=[.int .i64 v.k,.int .u64 v.x,.string (S v.t),.slice p1 v.n1 c1,.slice p2 v.n2 c2,.slice p3 v.n3 c3,.slice p4 v.n4 c4]/\0<=v.x/\v.x<18446744073709551616/\v.n1<=140737488355328/\v.n2<=140737488355328/\v.n3<=140737488355328/\v.n4<=140737488355328
def VNote (w:World) (vs:List Value) (n:PNote):Prop := ∃vv,vs=.string (S n.name) :: vv/\VVal vv n.val
theorem VNote.stays:Stays VNote:=fun _ _ _ _ _ h=>h
def VSpan (w:World) (vs:List Value) (x:PSpan):Prop:=vs=[.int .i64 x.lo,.int .i64 x.hi]
theorem VSpan.stays:Stays VSpan:=fun _ _ _ _ _ h=>h
def VStr (w:World) (vs:List Value) (k:Str):Prop:=vs=[.string (S k)]
theorem VStr.stays:Stays VStr:=fun _ _ _ _ _ h=>h
def Notes:=Sv 8 VNote
def Spans:=Sv 2 VSpan
def Texts:=Sv 1 VStr
def VField (w:World) (vs:List Value) (f:PField):Prop:=
 ∃vv nv,vs=[.int .i64 f.num,.string (S f.name),.int .i64 f.card,.int .i64 f.key,.int .i64 f.tk,.string (S f.tn),.string (S f.un),.bool f.hd] ++ vv ++ [nv]/\VVal vv f.df/\Notes w nv f.notes
theorem VField.stays:Stays VField:=fun _ _ _ _ k ⟨vv,nv,h1,h2,h3⟩=>⟨vv,nv,h1,h2,h3.bel VNote.stays k⟩
def VItem (w:World) (vs:List Value) (it:PItem):Prop := ∃nv,vs=[.string (S it.name),.int .i64 it.num,nv]/\Notes w nv it.notes
theorem VItem.stays:Stays VItem:=fun _ _ _ _ k ⟨nv,h1,h3⟩=>⟨nv,h1,h3.bel VNote.stays k⟩
def VMeth (w:World) (vs:List Value) (m:PMeth):Prop := ∃nv,vs=[.string (S m.name),.string (S m.inn),.string (S m.out),.int .i64 m.shape,nv]/\Notes w nv m.notes
theorem VMeth.stays:Stays VMeth:=fun _ _ _ _ k ⟨nv,h1,h3⟩=>⟨nv,h1,h3.bel VNote.stays k⟩
def VMsg (w:World) (vs:List Value) (m:PMsg):Prop:=
 ∃fv rv gv nv,vs=[.string (S m.name),fv,rv,gv,nv]/\Sv 16 VField w fv m.fields/\Spans w rv m.res/\Texts w gv m.gone/\Notes w nv m.notes
theorem VMsg.stays:Stays VMsg:=fun _ _ _ _ k ⟨fv,rv,gv,nv,h1,h2,h3,h4,h5⟩=>⟨fv,rv,gv,nv,h1,h2.bel VField.stays k,h3.bel VSpan.stays k,h4.bel VStr.stays k,h5.bel VNote.stays k⟩
def VEnum (w:World) (vs:List Value) (e:PEnum):Prop:=
 ∃iv rv nv,vs=[.string (S e.name),.bool e.op,iv,rv,nv]/\Sv 3 VItem w iv e.items/\Spans w rv e.res/\Notes w nv e.notes
theorem VEnum.stays:Stays VEnum:=fun _ _ _ _ k ⟨iv,rv,nv,h1,h2,h3,h4⟩=>⟨iv,rv,nv,h1,h2.bel VItem.stays k,h3.bel VSpan.stays k,h4.bel VNote.stays k⟩
def VSvc (w:World) (vs:List Value) (v:PSvc):Prop:=
 ∃mv nv,vs=[.string (S v.name),mv,nv]/\Sv 5 VMeth w mv v.meths/\Notes w nv v.notes
theorem VSvc.stays:Stays VSvc:=fun _ _ _ _ k ⟨mv,nv,h1,h2,h3⟩=>⟨mv,nv,h1,h2.bel VMeth.stays k,h3.bel VNote.stays k⟩
def VSchema (w:World) (vs:List Value) (s:PSchema):Prop:=
 ∃mv ev sv,vs=[mv,ev,sv]/\Sv 5 VMsg w mv s.msgs/\Sv 5 VEnum w ev s.enums/\Sv 3 VSvc w sv s.svcs
theorem VSchema.stays:Stays VSchema:=fun _ _ _ _ k ⟨mv,ev,sv,h1,h2,h3,h4⟩=>⟨mv,ev,sv,h1,h2.bel VMsg.stays k,h3.bel VEnum.stays k,h4.bel VSvc.stays k⟩
end
section
open Go.RowKit Ck
def idxL {α:Type} (p:α->Bool) (xs:List α):Int:=match xs.findIdx? p with|some i=>(i:Int)|none => -1
theorem qc8 {α:Type} (p:α->Bool) (xs:List α) (k:Nat) (x:α) (hx:xs[k]? = some x) (hp:p x=true) (hn : ∀j y,j<k->xs[j]? = some y->p y=false):idxL p xs=(k:Int):=by
 unfold idxL
 have:xs.findIdx? p=some k:=by
  rw [List.findIdx?_eq_some_iff_getElem];obtain⟨h,rfl⟩:=List.getElem?_eq_some_iff.1 hx;refine⟨h,hp,fun j hj=>?_⟩;have:=hn j _ hj (List.getElem?_eq_getElem (by omega))
  simpa using this
 rw [this]
theorem qbo {α:Type} (p:α->Bool) (xs:List α) (hn : ∀j y,j<xs.length->xs[j]? = some y->p y=false):idxL p xs = -1:=by
 unfold idxL
 have:xs.findIdx? p=none:=by
  rw [List.findIdx?_eq_none_iff];intro x hx;obtain⟨j,hj,rfl⟩:=List.mem_iff_getElem.1 hx;exact hn j _ hj (List.getElem?_eq_getElem hj)
 rw [this]
theorem qc9 {α:Type} (p:α->Bool) (xs:List α):decide (0<=idxL p xs)=xs.any p:=by
 unfold idxL;cases h:xs.findIdx? p with
 | none=>
  rw [List.findIdx?_eq_none_iff]at h;have:xs.any p=false:=by rw [List.any_eq_false];intro x hx;simpa using h x hx
  rw [this];rfl
 | some i=>
  rw [List.findIdx?_eq_some_iff_getElem]at h;obtain⟨hi,hp,_⟩:=h;have:xs.any p=true:=List.any_eq_true.2 ⟨_,List.getElem_mem hi,hp⟩;rw [this];exact decide_eq_true (Int.natCast_nonneg i)
theorem qmg {α:Type} (p:α->Bool) (xs:List α):(idxL p xs<0/\xs.find? p=none) ∨ ∃(k:Nat) (x:α),idxL p xs=(k:Int)/\xs[k]? = some x/\xs.find? p=some x/\k<xs.length:=by
 unfold idxL;cases h:xs.findIdx? p with
 | none=>
  refine .inl ⟨by show(-1:Int)<0;omega,?_⟩;rw [List.findIdx?_eq_none_iff]at h;rw [List.find?_eq_none];intro x hx;simpa using h x hx
 | some i=>
  rw [List.findIdx?_eq_some_iff_getElem]at h;obtain⟨hi,hp,hn⟩:=h;refine .inr ⟨i,xs[i],rfl,List.getElem?_eq_getElem hi,?_,hi⟩;rw [List.find?_eq_some_iff_getElem];exact⟨hp,i,hi,rfl,fun j hj=>by simpa using hn j hj⟩
def qbb (α:Type) (V:World->List Value->α->Prop) (w:World) (xs:List α) (p:α->Bool) (g:Nat) (lb:Array Value):Prop:=
 ∀(x:α) (vs:List Value) (W:World),x ∈ xs->V w vs x->Bel w W->Calls Tryz.prog g (#[.agg vs.toArray] ++ lb) W fun e w'=>e=.returned (.bool (p x))/\Below W.heap.size W w'
theorem agg_Span (w:World):(isAgg 116).run Tryz.prog w=.ok true w:=by kernel_rfl
theorem qlo (w:World):(Go.sizeOf 116).run Tryz.prog w=.ok 2 w:=by kernel_rfl
theorem ix_Span {α:Type} (V:World->List Value->α->Prop) (hV : ∀W vs x,V W vs x->vs.length=2) (g:Nat) (lb:Array Value) (eg : ∀args w,(callFunc g args).run Tryz.prog w=.ok (.enter g args) w) (v:Value) (xs:List α) (p:α->Bool) (w:World)
  (hv:Sv 2 V w v xs) (hp:qbb α V w xs p g lb) :
  Calls Tryz.prog 214 #[v,.func (.func g) #[] lb] w fun e w'=>e=.returned (.int .i64 (idxL p xs))/\Below w.heap.size w w':=by
 obtain⟨q,c,rfl,hl,hcap,hel⟩:=hv;have EL:=Lib.hid hel;have HP:=Lib.hid hp;have HV:=Lib.hid hV;have aE:=agg_Span;obtain⟨K,hK⟩ : ∃K,K=2:=⟨_,rfl⟩;have zE : ∀w,(Go.sizeOf 116).run Tryz.prog w=.ok K w:=hK ▸ qlo;have HK:=Lib.hid hK;clear hel hp hV hK
 go_enter Tryz.func214,Tryz.ntmps214
 go_wp2
 go_loopw [5,8] (fun _ i wr => ∃k:Nat,k<=xs.length/\i=.int .i64 k/\Bel w wr/\Hid (∀j y,j<k->xs[j]? = some y->p y=false)) (fun _ i _=>xs.length-(intOf i).toNat)
 case atStart=>exact⟨0,by omega,rfl,Bel.refl _,Lib.hid fun j y hj=>absurd hj (Nat.not_lt_zero _)⟩
 case round=>
  obtain⟨k,hk,rfl,kw,A⟩:=hrel;by_cases hlt:k<xs.length
  ·have hg:xs[k]? = some xs[k]:=List.getElem?_eq_getElem hlt
   obtain⟨b,off,rfl,hbs,vs,hce,hvs⟩:=EL.out k _ hg;have hki:(k:Int)<(xs.length:Int):=by omega
   have l2:Sem.run Tryz.prog (loadCellsFrom ⟨b,off+k*K,none⟩ 0 K #[]) wr=.ok vs.toArray wr:=run_loadCellsFrom_list Tryz.prog _ _ vs K ((HV.out _ _ _ hvs).trans HK.out.symm) (fun i v hi=>by
    rw [HK.out,Addr.add_lit]
    exact kw.some (hce i v hi))
   have HG:=Lib.hid hg;have hcall:=HP.out _ _ wr (List.getElem_mem hlt) hvs kw;clear hce hvs hg;generalize xs[k]=y at *;cases hq:p y with
   | true=>
    rw [hq]at hcall;have HC:=Lib.hid hcall;have HQ:=Lib.hid hq;clear hcall hq
    go_wp2_with (go_at_fn g;(with_reducible refine HC.out.mono ?_);rintro e w' ⟨rfl,hb'⟩)
    go_ret;exact⟨qaf (qc8 p xs k y HG.out HQ.out A.out).symm,Bel.of kw hb'⟩
   | false=>
    rw [hq]at hcall;have HC:=Lib.hid hcall;have HQ:=Lib.hid hq;clear hcall hq
    go_wp2_with (go_at_fn g;(with_reducible refine HC.out.mono ?_);rintro e w' ⟨rfl,hb'⟩;have k2:=Bel.of kw hb';clear hb')
    refine⟨⟨k+1,by omega,rfl,k2,Lib.hid fun j z hj hz=>?_⟩,by simp [intOf];omega⟩;by_cases e:j=k
    ·subst e
     have:=HG.out;rw [hz]at this;cases this;exact HQ.out
    ·exact A.out j z (by omega) hz
  ·have hki : ¬(k:Int)<(xs.length:Int):=by omega
   have hkl:k=xs.length:=by omega
   subst hkl;go_wp2;go_ret;exact⟨qaf (qbo p xs A.out).symm,kw.out⟩
theorem cf_Span {α:Type} (V:World->List Value->α->Prop) (hV : ∀W vs x,V W vs x->vs.length=2) (g:Nat) (lb:Array Value) (eg : ∀args w,(callFunc g args).run Tryz.prog w=.ok (.enter g args) w) (v:Value) (xs:List α) (p:α->Bool) (w:World)
  (hv:Sv 2 V w v xs) (hp:qbb α V w xs p g lb) :
  Calls Tryz.prog 202 #[v,.func (.func g) #[] lb] w fun e w'=>e=.returned (.bool (xs.any p))/\Below w.heap.size w w':=by
 have ci:=Lib.hid (fun W (h:Sv 2 V W v xs) (h2:qbb α V W xs p g lb)=>ix_Span V hV g lb eg v xs p W h h2);have HV:=Lib.hid hv;have HP:=Lib.hid hp;have ha:=Lib.hid (qc9 p xs);clear hv hp hV;generalize idxL p xs=R at ci ha
 go_enter Tryz.func202,Tryz.ntmps202
 go_wp2_with (go_at_call 214;(with_reducible refine(ci.out _ HV.out HP.out).mono ?_);rintro e w1 ⟨rfl,h1⟩)
 go_ret;exact⟨qa3 ha.out,h1⟩
theorem qfb (w:World):(isAgg 86).run Tryz.prog w=.ok true w:=by kernel_rfl
theorem qd5 (w:World):(Go.sizeOf 86).run Tryz.prog w=.ok 3 w:=by kernel_rfl
theorem ix_Item {α:Type} (V:World->List Value->α->Prop) (hV : ∀W vs x,V W vs x->vs.length=3) (g:Nat) (lb:Array Value) (eg : ∀args w,(callFunc g args).run Tryz.prog w=.ok (.enter g args) w) (v:Value) (xs:List α) (p:α->Bool) (w:World)
  (hv:Sv 3 V w v xs) (hp:qbb α V w xs p g lb) :
  Calls Tryz.prog 201 #[v,.func (.func g) #[] lb] w fun e w'=>e=.returned (.int .i64 (idxL p xs))/\Below w.heap.size w w':=by
 obtain⟨q,c,rfl,hl,hcap,hel⟩:=hv;have EL:=Lib.hid hel;have HP:=Lib.hid hp;have HV:=Lib.hid hV;have aE:=qfb;obtain⟨K,hK⟩ : ∃K,K=3:=⟨_,rfl⟩;have zE : ∀w,(Go.sizeOf 86).run Tryz.prog w=.ok K w:=hK ▸ qd5;have HK:=Lib.hid hK;clear hel hp hV hK
 go_enter Tryz.func201,Tryz.ntmps201
 go_wp2
 go_loopw [5,8] (fun _ i wr => ∃k:Nat,k<=xs.length/\i=.int .i64 k/\Bel w wr/\Hid (∀j y,j<k->xs[j]? = some y->p y=false)) (fun _ i _=>xs.length-(intOf i).toNat)
 case atStart=>exact⟨0,by omega,rfl,Bel.refl _,Lib.hid fun j y hj=>absurd hj (Nat.not_lt_zero _)⟩
 case round=>
  obtain⟨k,hk,rfl,kw,A⟩:=hrel;by_cases hlt:k<xs.length
  ·have hg:xs[k]? = some xs[k]:=List.getElem?_eq_getElem hlt
   obtain⟨b,off,rfl,hbs,vs,hce,hvs⟩:=EL.out k _ hg;have hki:(k:Int)<(xs.length:Int):=by omega
   have l2:Sem.run Tryz.prog (loadCellsFrom ⟨b,off+k*K,none⟩ 0 K #[]) wr=.ok vs.toArray wr:=run_loadCellsFrom_list Tryz.prog _ _ vs K ((HV.out _ _ _ hvs).trans HK.out.symm) (fun i v hi=>by
    rw [HK.out,Addr.add_lit]
    exact kw.some (hce i v hi))
   have HG:=Lib.hid hg;have hcall:=HP.out _ _ wr (List.getElem_mem hlt) hvs kw;clear hce hvs hg;generalize xs[k]=y at *;cases hq:p y with
   | true=>
    rw [hq]at hcall;have HC:=Lib.hid hcall;have HQ:=Lib.hid hq;clear hcall hq
    go_wp2_with (go_at_fn g;(with_reducible refine HC.out.mono ?_);rintro e w' ⟨rfl,hb'⟩)
    go_ret;exact⟨qaf (qc8 p xs k y HG.out HQ.out A.out).symm,Bel.of kw hb'⟩
   | false=>
    rw [hq]at hcall;have HC:=Lib.hid hcall;have HQ:=Lib.hid hq;clear hcall hq
    go_wp2_with (go_at_fn g;(with_reducible refine HC.out.mono ?_);rintro e w' ⟨rfl,hb'⟩;have k2:=Bel.of kw hb';clear hb')
    refine⟨⟨k+1,by omega,rfl,k2,Lib.hid fun j z hj hz=>?_⟩,by simp [intOf];omega⟩;by_cases e:j=k
    ·subst e
     have:=HG.out;rw [hz]at this;cases this;exact HQ.out
    ·exact A.out j z (by omega) hz
  ·have hki : ¬(k:Int)<(xs.length:Int):=by omega
   have hkl:k=xs.length:=by omega
   subst hkl;go_wp2;go_ret;exact⟨qaf (qbo p xs A.out).symm,kw.out⟩
theorem ql6 {α:Type} (V:World->List Value->α->Prop) (hV : ∀W vs x,V W vs x->vs.length=3) (g:Nat) (lb:Array Value) (eg : ∀args w,(callFunc g args).run Tryz.prog w=.ok (.enter g args) w) (v:Value) (xs:List α) (p:α->Bool) (w:World)
  (hv:Sv 3 V w v xs) (hp:qbb α V w xs p g lb) :
  Calls Tryz.prog 177 #[v,.func (.func g) #[] lb] w fun e w'=>e=.returned (.bool (xs.any p))/\Below w.heap.size w w':=by
 have ci:=Lib.hid (fun W (h:Sv 3 V W v xs) (h2:qbb α V W xs p g lb)=>ix_Item V hV g lb eg v xs p W h h2);have HV:=Lib.hid hv;have HP:=Lib.hid hp;have ha:=Lib.hid (qc9 p xs);clear hv hp hV;generalize idxL p xs=R at ci ha
 go_enter Tryz.func177,Tryz.ntmps177
 go_wp2_with (go_at_call 201;(with_reducible refine(ci.out _ HV.out HP.out).mono ?_);rintro e w1 ⟨rfl,h1⟩)
 go_ret;exact⟨qa3 ha.out,h1⟩
theorem qgv (w:World):(isAgg 84).run Tryz.prog w=.ok true w:=by kernel_rfl
theorem qej (w:World):(Go.sizeOf 84).run Tryz.prog w=.ok 5 w:=by kernel_rfl
theorem ix_Enum {α:Type} (V:World->List Value->α->Prop) (hV : ∀W vs x,V W vs x->vs.length=5) (g:Nat) (lb:Array Value) (eg : ∀args w,(callFunc g args).run Tryz.prog w=.ok (.enter g args) w) (v:Value) (xs:List α) (p:α->Bool) (w:World)
  (hv:Sv 5 V w v xs) (hp:qbb α V w xs p g lb) :
  Calls Tryz.prog 197 #[v,.func (.func g) #[] lb] w fun e w'=>e=.returned (.int .i64 (idxL p xs))/\Below w.heap.size w w':=by
 obtain⟨q,c,rfl,hl,hcap,hel⟩:=hv;have EL:=Lib.hid hel;have HP:=Lib.hid hp;have HV:=Lib.hid hV;have aE:=qgv;obtain⟨K,hK⟩ : ∃K,K=5:=⟨_,rfl⟩;have zE : ∀w,(Go.sizeOf 84).run Tryz.prog w=.ok K w:=hK ▸ qej;have HK:=Lib.hid hK;clear hel hp hV hK
 go_enter Tryz.func197,Tryz.ntmps197
 go_wp2
 go_loopw [5,8] (fun _ i wr => ∃k:Nat,k<=xs.length/\i=.int .i64 k/\Bel w wr/\Hid (∀j y,j<k->xs[j]? = some y->p y=false)) (fun _ i _=>xs.length-(intOf i).toNat)
 case atStart=>exact⟨0,by omega,rfl,Bel.refl _,Lib.hid fun j y hj=>absurd hj (Nat.not_lt_zero _)⟩
 case round=>
  obtain⟨k,hk,rfl,kw,A⟩:=hrel;by_cases hlt:k<xs.length
  ·have hg:xs[k]? = some xs[k]:=List.getElem?_eq_getElem hlt
   obtain⟨b,off,rfl,hbs,vs,hce,hvs⟩:=EL.out k _ hg;have hki:(k:Int)<(xs.length:Int):=by omega
   have l2:Sem.run Tryz.prog (loadCellsFrom ⟨b,off+k*K,none⟩ 0 K #[]) wr=.ok vs.toArray wr:=run_loadCellsFrom_list Tryz.prog _ _ vs K ((HV.out _ _ _ hvs).trans HK.out.symm) (fun i v hi=>by
    rw [HK.out,Addr.add_lit]
    exact kw.some (hce i v hi))
   have HG:=Lib.hid hg;have hcall:=HP.out _ _ wr (List.getElem_mem hlt) hvs kw;clear hce hvs hg;generalize xs[k]=y at *;cases hq:p y with
   | true=>
    rw [hq]at hcall;have HC:=Lib.hid hcall;have HQ:=Lib.hid hq;clear hcall hq
    go_wp2_with (go_at_fn g;(with_reducible refine HC.out.mono ?_);rintro e w' ⟨rfl,hb'⟩)
    go_ret;exact⟨qaf (qc8 p xs k y HG.out HQ.out A.out).symm,Bel.of kw hb'⟩
   | false=>
    rw [hq]at hcall;have HC:=Lib.hid hcall;have HQ:=Lib.hid hq;clear hcall hq
    go_wp2_with (go_at_fn g;(with_reducible refine HC.out.mono ?_);rintro e w' ⟨rfl,hb'⟩;have k2:=Bel.of kw hb';clear hb')
    refine⟨⟨k+1,by omega,rfl,k2,Lib.hid fun j z hj hz=>?_⟩,by simp [intOf];omega⟩;by_cases e:j=k
    ·subst e
     have:=HG.out;rw [hz]at this;cases this;exact HQ.out
    ·exact A.out j z (by omega) hz
  ·have hki : ¬(k:Int)<(xs.length:Int):=by omega
   have hkl:k=xs.length:=by omega
   subst hkl;go_wp2;go_ret;exact⟨qaf (qbo p xs A.out).symm,kw.out⟩
theorem cf_Enum {α:Type} (V:World->List Value->α->Prop) (hV : ∀W vs x,V W vs x->vs.length=5) (g:Nat) (lb:Array Value) (eg : ∀args w,(callFunc g args).run Tryz.prog w=.ok (.enter g args) w) (v:Value) (xs:List α) (p:α->Bool) (w:World)
  (hv:Sv 5 V w v xs) (hp:qbb α V w xs p g lb) :
  Calls Tryz.prog 170 #[v,.func (.func g) #[] lb] w fun e w'=>e=.returned (.bool (xs.any p))/\Below w.heap.size w w':=by
 have ci:=Lib.hid (fun W (h:Sv 5 V W v xs) (h2:qbb α V W xs p g lb)=>ix_Enum V hV g lb eg v xs p W h h2);have HV:=Lib.hid hv;have HP:=Lib.hid hp;have ha:=Lib.hid (qc9 p xs);clear hv hp hV;generalize idxL p xs=R at ci ha
 go_enter Tryz.func170,Tryz.ntmps170
 go_wp2_with (go_at_call 197;(with_reducible refine(ci.out _ HV.out HP.out).mono ?_);rintro e w1 ⟨rfl,h1⟩)
 go_ret;exact⟨qa3 ha.out,h1⟩
end
end Go.Proofs.YtgpjhibdongmbaaGreatDoor
