/- Plain laws of link's small functions: find, count, types, typed; a file's names, fields, methods. -/
/- link.Program.Slots: the types of an object's values, those of the classes above ahead. -/
/- Rows whose elements are of two sorts while they are being turned; an element of a row of the call's own, as it was made. -/
/- link.Program.Tree: names and supers. -/
/- link.copied: a class of its own, by hand. -/
/- link: calls through the interface 'source': what a class's names, fields, methods are, whatever it comes from. -/
/- link: an entry that is copied into a block of its own; numbers looked up. -/
/- link.Program.names: each name once, and right; by hand. -/
/- link.built: the classes that are built in, by hand. -/
/- link.Program.starts: there is a main; by hand. -/
/- link.Program.overrides: a method that takes another one's place is static just as that; by hand. -/
/- link.rules: the five rules, function values, by hand. -/
/- link.Program.add: a class behind all others, by hand. -/
/- link.Program.tops: all supers lead to Object; by hand. -/
/- Plain law of methods' descriptors: what a method's descriptor is ('kMethV'); the program's Method comes to it; what a descriptor made of right fields' descriptors is. -/
import Derived.Test.YtoonhpcjcimecaaDoorM1
import Derived.Test.YtoonhpcjcimecaaDoorM3
import Derived.Deep.DeepCutAuto
import Derived.Deep.CutBlock
import Derived.Test.YtoonhpcjcimecaaDoorM2
import Derived.Laws.EntriesVeiled
namespace Go.Proofs.YtoonhpcjcimecaaDoor.Px
open Go.RowKit Go.Proofs.YtoonhpcjcimecaaDoorW.PrintWords Go.Proofs.YtoonhpcjcimecaaDoorW.PrintLast Go.Proofs.YtoonhpcjcimecaaDoorW.PrintMore
set_option linter.unusedVariables false
set_option linter.unusedSimpArgs false
theorem Ev.posC {α:Type} {c:Prop} [Decidable c] {F G:Nat→Option α} {r:α} (hc:c) (h:Ev F r):Ev (fun k => if c then F k else G k) r:=Ev.congr (fun k => if_pos hc) h
theorem Ev.negC {α:Type} {c:Prop} [Decidable c] {F G:Nat→Option α} {r:α} (hc:¬ c) (h:Ev G r):Ev (fun k => if c then F k else G k) r:=Ev.congr (fun k => if_neg hc) h
theorem rd_mem (l:List Mem) (i:Nat) (h:i < l.length):rd_T86 l (i:Int)=l[i]:=by
 unfold rd_T86
 rw [Int.toNat_natCast,List.getD_eq_getElem?_getD,List.getElem?_eq_getElem h]
 rfl
theorem up1 {i n:Nat} (h:i < n) (hn:n≤1048576):wrap64 ((i:Int) + 1)=((i + 1:Nat):Int):=by unfold wrap64;omega
def isM (n d:ByteArray) (m:Mem):Bool:=decide (m.f0.toList=n.toList) && decide (m.f1.toList=d.toList)
def findG (n d:ByteArray):List Mem→Nat→Int
 | [],_ => -1
 | m :: l,i => if isM n d m=true then (i:Int) else findG n d l (i + 1)
def findV (l:List Mem) (n d:ByteArray):Int:=findG n d l 0
theorem find.ev_l (l:List Mem) (hl:l.length≤1048576) (n d:ByteArray):∀ m (i:Nat),l.length≤i + m→i≤l.length→Ev (fun k => link_find.l0 k n d l (l.length:Int) (i:Int)) (findG n d (l.drop i) i):=by
 have stop:∀ i:Nat,i=l.length→Ev (fun k => link_find.l0 k n d l (l.length:Int) (i:Int)) (findG n d (l.drop i) i):=by
  intro i hi
  refine Ev.step (f:=fun _ => some (-1)) (fun k => by simp only [link_find.l0];rw [if_neg (by omega)]) ?_
  rw [hi,List.drop_length]
  exact Ev.now _
 intro m
 induction m with
 | zero => intro i h hi;exact stop i (by omega)
 | succ m ih =>
  intro i h hi
  by_cases hlt:i < l.length
  ·have hC:(i:Int) < (l.length:Int):=by omega
   have hD:(0:Int)≤(i:Int):=by omega
   refine Ev.step (f:=fun k => if (l[i]).f0.toList=n.toList then (if (l[i]).f1.toList=d.toList then some (i:Int) else link_find.l0 k n d l (l.length:Int) ((i + 1:Nat):Int)) else link_find.l0 k n d l (l.length:Int) ((i + 1:Nat):Int)) (fun k => ?_) ?_
   ·simp only [link_find.l0]
    rw [if_pos hC,if_pos hD,if_pos hC,rd_mem l i hlt,up1 hlt hl]
   ·rw [List.drop_eq_getElem_cons hlt]
    have hr:=ih (i + 1) (by omega) (by omega)
    unfold findG isM
    by_cases h0:(l[i]).f0.toList=n.toList
    ·rw [decide_eq_true h0]
     refine Ev.posC h0 ?_
     by_cases h1:(l[i]).f1.toList=d.toList
     ·rw [decide_eq_true h1]
      exact Ev.posC h1 (Ev.now _)
     ·rw [decide_eq_false h1]
      exact Ev.negC h1 hr
    ·rw [decide_eq_false h0]
     exact Ev.negC h0 hr
  ·exact stop i (by omega)
theorem find.ev (l:List Mem) (hl:l.length≤1048576) (n d:ByteArray):Ev (fun k => link_find.f k l n d) (findV l n d):=find.ev_l l hl n d l.length 0 (by omega) (by omega)
def countV (l:List Mem) (b:Bool):Int:=((l.filter (fun m => m.f2==b)).length:Int)
theorem count.ev_l (l:List Mem) (hl:l.length≤1048576) (b:Bool):∀ m (i x:Nat),l.length≤i + m→i≤l.length→x≤i→Ev (fun k => link_count.l0 k b (x:Int) l (l.length:Int) (i:Int)) ((x:Int) + countV (l.drop i) b):=by
 have stop:∀ i x:Nat,i=l.length→Ev (fun k => link_count.l0 k b (x:Int) l (l.length:Int) (i:Int)) ((x:Int) + countV (l.drop i) b):=by
  intro i x hi
  refine Ev.step (f:=fun _ => some (x:Int)) (fun k => by simp only [link_count.l0];rw [if_neg (by omega)]) ?_
  rw [hi,List.drop_length]
  unfold countV
  simp only [List.filter_nil,List.length_nil]
  exact Ev.now _
 intro m
 induction m with
 | zero => intro i x h hi _;exact stop i x (by omega)
 | succ m ih =>
  intro i x h hi hx
  by_cases hlt:i < l.length
  ·have hC:(i:Int) < (l.length:Int):=by omega
   have hD:(0:Int)≤(i:Int):=by omega
   refine Ev.step (f:=fun k => if ((l[i]).f2==b)=true then link_count.l0 k b ((x + 1:Nat):Int) l (l.length:Int) ((i + 1:Nat):Int) else link_count.l0 k b (x:Int) l (l.length:Int) ((i + 1:Nat):Int)) (fun k => ?_) ?_
   ·simp only [link_count.l0]
    rw [if_pos hC,if_pos hD,if_pos hC,rd_mem l i hlt,up1 hlt hl,up1 (show x < l.length by omega) hl]
   ·rw [List.drop_eq_getElem_cons hlt]
    unfold countV
    rw [List.filter_cons]
    by_cases h0:((l[i]).f2==b)=true
    ·rw [if_pos h0]
     have hr:=ih (i + 1) (x + 1) (by omega) (by omega) (by omega)
     unfold countV at hr
     refine Ev.posC h0 ?_
     have e:((x:Int) + ((l[i] :: List.filter (fun m => m.f2==b) (List.drop (i + 1) l)).length:Int))=((x + 1:Nat):Int) + ((List.filter (fun m => m.f2==b) (List.drop (i + 1) l)).length:Int):=by rw [List.length_cons];omega
     rw [e]
     exact hr
    ·rw [if_neg h0]
     exact Ev.negC h0 (ih (i + 1) x (by omega) (by omega) (by omega))
  ·exact stop i x (by omega)
theorem count.ev (l:List Mem) (hl:l.length≤1048576) (b:Bool):Ev (fun k => link_count.f k l b) (countV l b):=by
 have:=count.ev_l l hl b l.length 0 0 (by omega) (by omega) (by omega)
 rw [show (((0:Nat):Int) + countV (l.drop 0) b)=countV l b by rw [List.drop_zero];omega] at this
 exact this
def tyF (m:Mem):Ty5:=⟨(FieldV m.f1.data.toList).1.1,(FieldV m.f1.data.toList).1.2.1,(FieldV m.f1.data.toList).1.2.2.1,(FieldV m.f1.data.toList).1.2.2.2.1,(FieldV m.f1.data.toList).1.2.2.2.2⟩
def typesV (l:List Mem) (b:Bool):List Ty5:=(l.filter (fun m => m.f2==b)).map tyF
theorem kind_Field.evS {s:ByteArray} (h:s.size≤4294967280):Ev (fun k => kind_Field.f k s) (fAns (FieldV s.data.toList)):=by
 have:=kind_Field.ev s.data.toList (by have:=BA_size s.data.toList;rw [BA_eta] at this;omega)
 rw [BA_eta] at this
 exact this
theorem types.ev_l (l:List Mem) (hl:l.length≤1048576) (hs:∀ m ∈ l,m.f1.size≤4294967280) (b:Bool):∀ m (i:Nat) (acc:List Ty5),l.length≤i + m→i≤l.length→acc.length≤i→Ev (fun k => link_types.l0 k b acc l (l.length:Int) (i:Int)) (acc++typesV (l.drop i) b):=by
 have stop:∀ (i:Nat) (acc:List Ty5),i=l.length→Ev (fun k => link_types.l0 k b acc l (l.length:Int) (i:Int)) (acc++typesV (l.drop i) b):=by
  intro i acc hi
  refine Ev.step (f:=fun _ => some acc) (fun k => by simp only [link_types.l0];rw [if_neg (by omega)]) ?_
  rw [hi,List.drop_length]
  unfold typesV
  simp only [List.filter_nil,List.map_nil,List.append_nil]
  exact Ev.now _
 intro m
 induction m with
 | zero => intro i acc h hi _;exact stop i acc (by omega)
 | succ m ih =>
  intro i acc h hi hx
  by_cases hlt:i < l.length
  ·have hC:(i:Int) < (l.length:Int):=by omega
   have hD:(0:Int)≤(i:Int):=by omega
   refine Ev.step (f:=fun k => if ((l[i]).f2==b)=true then (kind_Field.f k (l[i]).f1).bind fun t => (if acc.length < 2932031007402 then link_types.l0 k b (acc++[(⟨t.1,t.2.1,t.2.2.1,t.2.2.2.1,t.2.2.2.2.1⟩:Ty5)]) l (l.length:Int) ((i + 1:Nat):Int) else none) else link_types.l0 k b acc l (l.length:Int) ((i + 1:Nat):Int)) (fun k => ?_) ?_
   ·simp only [link_types.l0]
    rw [if_pos hC,if_pos hD,if_pos hC,rd_mem l i hlt,up1 hlt hl]
   ·rw [List.drop_eq_getElem_cons hlt]
    unfold typesV
    rw [List.filter_cons]
    by_cases h0:((l[i]).f2==b)=true
    ·rw [if_pos h0,List.map_cons]
     have hr:=ih (i + 1) (acc++[tyF l[i]]) (by omega) (by omega) (by rw [List.length_append,List.length_singleton];omega)
     unfold typesV at hr
     rw [List.append_assoc] at hr
     refine Ev.posC h0 (Ev.bind (kind_Field.evS (hs _ (List.getElem_mem hlt))) (Ev.posC (by omega) ?_))
     exact hr
    ·rw [if_neg h0]
     exact Ev.negC h0 (ih (i + 1) acc (by omega) (by omega) (by omega))
  ·exact stop i acc (by omega)
theorem types.ev (l:List Mem) (hl:l.length≤1048576) (hs:∀ m ∈ l,m.f1.size≤4294967280) (b:Bool):Ev (fun k => link_types.f k l b) (typesV l b):=types.ev_l l hl hs b l.length 0 [] (by omega) (by omega) (by simp)
def typedQ (s:ByteArray):(Ty × Int):=FieldV (76 :: (s.data.toList++[59]))
def typedV (s:ByteArray):Bool:=if (typedQ s).2=0 then (typedQ s).1.2.1.toList==s.toList else false
theorem typed.ev (s:ByteArray) (h:s.size≤4294967270):Ev (fun k => link_typed.f k s) (typedV s):=by
 unfold link_typed.f
 have e1:((⟨#[76]⟩:ByteArray)++s).size=s.size + 1:=by
  rw [← BA_eta s,show ((⟨#[76]⟩:ByteArray)++BA s.data.toList)=BA ([76]++s.data.toList) from BA_append [76] _,BA_size,BA_size];simp
 have e2:((⟨#[76]⟩:ByteArray)++s)++(⟨#[59]⟩:ByteArray)=BA (76 :: (s.data.toList++[59])):=by
  rw [← BA_eta s]
  show (BA [76]++BA s.data.toList)++BA [59]=_
  rw [BA_append,BA_append,BA_eta]
  rfl
 refine Ev.posC (by omega) (Ev.posC (by omega) ?_)
 rw [e2]
 refine Ev.bind (kind_Field.ev _ ?_) ?_
 ·have:=BA_size s.data.toList
  rw [BA_eta] at this
  rw [List.length_cons,List.length_append,List.length_singleton]
  omega
 ·show Ev (fun k => if (typedQ s).2=0 then some ((typedQ s).1.2.1.toList==s.toList) else some false) (typedV s)
  unfold typedV
  by_cases h0:(typedQ s).2=0
  ·rw [if_pos h0,if_pos h0];exact Ev.now _
  ·rw [if_neg h0,if_neg h0];exact Ev.now _
theorem class_Name.eq (p:List Cst) (a b:Int) (f:List Fld) (m:List Mth):class_Name.f p a b f m=some (classV p a).1:=by
 unfold class_Name.f
 rw [pool_Class.eq]
 rfl
theorem class_Super.eq (p:List Cst) (a b:Int) (f:List Fld) (m:List Mth):class_Super.f p a b f m=some (classV p b).1:=by
 unfold class_Super.f
 rw [pool_Class.eq]
 rfl
theorem file_own.eq (p:List Cst) (a b:Int) (f:List Fld) (m:List Mth):link_file_own.f p a b f m=some ((classV p a).1,(classV p b).1):=by
 unfold link_file_own.f
 rw [class_Name.eq,class_Super.eq]
 rfl
def memV (p:List Cst) (n d fl:Int):Mem:=⟨(textV p n).1,(textV p d).1,fl==8⟩
theorem file_member.eq (p:List Cst) (a b:Int) (f:List Fld) (m:List Mth) (n d fl:Int):link_file_member.f p a b f m n d fl=some ((textV p n).1,(textV p d).1,fl==8):=by
 unfold link_file_member.f
 rw [pool_Text.eq,pool_Text.eq]
 rfl
def fieldsF (c:Cl):List Mem:=c.f3.map fun x => memV c.f0 x.f1 x.f2 x.f0
def methodsF (c:Cl):List Mem:=c.f4.map fun x => memV c.f0 x.f1 x.f2 x.f0
theorem rd_fld (l:List Fld) (i:Nat) (h:i < l.length):rd_T102 l (i:Int)=l[i]:=by
 unfold rd_T102
 rw [Int.toNat_natCast,List.getD_eq_getElem?_getD,List.getElem?_eq_getElem h]
 rfl
theorem rd_mth (l:List Mth) (i:Nat) (h:i < l.length):rd_T97 l (i:Int)=l[i]:=by
 unfold rd_T97
 rw [Int.toNat_natCast,List.getD_eq_getElem?_getD,List.getElem?_eq_getElem h]
 rfl
theorem file_fields.ev_l (c:Cl) (hl:c.f3.length≤1048576):∀ m (i:Nat) (acc:List Mem),c.f3.length≤i + m→i≤c.f3.length→acc.length≤i→Ev (fun k => link_file_fields.l0 k acc c.f3 (c.f3.length:Int) (i:Int) c.f0 c.f1 c.f2 c.f3 c.f4) (acc++(c.f3.drop i).map fun x => memV c.f0 x.f1 x.f2 x.f0):=by
 have stop:∀ (i:Nat) (acc:List Mem),i=c.f3.length→Ev (fun k => link_file_fields.l0 k acc c.f3 (c.f3.length:Int) (i:Int) c.f0 c.f1 c.f2 c.f3 c.f4) (acc++(c.f3.drop i).map fun x => memV c.f0 x.f1 x.f2 x.f0):=by
  intro i acc hi
  refine Ev.step (f:=fun _ => some acc) (fun k => by simp only [link_file_fields.l0];rw [if_neg (by omega)]) ?_
  rw [hi,List.drop_length,List.map_nil,List.append_nil]
  exact Ev.now _
 intro m
 induction m with
 | zero => intro i acc h hi _;exact stop i acc (by omega)
 | succ m ih =>
  intro i acc h hi hx
  by_cases hlt:i < c.f3.length
  ·have hC:(i:Int) < (c.f3.length:Int):=by omega
   have hD:(0:Int)≤(i:Int):=by omega
   refine Ev.step (f:=fun k => link_file_fields.l0 k (acc++[memV c.f0 (c.f3[i]).f1 (c.f3[i]).f2 (c.f3[i]).f0]) c.f3 (c.f3.length:Int) ((i + 1:Nat):Int) c.f0 c.f1 c.f2 c.f3 c.f4) (fun k => ?_) ?_
   ·simp only [link_file_fields.l0]
    rw [if_pos hC,if_pos hD,if_pos hC,rd_fld _ i hlt,up1 hlt hl,file_member.eq]
    simp only [Option.bind_some]
    rw [if_pos (by omega)]
    rfl
   ·rw [List.drop_eq_getElem_cons hlt,List.map_cons]
    have hr:=ih (i + 1) (acc++[memV c.f0 (c.f3[i]).f1 (c.f3[i]).f2 (c.f3[i]).f0]) (by omega) (by omega) (by rw [List.length_append,List.length_singleton];omega)
    rw [List.append_assoc] at hr
    exact hr
  ·exact stop i acc (by omega)
theorem file_fields.ev (c:Cl) (hl:c.f3.length≤1048576):Ev (fun k => link_file_fields.f k c.f0 c.f1 c.f2 c.f3 c.f4) (fieldsF c):=file_fields.ev_l c hl c.f3.length 0 [] (by omega) (by omega) (by simp)
theorem file_methods.ev_l (c:Cl) (hl:c.f4.length≤1048576):∀ m (i:Nat) (acc:List Mem),c.f4.length≤i + m→i≤c.f4.length→acc.length≤i→Ev (fun k => link_file_methods.l0 k acc c.f4 (c.f4.length:Int) (i:Int) c.f0 c.f1 c.f2 c.f3 c.f4) (acc++(c.f4.drop i).map fun x => memV c.f0 x.f1 x.f2 x.f0):=by
 have stop:∀ (i:Nat) (acc:List Mem),i=c.f4.length→Ev (fun k => link_file_methods.l0 k acc c.f4 (c.f4.length:Int) (i:Int) c.f0 c.f1 c.f2 c.f3 c.f4) (acc++(c.f4.drop i).map fun x => memV c.f0 x.f1 x.f2 x.f0):=by
  intro i acc hi
  refine Ev.step (f:=fun _ => some acc) (fun k => by simp only [link_file_methods.l0];rw [if_neg (by omega)]) ?_
  rw [hi,List.drop_length,List.map_nil,List.append_nil]
  exact Ev.now _
 intro m
 induction m with
 | zero => intro i acc h hi _;exact stop i acc (by omega)
 | succ m ih =>
  intro i acc h hi hx
  by_cases hlt:i < c.f4.length
  ·have hC:(i:Int) < (c.f4.length:Int):=by omega
   have hD:(0:Int)≤(i:Int):=by omega
   refine Ev.step (f:=fun k => link_file_methods.l0 k (acc++[memV c.f0 (c.f4[i]).f1 (c.f4[i]).f2 (c.f4[i]).f0]) c.f4 (c.f4.length:Int) ((i + 1:Nat):Int) c.f0 c.f1 c.f2 c.f3 c.f4) (fun k => ?_) ?_
   ·simp only [link_file_methods.l0]
    rw [if_pos hC,if_pos hD,if_pos hC,rd_mth _ i hlt,up1 hlt hl,file_member.eq]
    simp only [Option.bind_some]
    rw [if_pos (by omega)]
    rfl
   ·rw [List.drop_eq_getElem_cons hlt,List.map_cons]
    have hr:=ih (i + 1) (acc++[memV c.f0 (c.f4[i]).f1 (c.f4[i]).f2 (c.f4[i]).f0]) (by omega) (by omega) (by rw [List.length_append,List.length_singleton];omega)
    rw [List.append_assoc] at hr
    exact hr
  ·exact stop i acc (by omega)
theorem file_methods.ev (c:Cl) (hl:c.f4.length≤1048576):Ev (fun k => link_file_methods.f k c.f0 c.f1 c.f2 c.f3 c.f4) (methodsF c):=file_methods.ev_l c hl c.f4.length 0 [] (by omega) (by omega) (by simp)
end Go.Proofs.YtoonhpcjcimecaaDoor.Px
namespace Go.Proofs.YtoonhpcjcimecaaDoor.Px
open Go.RowKit Go.Maps Go.Proofs.YtoonhpcjcimecaaDoorW.PrintWords Go.Proofs.YtoonhpcjcimecaaDoorW.PrintLast Go.Proofs.YtoonhpcjcimecaaDoorW.PrintMore
set_option linter.unusedVariables false
set_option linter.unusedSimpArgs false
abbrev kTy:Kd Ty5:=k78
theorem infoTy5:(Tryd.prog.info? 78).map (fun i => (i.zero,i.size,i.bytes))=some (some (.agg #[.int .i64 0,.string (⟨#[]⟩:ByteArray),.int .i64 0,.int .i64 0,.int .i64 0]),5,48):=by kernel_rfl
theorem kTy_made {w W:World} {b:Nat} {ok:Nat→Prop} {x:Ty5} {cs:List Value} (h:kTy.K w x cs):kTy.M W b ok x cs:=by
 obtain rfl:=k78_open h
 exact k78_mkM _ _ _ _
structure SmallE (x:Ent):Prop where
 name:x.name.size≤1048576
 fl:x.fields.length≤1048576
 ml:x.methods.length≤1048576
 fs:∀ m ∈ x.fields,m.f0.size≤1048576∧m.f1.size≤1048576
 ms:∀ m ∈ x.methods,m.f0.size≤1048576∧m.f1.size≤1048576
def SmallL (L:List Ent):Prop:=∀ x ∈ L,SmallE x
theorem rd_Ent_in (L:List Ent) (i:Int) (h0:0≤i) (h1:i < (L.length:Int)):rd_Ent L i ∈ L:=by
 unfold rd_Ent
 rw [List.getD_eq_getElem?_getD,List.getElem?_eq_getElem (show i.toNat < L.length by omega)]
 exact List.getElem_mem _
def slotsF (L:List Ent):Nat→Int→List Ty5
 | 0,_ => []
 | k + 1,n => if hasV L n=true then slotsF L k (rd_Ent L n).super++typesV (rd_Ent L n).fields false else []
def slotsV (L:List Ent) (d:Int→Nat) (n:Int):List Ty5:=slotsF L (dUp d n) n
theorem slots_fuel {L:List Ent} {d:Int→Nat} (hC:Chain L d):∀ (m k j:Nat) (a:Int),dUp d a≤m→dUp d a≤k→dUp d a≤j→slotsF L k a=slotsF L j a:=by
 have neg:∀ (k:Nat) (a:Int),¬ 0≤a→slotsF L k a=[]:=by
  intro k a h
  cases k with
  | zero => rfl
  | succ k => exact if_neg (fun x => h (hasV_true x).1)
 intro m
 induction m with
 | zero =>
  intro k j a hm _ _
  have h:¬ 0≤a:=fun h => by unfold dUp at hm;rw [if_pos h] at hm;omega
  rw [neg k a h,neg j a h]
 | succ m ih =>
  intro k j a hm hk hj
  by_cases h:0≤a
  ·have e:dUp d a=d a + 1:=if_pos h
   obtain ⟨k',rfl⟩:∃ k',k=k' + 1:=⟨k - 1,by omega⟩
   obtain ⟨j',rfl⟩:∃ j',j=j' + 1:=⟨j - 1,by omega⟩
   simp only [slotsF]
   by_cases hb:hasV L a=true
   ·rw [if_pos hb,if_pos hb]
    obtain ⟨_,u2,u3⟩:=hC.up a h (hasV_true hb).2
    have hd:dUp d (rd_Ent L a).super≤d a:=by
     unfold dUp
     split
     ·rename_i h0;have:=u3 h0;omega
     ·exact Nat.zero_le _
    rw [ih k' j' _ (by omega) (by omega) (by omega)]
   ·rw [if_neg hb,if_neg hb]
  ·rw [neg k a h,neg j a h]
theorem dUp_super {L:List Ent} {d:Int→Nat} (hC:Chain L d) {n:Int} (hh:hasV L n=true):dUp d (rd_Ent L n).super + 1≤dUp d n:=by
 obtain ⟨p1,q1⟩:=hasV_true hh
 obtain ⟨_,u2,u3⟩:=hC.up n p1 q1
 unfold dUp
 rw [if_pos p1]
 split
 ·rename_i h0;have:=u3 h0;omega
 ·omega
theorem slots_eq {L:List Ent} {d:Int→Nat} (hC:Chain L d) {n:Int} (hh:hasV L n=true):slotsV L d n=slotsV L d (rd_Ent L n).super++typesV (rd_Ent L n).fields false:=by
 have h1:=dUp_super hC hh
 unfold slotsV
 obtain ⟨k,hk⟩:∃ k,dUp d n=k + 1:=⟨dUp d n - 1,by omega⟩
 rw [hk]
 simp only [slotsF]
 rw [if_pos hh,slots_fuel hC _ k (dUp d (rd_Ent L n).super) _ (Nat.le_refl _) (by omega) (Nat.le_refl _)]
theorem slots_no {L:List Ent} {d:Int→Nat} {n:Int} (hh:¬ hasV L n=true):slotsV L d n=[]:=by
 unfold slotsV
 cases dUp d n with
 | zero => rfl
 | succ k => exact if_neg hh
theorem types_len (l:List Mem) (b:Bool):(typesV l b).length≤l.length:=by
 unfold typesV
 rw [List.length_map]
 exact List.length_filter_le _ _
theorem slots_len {L:List Ent} {d:Int→Nat} (hC:Chain L d) (hS:SmallL L):∀ (m:Nat) (n:Int),dUp d n≤m→(slotsV L d n).length≤dUp d n * 1048576:=by
 intro m
 induction m with
 | zero =>
  intro n hm
  have h:¬ hasV L n=true:=fun h => by have:=dUp_super hC h;omega
  rw [slots_no h]
  exact Nat.zero_le _
 | succ m ih =>
  intro n hm
  by_cases hh:hasV L n=true
  ·have h1:=dUp_super hC hh
   have h2:=ih (rd_Ent L n).super (by omega)
   have h3:=types_len (rd_Ent L n).fields false
   have h4:=(hS _ (rd_Ent_in L n (hasV_true hh).1 (hasV_true hh).2)).fl
   have h5:(dUp d (rd_Ent L n).super + 1) * 1048576≤dUp d n * 1048576:=Nat.mul_le_mul_right _ h1
   rw [slots_eq hC hh,List.length_append]
   omega
  ·rw [slots_no hh]
   exact Nat.zero_le _
theorem bl_cell {w W:World} {ad:Addr} {v:Value} (h:Below w.heap.size w W) (hc:w.cell? ad=some v):W.cell? ad=some v:=(h.cell (World.block_lt_of_cell? w _ hc)).trans hc
set_option maxHeartbeats 8000000 in
set_option maxRecDepth 100000 in
theorem link_Slots.rec {L:List Ent} {d:Int→Nat} (hC:Chain L d) (hD:∀ n,d n≤1048576) (hS:SmallL L):∀ (m:Nat) (n:Int) (w:World) (p:Nat),dUp d n≤m→GG w→IsPC w p L →
  Calls Tryd.prog 10 #[pp p,.int .i64 n] w fun e w' => ∃ v,e=.returned v∧Kd.R kTy 78 w' w.heap.size (fun _ => True) v (slotsV L d n)∧Below w.heap.size w w':=by
 intro m
 induction m with
 | zero =>
  intro n w p hm hG hI
  have hh:¬ hasV L n=true:=fun h => by have:=dUp_super hC h;omega
  rw [slots_no hh]
  replace hh:hasV L n=false:=by simpa using hh
  have HI:=Aside0.mk hI
  clear hI hG hm hC hD hS
  go_enter Tryd.func10,Tryd.ntmps10
  go_wp2_with fail
  refine (link_has.calls n HI.out).mono ?_
  rintro _ W ⟨rfl,rfl⟩
  go_wp2
  go_ret
  exact ⟨_,rfl,Kd.R_nil _ _ _ _ _,Below.refl _ _⟩
 | succ m ih =>
  intro n w p hm hG hI
  by_cases hh:hasV L n=true
  case neg =>
   rw [slots_no hh]
   replace hh:hasV L n=false:=by simpa using hh
   have HI:=Aside0.mk hI
   clear hI hG hm hC hD hS ih
   go_enter Tryd.func10,Tryd.ntmps10
   go_wp2_with fail
   refine (link_has.calls n HI.out).mono ?_
   rintro _ W ⟨rfl,rfl⟩
   go_wp2
   go_ret
   exact ⟨_,rfl,Kd.R_nil _ _ _ _ _,Below.refl _ _⟩
  have IH:=Aside0.mk (ih (rd_Ent L n).super)
  have HD:=Aside0.mk (dUp_super hC hh)
  have HMM:=Aside0.mk hm
  have HG:=Aside0.mk hG
  have HI:=Aside0.mk hI
  have hsm:=hS _ (rd_Ent_in L n (hasV_true hh).1 (hasV_true hh).2)
  have HSM:=Aside0.mk hsm
  obtain ⟨kt,hkt⟩:=(types.ev (rd_Ent L n).fields hsm.fl (fun m hm => by have:=(hsm.fs m hm).2;omega) false).rounds
  have HT:=Aside0.mk hkt
  have HLEN:=Aside0.mk (show (slotsV L d (rd_Ent L n).super).length + (typesV (rd_Ent L n).fields false).length≤2199023255552 by
   have h1:=slots_len hC hS _ (rd_Ent L n).super (Nat.le_refl _)
   have h2:=types_len (rd_Ent L n).fields false
   have h3:=hsm.fl
   have h4:dUp d (rd_Ent L n).super≤1048577:=by unfold dUp;split;(have:=hD (rd_Ent L n).super;omega);omega
   omega)
  rw [slots_eq hC hh]
  obtain ⟨A,c,mp,k,D,hb,hl,hK,_⟩:=hI.ex
  have c0:w.cell? ⟨p,0,none⟩=some (.slice A L.length c):=(blk_cell hb 0).trans rfl
  obtain ⟨p1,q1⟩:=hasV_true hh
  obtain ⟨ad,s,A3,c3,A4,c4,e1,hE⟩:=at_Ent hK n p1 q1
  subst e1
  have C0:=Aside0.mk c0
  have HE:=Aside0.mk hE
  replace p1:=eq_true p1
  replace q1:=eq_true q1
  clear ih hm hG hI hsm hkt hb hl hK hE hC hD hS c0
  go_enter Tryd.func10,Tryd.ntmps10
  go_wp2_with fail
  refine (link_has.calls n HI.out).mono ?_
  rintro _ W ⟨rfl,rfl⟩
  go_upto_region 3 with fail
  have hbd:Below W.heap.size W W.drew:=below_drew (Below.refl _ _)
  have c0:W.drew.cell? ⟨p,0,none⟩=some (.slice (some ad) L.length c):=bl_cell hbd C0.out
  have c1:W.drew.cell? ⟨(ad.add (n.toNat * 7)).block,(ad.add (n.toNat * 7)).off + 2,none⟩=some (.int .i64 (rd_Ent L n).super):=bl_cell hbd HE.out.e2
  have c2:W.drew.cell? ⟨(ad.add (n.toNat * 7)).block,(ad.add (n.toNat * 7)).off + 3,none⟩=some (.slice A3 (rd_Ent L n).fields.length c3):=bl_cell hbd HE.out.e3
  have HBD:=Aside0.mk hbd
  clear hbd
  refine start_ (n:=21) (S:=fun w' => w'.cell? ⟨p,0,none⟩=some (.slice (some ad) L.length c)∧w'.cell? ⟨(ad.add (n.toNat * 7)).block,(ad.add (n.toNat * 7)).off + 2,none⟩=some (.int .i64 (rd_Ent L n).super)∧w'.cell? ⟨(ad.add (n.toNat * 7)).block,(ad.add (n.toNat * 7)).off + 3,none⟩=some (.slice A3 (rd_Ent L n).fields.length c3)) (ds:=[19]) #[false,false,false,false,false,false,false,false,false,false,false,false,false,false,false,false,false,false,false,false,false] (by kernel_rfl) rfl rfl ⟨c0,c1,c2⟩ (fun hHeld => ?_)
  refine pure_ (i:=0) (N:=some 9) (v:=?_) (a':=?_) #[true,false,false,false,false,false,false,false,false,false,false,false,false,false,false,false,false,false,false,false,false] rfl rfl (by kernel_rfl) (fun _ _ _ h => h) (Or.inl ⟨by rfl,?_⟩) ?_ ?_
  rotate_left
  ·intro w'
   go_simp
   with_reducible rfl
  rotate_left
  ·simp only [Act.put,List.setIfInBounds_toArray,List.set_cons_zero,List.set_cons_succ,i64_w,i32_w]
   rfl
  refine pure_ (i:=1) (N:=some 10) (v:=?_) (a':=?_) #[true,true,false,false,false,false,false,false,false,false,false,false,false,false,false,false,false,false,false,false,false] rfl rfl (by kernel_rfl) (fun _ _ _ h => h) (Or.inl ⟨by rfl,?_⟩) ?_ ?_
  rotate_left
  ·intro w'
   go_simp
   with_reducible rfl
  rotate_left
  ·simp only [Act.put,List.setIfInBounds_toArray,List.set_cons_zero,List.set_cons_succ,i64_w,i32_w]
   rfl
  refine pure_ (i:=2) (N:=some 11) (v:=?_) (a':=?_) #[true,true,true,false,false,false,false,false,false,false,false,false,false,false,false,false,false,false,false,false,false] rfl rfl (by kernel_rfl) (fun _ _ _ h => h) (Or.inl ⟨by rfl,?_⟩) ?_ ?_
  rotate_left
  ·intro w'
   go_simp
   with_reducible rfl
  rotate_left
  ·simp only [Act.put,List.setIfInBounds_toArray,List.set_cons_zero,List.set_cons_succ,i64_w,i32_w]
   rfl
  refine pure_ (i:=3) (N:=some 12) (v:=?_) (a':=?_) #[true,true,true,true,false,false,false,false,false,false,false,false,false,false,false,false,false,false,false,false,false] rfl rfl (by kernel_rfl) (fun _ _ _ h => h) (Or.inl ⟨by rfl,?_⟩) ?_ ?_
  rotate_left
  ·intro w'
   go_simp
   with_reducible rfl
  rotate_left
  ·simp only [Act.put,List.setIfInBounds_toArray,List.set_cons_zero,List.set_cons_succ,i64_w,i32_w]
   rfl
  refine pure_ (i:=5) (N:=some 14) (v:=?_) (a':=?_) #[true,true,true,true,false,true,false,false,false,false,false,false,false,false,false,false,false,false,false,false,false] rfl rfl (by kernel_rfl) (fun _ _ _ h => h) (Or.inl ⟨by rfl,?_⟩) ?_ ?_
  rotate_left
  ·intro w'
   go_simp
   with_reducible rfl
  rotate_left
  ·simp only [Act.put,List.setIfInBounds_toArray,List.set_cons_zero,List.set_cons_succ,i64_w,i32_w]
   rfl
  refine pure_ (i:=10) (N:=some 19) (v:=?_) (a':=?_) #[true,true,true,true,false,true,false,false,false,false,true,false,false,false,false,false,false,false,false,false,false] rfl rfl (by kernel_rfl) (fun _ _ _ h => h) (Or.inl ⟨by rfl,?_⟩) ?_ ?_
  rotate_left
  ·intro w'
   go_simp
   with_reducible rfl
  rotate_left
  ·simp only [Act.put,List.setIfInBounds_toArray,List.set_cons_zero,List.set_cons_succ,i64_w,i32_w]
   rfl
  refine pure_ (i:=11) (N:=some 20) (v:=?_) (a':=?_) #[true,true,true,true,false,true,false,false,false,false,true,true,false,false,false,false,false,false,false,false,false] rfl rfl (by kernel_rfl) (fun _ _ _ h => h) (Or.inl ⟨by rfl,?_⟩) ?_ ?_
  rotate_left
  ·intro w'
   go_simp
   with_reducible rfl
  rotate_left
  ·simp only [Act.put,List.setIfInBounds_toArray,List.set_cons_zero,List.set_cons_succ,i64_w,i32_w]
   rfl
  refine pure_ (i:=12) (N:=some 21) (v:=?_) (a':=?_) #[true,true,true,true,false,true,false,false,false,false,true,true,true,false,false,false,false,false,false,false,false] rfl rfl (by kernel_rfl) (fun _ _ _ h => h) (Or.inl ⟨by rfl,?_⟩) ?_ ?_
  rotate_left
  ·intro w'
   go_simp
   with_reducible rfl
  rotate_left
  ·simp only [Act.put,List.setIfInBounds_toArray,List.set_cons_zero,List.set_cons_succ,i64_w,i32_w]
   rfl
  refine pure_ (i:=14) (N:=some 23) (v:=?_) (a':=?_) #[true,true,true,true,false,true,false,false,false,false,true,true,true,false,true,false,false,false,false,false,false] rfl rfl (by kernel_rfl) (fun _ _ _ h => h) (Or.inl ⟨by rfl,?_⟩) ?_ ?_
  rotate_left
  ·intro w'
   go_simp
   with_reducible rfl
  rotate_left
  ·simp only [Act.put,List.setIfInBounds_toArray,List.set_cons_zero,List.set_cons_succ,i64_w,i32_w]
   rfl
  refine take_ (i:=4) (N:=some 13) (v:=?_) (a':=?_) #[true,true,true,true,true,true,false,false,false,false,true,true,true,false,true,false,false,false,false,false,false] rfl rfl (by kernel_rfl) (fun _ _ _ h => h) (Or.inl ⟨by rfl,?_⟩) hHeld ?_ ?_
  rotate_left
  ·rintro w' ⟨s0,s1,s2⟩
   go_simp
   with_reducible rfl
  rotate_left
  ·simp only [Act.put,List.setIfInBounds_toArray,List.set_cons_zero,List.set_cons_succ,i64_w,i32_w]
   rfl
  refine pure_ (i:=6) (N:=some 15) (v:=?_) (a':=?_) #[true,true,true,true,true,true,true,false,false,false,true,true,true,false,true,false,false,false,false,false,false] rfl rfl (by kernel_rfl) (fun _ _ _ h => h) (Or.inl ⟨by rfl,?_⟩) ?_ ?_
  rotate_left
  ·intro w'
   go_simp
   with_reducible rfl
  rotate_left
  ·simp only [Act.put,List.setIfInBounds_toArray,List.set_cons_zero,List.set_cons_succ,i64_w,i32_w]
   rfl
  refine pure_ (i:=7) (N:=some 16) (v:=?_) (a':=?_) #[true,true,true,true,true,true,true,true,false,false,true,true,true,false,true,false,false,false,false,false,false] rfl rfl (by kernel_rfl) (fun _ _ _ h => h) (Or.inl ⟨by rfl,?_⟩) ?_ ?_
  rotate_left
  ·intro w'
   go_simp
   with_reducible rfl
  rotate_left
  ·simp only [Act.put,List.setIfInBounds_toArray,List.set_cons_zero,List.set_cons_succ,i64_w,i32_w]
   rfl
  refine take_ (i:=8) (N:=some 17) (v:=?_) (a':=?_) #[true,true,true,true,true,true,true,true,true,false,true,true,true,false,true,false,false,false,false,false,false] rfl rfl (by kernel_rfl) (fun _ _ _ h => h) (Or.inl ⟨by rfl,?_⟩) hHeld ?_ ?_
  rotate_left
  ·rintro w' ⟨s0,s1,s2⟩
   go_simp
   with_reducible rfl
  rotate_left
  ·simp only [Act.put,List.setIfInBounds_toArray,List.set_cons_zero,List.set_cons_succ,i64_w,i32_w]
   rfl
  refine take_ (i:=13) (N:=some 22) (v:=?_) (a':=?_) #[true,true,true,true,true,true,true,true,true,false,true,true,true,true,true,false,false,false,false,false,false] rfl rfl (by kernel_rfl) (fun _ _ _ h => h) (Or.inl ⟨by rfl,?_⟩) hHeld ?_ ?_
  rotate_left
  ·rintro w' ⟨s0,s1,s2⟩
   go_simp
   with_reducible rfl
  rotate_left
  ·simp only [Act.put,List.setIfInBounds_toArray,List.set_cons_zero,List.set_cons_succ,i64_w,i32_w]
   rfl
  refine pure_ (i:=15) (N:=some 24) (v:=?_) (a':=?_) #[true,true,true,true,true,true,true,true,true,false,true,true,true,true,true,true,false,false,false,false,false] rfl rfl (by kernel_rfl) (fun _ _ _ h => h) (Or.inl ⟨by rfl,?_⟩) ?_ ?_
  rotate_left
  ·intro w'
   go_simp
   with_reducible rfl
  rotate_left
  ·simp only [Act.put,List.setIfInBounds_toArray,List.set_cons_zero,List.set_cons_succ,i64_w,i32_w]
   rfl
  refine pure_ (i:=16) (N:=some 25) (v:=?_) (a':=?_) #[true,true,true,true,true,true,true,true,true,false,true,true,true,true,true,true,true,false,false,false,false] rfl rfl (by kernel_rfl) (fun _ _ _ h => h) (Or.inl ⟨by rfl,?_⟩) ?_ ?_
  rotate_left
  ·intro w'
   go_simp
   with_reducible rfl
  rotate_left
  ·simp only [Act.put,List.setIfInBounds_toArray,List.set_cons_zero,List.set_cons_succ,i64_w,i32_w]
   rfl
  refine take_ (i:=17) (N:=some 26) (v:=?_) (a':=?_) #[true,true,true,true,true,true,true,true,true,false,true,true,true,true,true,true,true,true,false,false,false] rfl rfl (by kernel_rfl) (fun _ _ _ h => h) (Or.inl ⟨by rfl,?_⟩) hHeld ?_ ?_
  rotate_left
  ·rintro w' ⟨s0,s1,s2⟩
   go_simp
   with_reducible rfl
  rotate_left
  ·simp only [Act.put,List.setIfInBounds_toArray,List.set_cons_zero,List.set_cons_succ,i64_w,i32_w]
   rfl
  refine one_ (i:=9) (N:=some 18) #[true,true,true,true,true,true,true,true,true,true,true,true,true,true,true,true,true,true,false,false,false] rfl rfl (by kernel_rfl) (by decide) (fun K hK => ?_)
  refine goes_ Tryd.func10 (by kernel_rfl) rfl #[pp p,.int .i64 (rd_Ent L n).super] (by rfl) rfl rfl (by simp only [List.map_toArray,List.map_cons,List.map_nil];rfl) ?_
  refine (IH.out W.drew p (by have:=HD.out;have:=HMM.out;omega) (HG.out.below HBD.out) (HI.out.below HBD.out)).mono ?_
  rintro _ w2 ⟨v2,rfl,hR2,hB2⟩
  refine ⟨_,rfl,?_⟩
  have G2:Aside0 (Below W.heap.size W w2):=⟨HBD.out.trans hB2⟩
  have R2:Aside0 (Kd.R kTy 78 w2 W.heap.size (fun _ => True) v2 (slotsV L d (rd_Ent L n).super)):=⟨hR2⟩
  clear hR2 hB2
  have d0:=bl_cell G2.out C0.out
  have d1:=bl_cell G2.out HE.out.e2
  have d2:=bl_cell G2.out HE.out.e3
  refine hK.out _ _ ⟨d0,d1,d2⟩ (fun hHeld => ?_)
  clear hK K
  refine norm_ (a':=?_) ?_ ?_
  rotate_left
  ·show Act.put _ (some 18) _=_
   simp only [Act.put,List.setIfInBounds_toArray,List.set_cons_zero,List.set_cons_succ,i64_w,i32_w]
   rfl
  refine one_ (i:=18) (N:=some 27) #[true,true,true,true,true,true,true,true,true,true,true,true,true,true,true,true,true,true,true,false,false] rfl rfl (by kernel_rfl) (by decide) (fun K hK => ?_)
  refine goes_ Tryd.func28 (by kernel_rfl) rfl #[.slice A3 (rd_Ent L n).fields.length c3,.bool false] (by rfl) rfl rfl (by simp only [List.map_toArray,List.map_cons,List.map_nil];rfl) ?_
  refine (link_types.calls kt A3 c3 (rd_Ent L n).fields false _ w2 ⟨HG.out.below G2.out⟩ (Kd.C_below HE.out.g3 G2.out) HE.out.l3 HT.out).mono ?_
  rintro _ w3 ⟨v3,rfl,hR3,hB3⟩
  refine ⟨_,rfl,?_⟩
  have G3:Aside0 (Below W.heap.size W w3):=⟨G2.out.trans (hB3.mono G2.out.size)⟩
  have R3:=Aside0.mk (Kd.R_below R2.out hB3)
  obtain ⟨Ay,cy,rfl,hly,hCy⟩:=Kd.R_reads hR3
  have CY:=Aside0.mk hCy
  clear hR3 hB3 hly hCy
  have f0:=bl_cell G3.out C0.out
  have f1:=bl_cell G3.out HE.out.e2
  have f2:=bl_cell G3.out HE.out.e3
  refine hK.out _ _ ⟨f0,f1,f2⟩ (fun hHeld => ?_)
  clear hK K
  refine norm_ (a':=?_) ?_ ?_
  rotate_left
  ·show Act.put _ (some 27) _=_
   simp only [Act.put,List.setIfInBounds_toArray,List.set_cons_zero,List.set_cons_succ,i64_w,i32_w]
   rfl
  refine last_ (i:=19) (N:=some 28) #[true,true,true,true,true,true,true,true,true,true,true,true,true,true,true,true,true,true,true,true,false] rfl rfl (by kernel_rfl) (by decide) (fun K hK => ?_)
  refine Kd.R_append_rows_step kTy (Rr:=kTy.K w3) (w0:=W) W.heap.size (by rfl) (.tmp 18) (.tmp 27) 32 78 (.agg #[.int .i64 0,.string (⟨#[]⟩:ByteArray),.int .i64 0,.int .i64 0,.int .i64 0]) 48 (by rfl) Tryd.underlying32 infoTy5 rfl (by decide) (by decide) v2 (slotsV L d (rd_Ent L n).super) (typesV (rd_Ent L n).fields false) Ay _ cy (fun _ => True) (fun _ => False) (by rfl) (by rfl) R3.out CY.out (fun _ _ h => kTy_made h) (fun _ h => h.elim) (fun _ _ => trivial) G3.out G3.out.size (by have:=HLEN.out;omega) ?_
  intro v4 w4 hR4 hB4 _ _
  have R4:=Aside0.mk hR4
  have B4:=Aside0.mk hB4
  clear hR4 hB4
  refine hK.out _ _ ?_
  clear hK K
  refine norm_ (a':=?_) ?_ ?_
  rotate_left
  ·show Act.put _ (some 28) _=_
   simp only [Act.put,List.setIfInBounds_toArray,List.set_cons_zero,List.set_cons_succ,i64_w,i32_w]
   rfl
  refine pure_ (i:=20) (N:=some 4) (v:=?_) (a':=?_) #[true,true,true,true,true,true,true,true,true,true,true,true,true,true,true,true,true,true,true,true,true] rfl rfl (by kernel_rfl) (fun _ _ _ h => h) (Or.inl ⟨by rfl,?_⟩) ?_ ?_
  rotate_left
  ·intro w'
   go_simp
   with_reducible rfl
  rotate_left
  ·simp only [Act.put,List.setIfInBounds_toArray,List.set_cons_zero,List.set_cons_succ,i64_w,i32_w]
   rfl
  refine done_ (by kernel_rfl) ?_
  go_wp2
  go_ret
  exact ⟨_,rfl,R4.out,B4.out⟩
theorem link_Slots.calls {L:List Ent} {d:Int→Nat} (hC:Chain L d) (hD:∀ n,d n≤1048576) (hS:SmallL L) (n:Int) {w:World} {p:Nat} (hG:GG w) (hI:IsPC w p L) :
  Calls Tryd.prog 10 #[pp p,.int .i64 n] w fun e w' => ∃ v,e=.returned v∧Kd.R kTy 78 w' w.heap.size (fun _ => True) v (slotsV L d n)∧Below w.heap.size w w':=link_Slots.rec hC hD hS _ n w p (Nat.le_refl _) hG hI
end Go.Proofs.YtoonhpcjcimecaaDoor.Px
namespace Go.Proofs.YtoonhpcjcimecaaDoor.Px
open Go.RowKit Go.Proofs.YtoonhpcjcimecaaDoorW.PrintWords Go.Proofs.YtoonhpcjcimecaaDoorW.PrintLast Go.Proofs.YtoonhpcjcimecaaDoorW.PrintMore
set_option linter.unusedVariables false
set_option linter.unusedSimpArgs false
theorem R_getM {α:Type} {d:Kd α} {e:Nat} {w:World} {B:Nat} {ok:Nat→Prop} {v:Value} {xs:List α} (h:d.R e w B ok v xs) {i:Nat} {x:α} (hi:xs[i]?=some x) :
  ∃ g c cs,v=.slice (some ⟨g,0,none⟩) xs.length c∧cs.length=d.sz∧d.M w B (fun k => ok k∧some k ≠ v.ownBlock) x cs∧∀ j u,cs[j]?=some u→w.cell? ⟨g,i * d.sz + j,none⟩=some u:=by
 have hil:i < xs.length:=(List.getElem?_eq_some_iff.1 hi).1
 obtain ⟨h0,inner,ho,hr⟩:=h
 obtain ⟨hlen,ho2⟩:=ho
 rcases ho2 with ⟨rfl,h00⟩|⟨g,cap,cur,rfl,hB,hh,hn,hcap,hsz,htk⟩
 ·omega
 have hm:(i + 1) * d.sz≤xs.length * d.sz:=Nat.mul_le_mul_right _ (by omega)
 rw [Nat.add_mul,Nat.one_mul] at hm
 have hM:=hr.2 i x hi
 refine ⟨g,cap,(inner.drop (i * d.sz)).take d.sz,rfl,by rw [List.length_take,List.length_drop];omega,hM,fun j u hj => ?_⟩
 rw [blk_cell hh,← Array.getElem?_toList]
 rw [List.getElem?_take] at hj
 split at hj
 ·rename_i hjs
  rw [List.getElem?_drop,← htk,List.getElem?_take,if_pos (by omega)] at hj
  exact hj
 ·cases hj
def RowIs {α:Type} (Pd:Nat→α→List Value→Prop) (e sz:Nat) (w:World) (B:Nat) (v:Value) (xs:List α):Prop :=
 ∃ inner,w.ownsRow B e sz v xs.length inner∧∀ j x,xs[j]?=some x→Pd j x ((inner.drop (j * sz)).take sz)
section
variable {α:Type} {Pd Pd':Nat→α→List Value→Prop} {e sz:Nat} {w w':World} {B:Nat} {v:Value} {xs:List α}
theorem RowIs.of_R {d:Kd α} {ok:Nat→Prop} (h:d.R e w B ok v xs):RowIs (fun _ x cs => d.M w B (fun k => ok k∧some k ≠ v.ownBlock) x cs) e d.sz w B v xs:=by
 obtain ⟨h0,inner,ho,hr⟩:=h
 exact ⟨inner,ho,hr.2⟩
theorem RowIs.to_R {d:Kd α} {ok:Nat→Prop} (h:RowIs (fun _ x cs => d.M w B (fun k => ok k∧some k ≠ v.ownBlock) x cs) e d.sz w B v xs) (hok:∀ k,v.ownBlock=some k→ok k):d.R e w B ok v xs:=by
 obtain ⟨inner,ho,hr⟩:=h
 exact ⟨hok,inner,ho,ho.1,hr⟩
theorem RowIs.imp (h:RowIs Pd e sz w B v xs) (hp:∀ j x cs,xs[j]?=some x→Pd j x cs→Pd' j x cs):RowIs Pd' e sz w B v xs:=by
 obtain ⟨inner,ho,hr⟩:=h
 exact ⟨inner,ho,fun j x hj => hp j x _ hj (hr j x hj)⟩
theorem RowIs.move (h:RowIs Pd e sz w B v xs) (hm:∀ k,v.ownBlock=some k→w'.heap[k]?=w.heap[k]?):RowIs Pd e sz w' B v xs:=by
 obtain ⟨inner,ho,hr⟩:=h
 exact ⟨inner,own_move ho hm,hr⟩
theorem RowIs.get (h:RowIs Pd e sz w B v xs) {i:Nat} {x:α} (hi:xs[i]?=some x):∃ g c cs,v=.slice (some ⟨g,0,none⟩) xs.length c∧B≤g∧(∃ cur,w.heap[g]?=some (.cells cur e (0,0)))∧cs.length=sz∧Pd i x cs∧∀ j u,cs[j]?=some u→w.cell? ⟨g,i * sz + j,none⟩=some u:=by
 have hil:i < xs.length:=(List.getElem?_eq_some_iff.1 hi).1
 obtain ⟨inner,ho,hr⟩:=h
 obtain ⟨hlen,ho2⟩:=ho
 rcases ho2 with ⟨rfl,h00⟩|⟨g,cap,cur,rfl,hB,hh,hn,hcap,hsz,htk⟩
 ·omega
 have hm:(i + 1) * sz≤xs.length * sz:=Nat.mul_le_mul_right _ (by omega)
 rw [Nat.add_mul,Nat.one_mul] at hm
 refine ⟨g,cap,(inner.drop (i * sz)).take sz,rfl,hB,⟨cur,hh⟩,by rw [List.length_take,List.length_drop];omega,hr i x hi,fun j u hj => ?_⟩
 rw [blk_cell hh,← Array.getElem?_toList]
 rw [List.getElem?_take] at hj
 split at hj
 ·rename_i hjs
  rw [List.getElem?_drop,← htk,List.getElem?_take,if_pos (by omega)] at hj
  exact hj
 ·cases hj
theorem RowIs.set (h:RowIs Pd e sz w B v xs) {i:Nat} {x:α} (hi:xs[i]?=some x) (j:Nat) (hj:j < sz) (u:Value) {g n c:Nat} (hv:v=.slice (some ⟨g,0,none⟩) n c) :
  RowIs (fun q y cs => if q=i then ∃ cs0,Pd q y cs0∧cs=cs0.set j u else Pd q y cs) e sz (w.setCell ⟨g,i * sz + j,none⟩ u) B v xs:=by
 have hil:i < xs.length:=(List.getElem?_eq_some_iff.1 hi).1
 subst hv
 obtain ⟨inner,ho,hr⟩:=h
 have hlen:=ho.1
 have hn:n=xs.length:=by
  rcases ho.2 with ⟨h',_⟩|⟨g',cap,cur,h',_⟩
  ·cases h'
  ·injection h' with _ h2 _
 subst hn
 obtain ⟨hown1,_⟩:=ho.stored (i * sz + j) u
 refine ⟨inner.set (i * sz + j) u,hown1,fun q p hq => ?_⟩
 dsimp only
 rw [List.drop_set]
 by_cases hqi:q=i
 ·subst hqi
  rw [if_pos rfl,if_neg (by omega),List.take_set,show q * sz + j - q * sz=j by omega]
  exact ⟨_,hr q p hq,rfl⟩
 ·rw [if_neg hqi]
  have hp:=hr q p hq
  by_cases hlt:i * sz + j < q * sz
  ·rw [if_pos hlt];exact hp
  ·rw [if_neg hlt,List.take_set,List.set_eq_of_length_le ?_]
   ·exact hp
   ·have h1:q < i:=by
     rcases Nat.lt_or_ge q i with h|h
     ·exact h
     ·exfalso
      have h2:(i + 1) * sz≤q * sz:=Nat.mul_le_mul_right _ (by omega)
      rw [Nat.add_mul,Nat.one_mul] at h2
      omega
    have h3:(q + 1) * sz≤i * sz:=Nat.mul_le_mul_right _ h1
    rw [Nat.add_mul,Nat.one_mul] at h3
    rw [List.length_take]
    omega
end
def kOld {α:Type} (d:Kd α) (w0:World):Kd α where
 sz:=d.sz
 E:=[]
 K:=fun _ x cs => d.K w0 x cs
 M:=fun _ _ _ x cs => d.K w0 x cs
 K_len:=d.K_len
 K_one:=d.K_one
 K_below:=fun _ h => h
 K_of_M:=fun h => h
 M_mono:=fun _ h => h
 M_bound:=fun h => h
 M_move:=fun _ h => h
 M_lower:=fun _ h => h
end Go.Proofs.YtoonhpcjcimecaaDoor.Px
namespace Go.Proofs.YtoonhpcjcimecaaDoor.Px
open Go.RowKit Go.Maps Go.Proofs.YtoonhpcjcimecaaDoorW.PrintWords Go.Proofs.YtoonhpcjcimecaaDoorW.PrintLast Go.Proofs.YtoonhpcjcimecaaDoorW.PrintMore
set_option linter.unusedVariables false
set_option linter.unusedSimpArgs false
abbrev Pai:=S74
abbrev kPai:Kd Pai:=k74
theorem infoPai:(Tryd.prog.info? 74).map (fun i => (i.zero,i.size,i.bytes))=some (some (.agg #[.string (⟨#[]⟩:ByteArray),.string (⟨#[]⟩:ByteArray)]),2,32):=by kernel_rfl
def treeN (L:List Ent) (i:Nat):List Pai:=(List.range i).map (fun n:Nat => (⟨nameV L (n:Int),nameV L (superV L (n:Int))⟩:Pai))
theorem treeN_len (L:List Ent) (i:Nat):(treeN L i).length=i:=by simp [treeN]
theorem treeN_succ (L:List Ent) (i:Nat):treeN L (i + 1)=treeN L i++[⟨nameV L i,nameV L (superV L i)⟩]:=by simp [treeN,List.range_succ]
theorem fewerN {i n:Nat} (h:i < n) (hn:n≤1048576):((n:Int) - wrap64 ((i:Int) + 1)).toNat < ((n:Int) - (i:Int)).toNat:=by
 have e:wrap64 ((i:Int) + 1)=(i:Int) + 1:=by unfold wrap64;omega
 rw [e]
 omega
theorem wrapS {i n:Nat} (h:i < n) (hn:n≤1048576):wrap64 ((i:Int) + 1)=((i + 1:Nat):Int):=by unfold wrap64;omega
set_option maxHeartbeats 8000000 in
set_option maxRecDepth 100000 in
theorem link_Tree.calls {w:World} {p:Nat} {L:List Ent} (hI:IsPC w p L) (hn:L.length≤1048576):Calls Tryd.prog 7 #[pp p] w fun e w' => ∃ v,e=.returned v∧Kd.R kPai 74 w' w.heap.size (fun _ => True) v (treeN L L.length)∧Below w.heap.size w w':=by
 have HI:=Aside0.mk hI
 have HN:=Aside0.mk hn
 clear hI hn
 go_enter Tryd.func7,Tryd.ntmps7
 go_wp2_with fail
 refine (link_Len.calls HI.out).mono ?_
 rintro _ W ⟨rfl,rfl⟩
 go_wp2_with fail
 go_loopw [3,7] (fun v3 v7 wr => ∃ (A:Option Addr) (c i:Nat),v3=.slice A (treeN L i).length c∧v7=.int .i64 (i:Int)∧Aside0 (i≤L.length)∧Aside0 (Kd.R kPai 74 wr W.heap.size (fun _ => True) (.slice A (treeN L i).length c) (treeN L i))∧Aside0 (Below W.heap.size W wr)) (fun _ v7 _ => ((L.length:Int) - intOf v7).toNat)
 case atStart => exact ⟨none,0,0,rfl,rfl,⟨Nat.zero_le _⟩,⟨Kd.R_nil _ _ _ _ _⟩,⟨Below.refl _ _⟩⟩
 case round =>
  obtain ⟨A,c,i,rfl,rfl,HL,HR,HB⟩:=hrel
  by_cases hx:(i:Int) < (L.length:Int)
  ·have hpx:decide ((i:Int) < (L.length:Int))=true:=decide_eq_true hx
   have hpn:i < L.length:=by omega
   have HX:=Aside0.mk (show i < L.length by omega)
   clear hx
   have HI2:=Aside0.mk (HI.out.below HB.out)
   go_wp2_with fail
   refine (link_Name.calls _ HI2.out).mono ?_
   rintro _ W1 ⟨rfl,rfl⟩
   go_wp2_with fail
   refine (link_Super.calls _ HI2.out).mono ?_
   rintro _ W1 ⟨rfl,rfl⟩
   go_wp2_with fail
   refine (link_Name.calls _ HI2.out).mono ?_
   rintro _ W1 ⟨rfl,rfl⟩
   clear HI2
   go_wp2_with (at_builtin;refine Kd.R_append kPai (w0:=W) W.heap.size rfl (.tmp 10) (.tmp 20) 28 74 (.agg #[.string ⟨#[]⟩,.string ⟨#[]⟩]) 32 rfl Tryd.underlying28 infoPai rfl (by decide) (by omega) (.slice A (treeN L i).length c) (treeN L i) ⟨nameV L i,nameV L (superV L i)⟩ [.string (nameV L i),.string (nameV L (superV L i))] (fun _ => True) (fun _ => False) rfl rfl (k74_mkM _ _ _ _) (fun _ hk => hk.elim) (fun _ _ => trivial) HR.out HB.out HB.out.size ?aL ?_)
   case aL => rw [treeN_len];have:=HX.out;have:=HN.out;omega
   intro v1 w5 hR5 hB5 hg5 ho5
   obtain ⟨A5,c5,hv5⟩:=Kd.R_slice hR5
   subst hv5
   have HR5:=Aside0.mk hR5
   have HB5:=Aside0.mk hB5
   clear hR5 hB5 hg5 ho5 HR HB
   go_wp2
   go_roundw
   case measure => rw [intOf_i64,intOf_i64];exact fewerN HX.out HN.out
   case rel =>
    have e:=wrapS HX.out HN.out
    refine ⟨A5,c5,i + 1,by rw [treeN_succ],congrArg (Value.int .i64) e,⟨HX.out⟩,⟨by rw [treeN_succ];exact HR5.out⟩,HB5⟩
  ·have hpx:decide ((i:Int) < (L.length:Int))=false:=decide_eq_false hx
   have hpn:¬ i < L.length:=by omega
   have e:i=L.length:=by have:=HL.out;omega
   subst e
   clear hx
   go_wp2
   go_ret
   exact ⟨_,rfl,HR.out,HB.out⟩
end Go.Proofs.YtoonhpcjcimecaaDoor.Px
namespace Go.Proofs.YtoonhpcjcimecaaDoor.Px
open Go.RowKit Go.Maps Go.Proofs.YtoonhpcjcimecaaDoorW.PrintWords Go.Proofs.YtoonhpcjcimecaaDoorW.PrintLast Go.Proofs.YtoonhpcjcimecaaDoorW.PrintMore
set_option linter.unusedVariables false
set_option linter.unusedSimpArgs false
abbrev kCst:Kd Cst:=k108
abbrev kFld:Kd Fld:=k102
abbrev kMth:Kd Mth:=k97
abbrev kTrp:Kd Trp:=k120
theorem infoCst:(Tryd.prog.info? 108).map (fun i => (i.zero,i.size,i.bytes))=some (some (.agg #[.int .i64 0,.string (⟨#[]⟩:ByteArray),.int .i64 0,.int .i64 0,.int .i64 0]),5,48):=by kernel_rfl
theorem infoFld:(Tryd.prog.info? 102).map (fun i => (i.zero,i.size,i.bytes))=some (some (.agg #[.int .i64 0,.int .i64 0,.int .i64 0]),3,24):=by kernel_rfl
theorem infoMth:(Tryd.prog.info? 97).map (fun i => (i.zero,i.size,i.bytes))=some (some (.agg #[.int .i64 0,.int .i64 0,.int .i64 0,.int .i64 0,.int .i64 0,.slice none 0 0,.slice none 0 0,.slice none 0 0]),8,112):=by kernel_rfl
theorem infoTrp:(Tryd.prog.info? 120).map (fun i => (i.zero,i.size,i.bytes))=some (some (.agg #[.int .i64 0,.int .i64 0,.int .i64 0,.int .i64 0]),4,32):=by kernel_rfl
theorem infoU8:(Tryd.prog.info? 5).map (fun i => (i.zero,i.size,i.bytes))=some (some (.int .u8 0),1,1):=by kernel_rfl
theorem kCst_made {w W:World} {b:Nat} {ok:Nat→Prop} {x:Cst} {cs:List Value} (h:kCst.K w x cs):kCst.M W b ok x cs:=by
 obtain rfl:=k108_open h
 exact k108_mkM _ _ _ _
theorem kFld_made {w W:World} {b:Nat} {ok:Nat→Prop} {x:Fld} {cs:List Value} (h:kFld.K w x cs):kFld.M W b ok x cs:=by
 obtain rfl:=k102_open h
 exact k102_mkM _ _ _ _
theorem kTrp_made {w W:World} {b:Nat} {ok:Nat→Prop} {x:Trp} {cs:List Value} (h:kTrp.K w x cs):kTrp.M W b ok x cs:=by
 obtain rfl:=k120_open h
 exact k120_mkM _ _ _ _
structure SmallC (c:Cl):Prop where
 l0:c.f0.length≤1048576
 l3:c.f3.length≤1048576
 l4:c.f4.length≤1048576
 mm:∀ m ∈ c.f4,m.f5.length≤1048576∧m.f6.length≤1048576∧m.f7.length≤1048576
structure Kept (w wr W:World) (g:Nat):Prop where
 B:Below w.heap.size w W
 K:KeepBut wr W g none
theorem Kept.new {w wr W W':World} {g:Nat} (h:Kept w wr W g) (hb:Below W.heap.size W W'):Kept w wr W' g:=⟨h.B.trans (hb.mono h.B.size),h.K.trans (KeepBut.of_below hb _ _) (.inl rfl)⟩
theorem Kept.set {w wr W:World} {g:Nat} (h:Kept w wr W g) (hg:w.heap.size≤g) (j:Nat) (u:Value):Kept w wr (W.setCell ⟨g,j,none⟩ u) g:=⟨below_set h.B hg,h.K.set_ j u⟩
theorem Kept.blk {w wr W:World} {g k:Nat} {o:Obj} (h:Kept w wr W g) (hb:wr.heap[k]?=some o) (hk:k ≠ g):W.heap[k]?=some o:=(h.K.2 k (blk_lt hb) hk (by simp)).trans hb
structure CoSt (w W:World) (b1 b2:Nat) (c:Cl) (v0 v3 v4:Value):Prop where
 k1:W.heap[b1]?=some (.cells #[v0,.int .i64 c.f1,.int .i64 c.f2,v3,v4] 43 (0,0))
 k2:W.heap[b2]?=some (.cells #[.slice none 0 0,.int .i64 0,.int .i64 0,.slice none 0 0,.slice none 0 0] 43 (0,0))
 h1:w.heap.size≤b1
 h2:w.heap.size≤b2
 R0:kCst.R 108 W w.heap.size (fun _ => True) v0 c.f0
 R3:kFld.R 102 W w.heap.size (fun _ => True) v3 c.f3
 B:Below w.heap.size w W
theorem CoSt.kept {w wr W:World} {b1 b2 g:Nat} {c:Cl} {v0 v3 v4:Value} {cur:Array Value} (h:CoSt w wr b1 b2 c v0 v3 v4) (hk:Kept w wr W g) (hg:wr.heap[g]?=some (.cells cur 97 (0,0))):CoSt w W b1 b2 c v0 v3 v4 :=
 ⟨hk.blk h.k1 (blk_ne h.k1 hg (by decide)),hk.blk h.k2 (blk_ne h.k2 hg (by decide)),h.h1,h.h2,
  Kd.R_mono (Kd.R_keep (Kd.R_types h.R0 hg (by decide)) hk.K (fun _ x => x.2)) (fun _ x => x.1),Kd.R_mono (Kd.R_keep (Kd.R_types h.R3 hg (by decide)) hk.K (fun _ x => x.2)) (fun _ x => x.1),hk.B⟩
abbrev OkV (v:Value) (k:Nat):Prop:=True∧some k ≠ v.ownBlock
def PdM (w W:World) (v4:Value) (i:Nat) (j:Nat) (x:Mth) (cs:List Value):Prop:=if j < i then kMth.M W w.heap.size (OkV v4) x cs else kMth.K w x cs
theorem Kept.grown {w wr W W':World} {g:Nat} (h:Kept w wr W g) (hB:Below w.heap.size w W') (hg:W.grownBy W' none):Kept w wr W' g:=⟨hB,h.K.trans ⟨hg.size,fun i hi _ _ => hg.block i hi (by simp)⟩ (.inl rfl)⟩
theorem adr {ad:Addr} {g:Nat} (h:ad=⟨g,0,none⟩) (k j:Nat):(⟨(ad.add k).block,(ad.add k).off + j,none⟩:Addr)=⟨g,k + j,none⟩:=by subst h;by_cases hk:k=0 <;> simp [Addr.add,hk]
theorem adr0 {ad:Addr} {g:Nat} (h:ad=⟨g,0,none⟩) (k:Nat):ad.add k=⟨g,k + 0,none⟩:=by subst h;by_cases hk:k=0 <;> simp [Addr.add,hk]
structure CoFin (w W:World) (b2:Nat) (c:Cl) (v0 v3 v4:Value):Prop where
 k2:∃ cells,W.heap[b2]?=some (.cells cells 43 (0,0))
 R0:kCst.R 108 W w.heap.size (fun _ => True) v0 c.f0
 R3:kFld.R 102 W w.heap.size (fun _ => True) v3 c.f3
 R4:kMth.R 97 W w.heap.size (fun _ => True) v4 c.f4
 B:Below w.heap.size w W
theorem CoFin.set {w W:World} {b2:Nat} {c:Cl} {v0 v3 v4:Value} (h:CoFin w W b2 c v0 v3 v4) (h2:w.heap.size≤b2) (j:Nat) (u:Value):CoFin w (W.setCell ⟨b2,j,none⟩ u) b2 c v0 v3 v4:=by
 obtain ⟨cells,hk⟩:=h.k2
 exact ⟨⟨_,blk_set hk j u⟩,Kd.R_set h.R0 hk (by decide) j u,Kd.R_set h.R3 hk (by decide) j u,Kd.R_set h.R4 hk (by decide) j u,below_set h.B h2⟩
theorem PdM_next {w wr W:World} {g n d:Nat} {m:Mth} {i:Nat} {u5 u6 u7:Value} {ms:List Mth} (hm:ms[i]?=some m) (hk:KeepBut wr W g none)
  (r5:(Kd.int .u8).R 5 W w.heap.size (OkV (.slice (some ⟨g,0,none⟩) n d)) u5 m.f5) (r6:kTrp.R 120 W w.heap.size (OkV (.slice (some ⟨g,0,none⟩) n d)) u6 m.f6) (r7:(Kd.int .u8).R 5 W w.heap.size (OkV (.slice (some ⟨g,0,none⟩) n d)) u7 m.f7)
  (j:Nat) (x:Mth) (cs:List Value) (hj:ms[j]?=some x)
  (h:if j=i then ∃ cs2,(if j=i then ∃ cs1,(if j=i then ∃ cs0,PdM w wr (.slice (some ⟨g,0,none⟩) n d) i j x cs0∧cs1=cs0.set 5 u5 else PdM w wr (.slice (some ⟨g,0,none⟩) n d) i j x cs1)∧cs2=cs1.set 6 u6 else (if j=i then ∃ cs0,PdM w wr (.slice (some ⟨g,0,none⟩) n d) i j x cs0∧cs2=cs0.set 5 u5 else PdM w wr (.slice (some ⟨g,0,none⟩) n d) i j x cs2))∧cs=cs2.set 7 u7
   else (if j=i then ∃ cs1,(if j=i then ∃ cs0,PdM w wr (.slice (some ⟨g,0,none⟩) n d) i j x cs0∧cs1=cs0.set 5 u5 else PdM w wr (.slice (some ⟨g,0,none⟩) n d) i j x cs1)∧cs=cs1.set 6 u6 else (if j=i then ∃ cs0,PdM w wr (.slice (some ⟨g,0,none⟩) n d) i j x cs0∧cs=cs0.set 5 u5 else PdM w wr (.slice (some ⟨g,0,none⟩) n d) i j x cs))) :
  PdM w W (.slice (some ⟨g,0,none⟩) n d) (i + 1) j x cs:=by
 by_cases e:j=i
 ·subst e
  simp only [if_true] at h
  obtain ⟨cs2,⟨cs1,⟨cs0,h,rfl⟩,rfl⟩,rfl⟩:=h
  unfold PdM at h ⊢
  rw [if_neg (Nat.lt_irrefl _)] at h
  rw [if_pos (Nat.lt_succ_self _)]
  obtain rfl:m=x:=Option.some.inj (hm.symm.trans hj)
  obtain ⟨A5,c5,A6,c6,A7,c7,rfl,_⟩:=k97_open h
  exact k97_mkM _ _ _ m r5 r6 r7
 ·simp only [if_neg e] at h
  unfold PdM at h ⊢
  by_cases hlt:j < i
  ·rw [if_pos hlt] at h
   rw [if_pos (by omega)]
   exact Kd.M_keep h hk (fun k hk => fun e => hk.2 (by rw [e];rfl))
  ·rw [if_neg hlt] at h
   rw [if_neg (by omega)]
   exact h
abbrev ZC:Array Value:=#[.slice none 0 0,.int .i64 0,.int .i64 0,.slice none 0 0,.slice none 0 0]
set_option maxHeartbeats 16000000 in
set_option maxRecDepth 100000 in
theorem link_copied.calls {w:World} {c:Cl} {A0 A3 A4:Option Addr} {c0 c3 c4:Nat} (hr0:Kd.C kCst w A0 c.f0.length c.f0) (hr3:Kd.C kFld w A3 c.f3.length c.f3) (hr4:Kd.C kMth w A4 c.f4.length c.f4) (hS:SmallC c) :
  Calls Tryd.prog 22 #[.agg #[.slice A0 c.f0.length c0,.int .i64 c.f1,.int .i64 c.f2,.slice A3 c.f3.length c3,.slice A4 c.f4.length c4]] w fun e w' => ∃ cs:List Value,e=.returned (.agg cs.toArray)∧kCl.M w' w.heap.size (fun _ => True) c cs∧Below w.heap.size w w':=by
 have HR0:=Aside0.mk hr0
 have HR3:=Aside0.mk hr3
 have HR4:=Aside0.mk hr4
 have HSM:=Aside0.mk hS
 have HB:=Aside0.mk (Below.refl w.heap.size w)
 clear hr0 hr3 hr4 hS
 go_enter Tryd.func22,Tryd.ntmps22
 go_upto_region 1 with (first|((with_reducible refine gate_dst (N:=1) rfl ?_);refine box_event ?hg (N:=1) ?hd (cs:=#[.slice A0 c.f0.length c0,.int .i64 c.f1,.int .i64 c.f2,.slice A3 c.f3.length c3,.slice A4 c.f4.length c4]) (t:=43) ?hr ?_;(case hd => rfl);(case hg => rfl);(case hr => first|(go_simp;done)|(go_simp;rfl));intro b1 hg w1 hbox hb;have n0_:=Aside0.mk (below_step bl_ hb);have K1:=Aside0.mk hbox;have G1:=Aside0.mk ((by rw [hg];exact (below_size bl_):w.heap.size≤b1));clear HB;have HB:=n0_;clear n0_ hb hbox hg)|((with_reducible refine gate_dst (N:=2) rfl ?_);refine box_event ?hg (N:=2) ?hd (cs:=ZC) (t:=43) ?hr ?_;(case hd => rfl);(case hg => rfl);(case hr => first|(go_simp;done)|(go_simp;rfl));intro b2 hg w2 hbox hb;have n0_:=Aside0.mk (below_step bl_ hb);have K2:=Aside0.mk hbox;have G2:=Aside0.mk ((by rw [hg];exact (below_size bl_):w.heap.size≤b2));have n1_:=Aside0.mk ((hb.block _ (blk_lt K1.out)).trans K1.out);have N12:=Aside0.mk (show b1 ≠ b2 from Nat.ne_of_lt (by rw [hg];exact blk_lt K1.out));clear HB K1;have HB:=n0_;have K1:=n1_;clear n0_ n1_ hb hbox hg))
 have z0:=(blk_cell K1.out 0).trans rfl
 have y0:=blk_frozen K1.out 0
 have z1:=(blk_cell K1.out 1).trans rfl
 have y1:=blk_frozen K1.out 1
 have z2:=(blk_cell K1.out 2).trans rfl
 have y2:=blk_frozen K1.out 2
 have z3:=(blk_cell K1.out 3).trans rfl
 have y3:=blk_frozen K1.out 3
 have z4:=(blk_cell K1.out 4).trans rfl
 have y4:=blk_frozen K1.out 4
 go_upto_region 2 with (at_builtin;refine Kd.R_append_rows kCst (Rr:=kCst.K w2) (w0:=w) w.heap.size rfl (.const (.slice none 0 0)) (.tmp 6) 39 108 (.agg #[.int .i64 0,.string (⟨#[]⟩:ByteArray),.int .i64 0,.int .i64 0,.int .i64 0]) 48 rfl Tryd.underlying39 infoCst rfl (by decide) (by omega) (.slice none 0 0) [] c.f0 A0 _ c0 (fun _ => True) (fun _ => False) rfl rfl (Kd.R_nil _ _ _ _ _) (Kd.C_below HR0.out HB.out) (fun _ _ h => kCst_made h) (fun _ h => h.elim) (fun _ _ => trivial) HB.out HB.out.size ?aL ?_;(case aL => have:=HSM.out.l0;simp only [List.length_nil];omega);intro v0 w1a hR hB hg _;have hR':Kd.R kCst 108 w1a w.heap.size (fun _ => True) v0 c.f0:=hR;obtain ⟨B0,d0,rfl⟩:=Kd.R_slice hR';have n0_:=Aside0.mk (blk_grown K1.out hg (by simp [Value.ownBlock]));have n1_:=Aside0.mk (blk_grown K2.out hg (by simp [Value.ownBlock]));clear K1 K2 HB;have K1:=n0_;have K2:=n1_;have HB:=Aside0.mk hB;have R0:=Aside0.mk hR';clear n0_ n1_ hR hR' hB hg z0 z1 z2 z3 z4 y0 y1 y2 y3 y4;have z0:=(blk_cell K1.out 0).trans rfl;have y0:=blk_frozen K1.out 0;have z1:=(blk_cell K1.out 1).trans rfl;have y1:=blk_frozen K1.out 1;have z2:=(blk_cell K1.out 2).trans rfl;have y2:=blk_frozen K1.out 2;have z3:=(blk_cell K1.out 3).trans rfl;have y3:=blk_frozen K1.out 3;have z4:=(blk_cell K1.out 4).trans rfl;have y4:=blk_frozen K1.out 4)
 obtain ⟨W1,hW1⟩:∃ W1,W1=w1a.setCell ⟨b1,0,none⟩ (.slice B0 c.f0.length d0):=⟨_,rfl⟩
 rw [← hW1]
 have n0_:Aside0 (W1.heap[b1]?=some (.cells #[.slice B0 c.f0.length d0,.int .i64 c.f1,.int .i64 c.f2,.slice A3 c.f3.length c3,.slice A4 c.f4.length c4] 43 (0,0))):=⟨by rw [hW1];exact blk_set K1.out 0 _⟩
 have n1_:Aside0 (W1.heap[b2]?=some (.cells ZC 43 (0,0))):=⟨by rw [hW1];exact blk_far K2.out (by show b2 ≠ b1;exact fun e => N12.out e.symm) _⟩
 have n2_:Aside0 (Below w.heap.size w W1):=⟨by rw [hW1];exact below_set HB.out G1.out⟩
 have m0_:=Aside0.mk (Kd.R_set R0.out K1.out (by decide) 0 (.slice B0 c.f0.length d0))
 rw [← hW1] at m0_
 clear K1 K2 HB hW1 z0 z1 z2 z3 z4 y0 y1 y2 y3 y4 R0
 have K1:=n0_
 have K2:=n1_
 have HB:=n2_
 have R0:=m0_
 clear n0_ n1_ n2_ m0_
 have z0:=(blk_cell K1.out 0).trans rfl
 have y0:=blk_frozen K1.out 0
 have z1:=(blk_cell K1.out 1).trans rfl
 have y1:=blk_frozen K1.out 1
 have z2:=(blk_cell K1.out 2).trans rfl
 have y2:=blk_frozen K1.out 2
 have z3:=(blk_cell K1.out 3).trans rfl
 have y3:=blk_frozen K1.out 3
 have z4:=(blk_cell K1.out 4).trans rfl
 have y4:=blk_frozen K1.out 4
 go_upto_region 3 with (at_builtin;refine Kd.R_append_rows kFld (Rr:=kFld.K W1) (w0:=w) w.heap.size rfl (.const (.slice none 0 0)) (.tmp 10) 40 102 (.agg #[.int .i64 0,.int .i64 0,.int .i64 0]) 24 rfl Tryd.underlying40 infoFld rfl (by decide) (by omega) (.slice none 0 0) [] c.f3 A3 _ c3 (fun _ => True) (fun _ => False) rfl rfl (Kd.R_nil _ _ _ _ _) (Kd.C_below HR3.out HB.out) (fun _ _ h => kFld_made h) (fun _ h => h.elim) (fun _ _ => trivial) HB.out HB.out.size ?aL ?_;(case aL => have:=HSM.out.l3;simp only [List.length_nil];omega);intro v3 w2a hR hB hg _;have hR':Kd.R kFld 102 w2a w.heap.size (fun _ => True) v3 c.f3:=hR;obtain ⟨B3,d3,rfl⟩:=Kd.R_slice hR';have n_:=Aside0.mk (Kd.R_grown R0.out hg (fun _ _ => by simp [Value.ownBlock]));clear R0;have R0:=n_;clear n_;have n0_:=Aside0.mk (blk_grown K1.out hg (by simp [Value.ownBlock]));have n1_:=Aside0.mk (blk_grown K2.out hg (by simp [Value.ownBlock]));clear K1 K2 HB;have K1:=n0_;have K2:=n1_;have HB:=Aside0.mk hB;have R3:=Aside0.mk hR';clear n0_ n1_ hR hR' hB hg z0 z1 z2 z3 z4 y0 y1 y2 y3 y4;have z0:=(blk_cell K1.out 0).trans rfl;have y0:=blk_frozen K1.out 0;have z1:=(blk_cell K1.out 1).trans rfl;have y1:=blk_frozen K1.out 1;have z2:=(blk_cell K1.out 2).trans rfl;have y2:=blk_frozen K1.out 2;have z3:=(blk_cell K1.out 3).trans rfl;have y3:=blk_frozen K1.out 3;have z4:=(blk_cell K1.out 4).trans rfl;have y4:=blk_frozen K1.out 4)
 obtain ⟨W2,hW2⟩:∃ W2,W2=w2a.setCell ⟨b1,3,none⟩ (.slice B3 c.f3.length d3):=⟨_,rfl⟩
 rw [← hW2]
 have n0_:Aside0 (W2.heap[b1]?=some (.cells #[.slice B0 c.f0.length d0,.int .i64 c.f1,.int .i64 c.f2,.slice B3 c.f3.length d3,.slice A4 c.f4.length c4] 43 (0,0))):=⟨by rw [hW2];exact blk_set K1.out 3 _⟩
 have n1_:Aside0 (W2.heap[b2]?=some (.cells ZC 43 (0,0))):=⟨by rw [hW2];exact blk_far K2.out (by show b2 ≠ b1;exact fun e => N12.out e.symm) _⟩
 have n2_:Aside0 (Below w.heap.size w W2):=⟨by rw [hW2];exact below_set HB.out G1.out⟩
 have m0_:=Aside0.mk (Kd.R_set R0.out K1.out (by decide) 3 (.slice B3 c.f3.length d3))
 rw [← hW2] at m0_
 have m3_:=Aside0.mk (Kd.R_set R3.out K1.out (by decide) 3 (.slice B3 c.f3.length d3))
 rw [← hW2] at m3_
 clear K1 K2 HB hW2 z0 z1 z2 z3 z4 y0 y1 y2 y3 y4 R0 R3
 have K1:=n0_
 have K2:=n1_
 have HB:=n2_
 have R0:=m0_
 have R3:=m3_
 clear n0_ n1_ n2_ m0_ m3_
 have z0:=(blk_cell K1.out 0).trans rfl
 have y0:=blk_frozen K1.out 0
 have z1:=(blk_cell K1.out 1).trans rfl
 have y1:=blk_frozen K1.out 1
 have z2:=(blk_cell K1.out 2).trans rfl
 have y2:=blk_frozen K1.out 2
 have z3:=(blk_cell K1.out 3).trans rfl
 have y3:=blk_frozen K1.out 3
 have z4:=(blk_cell K1.out 4).trans rfl
 have y4:=blk_frozen K1.out 4
 go_upto_region 4 with (at_builtin;refine Kd.R_append_rows (kOld kMth w) (Rr:=kMth.K w) (w0:=w) w.heap.size rfl (.const (.slice none 0 0)) (.tmp 14) 41 97 (.agg #[.int .i64 0,.int .i64 0,.int .i64 0,.int .i64 0,.int .i64 0,.slice none 0 0,.slice none 0 0,.slice none 0 0]) 112 rfl Tryd.underlying41 infoMth rfl (by show 0 < 8;decide) (by omega) (.slice none 0 0) [] c.f4 A4 _ c4 (fun _ => True) (fun _ => False) rfl rfl (Kd.R_nil _ _ _ _ _) (ReadsRow.imp_ HR4.out HB.out (fun _ _ hp => hp)) (fun _ _ h => h) (fun _ h => h.elim) (fun _ _ => trivial) HB.out HB.out.size ?aL ?_;(case aL => have:=HSM.out.l4;simp only [List.length_nil];omega);intro v4 w3a hR hB hg _;have hR':Kd.R (kOld kMth w) 97 w3a w.heap.size (fun _ => True) v4 c.f4:=hR;obtain ⟨B4,d4,rfl⟩:=Kd.R_slice hR';have n_:=Aside0.mk (Kd.R_grown R0.out hg (fun _ _ => by simp [Value.ownBlock]));clear R0;have R0:=n_;clear n_;have n_:=Aside0.mk (Kd.R_grown R3.out hg (fun _ _ => by simp [Value.ownBlock]));clear R3;have R3:=n_;clear n_;have n0_:=Aside0.mk (blk_grown K1.out hg (by simp [Value.ownBlock]));have n1_:=Aside0.mk (blk_grown K2.out hg (by simp [Value.ownBlock]));clear K1 K2 HB;have K1:=n0_;have K2:=n1_;have HB:=Aside0.mk hB;have R4:=Aside0.mk hR';clear n0_ n1_ hR hR' hB hg z0 z1 z2 z3 z4 y0 y1 y2 y3 y4;have z0:=(blk_cell K1.out 0).trans rfl;have y0:=blk_frozen K1.out 0;have z1:=(blk_cell K1.out 1).trans rfl;have y1:=blk_frozen K1.out 1;have z2:=(blk_cell K1.out 2).trans rfl;have y2:=blk_frozen K1.out 2;have z3:=(blk_cell K1.out 3).trans rfl;have y3:=blk_frozen K1.out 3;have z4:=(blk_cell K1.out 4).trans rfl;have y4:=blk_frozen K1.out 4)
 obtain ⟨W3,hW3⟩:∃ W3,W3=w3a.setCell ⟨b1,4,none⟩ (.slice B4 c.f4.length d4):=⟨_,rfl⟩
 rw [← hW3]
 have n0_:Aside0 (W3.heap[b1]?=some (.cells #[.slice B0 c.f0.length d0,.int .i64 c.f1,.int .i64 c.f2,.slice B3 c.f3.length d3,.slice B4 c.f4.length d4] 43 (0,0))):=⟨by rw [hW3];exact blk_set K1.out 4 _⟩
 have n1_:Aside0 (W3.heap[b2]?=some (.cells ZC 43 (0,0))):=⟨by rw [hW3];exact blk_far K2.out (by show b2 ≠ b1;exact fun e => N12.out e.symm) _⟩
 have n2_:Aside0 (Below w.heap.size w W3):=⟨by rw [hW3];exact below_set HB.out G1.out⟩
 have m0_:=Aside0.mk (Kd.R_set R0.out K1.out (by decide) 4 (.slice B4 c.f4.length d4))
 rw [← hW3] at m0_
 have m3_:=Aside0.mk (Kd.R_set R3.out K1.out (by decide) 4 (.slice B4 c.f4.length d4))
 rw [← hW3] at m3_
 have m4_:=Aside0.mk (Kd.R_set R4.out K1.out (by show ∀ q,q ∈ [97]→q ≠ 43;decide) 4 (.slice B4 c.f4.length d4))
 rw [← hW3] at m4_
 clear K1 K2 HB hW3 z0 z1 z2 z3 z4 y0 y1 y2 y3 y4 R0 R3 R4
 have K1:=n0_
 have K2:=n1_
 have HB:=n2_
 have R0:=m0_
 have R3:=m3_
 have R4:=m4_
 clear n0_ n1_ n2_ m0_ m3_ m4_
 have HS:Aside0 (CoSt w W3 b1 b2 c (.slice B0 c.f0.length d0) (.slice B3 c.f3.length d3) (.slice B4 c.f4.length d4)):=⟨K1.out,K2.out,G1.out,G2.out,R0.out,R3.out,HB.out⟩
 have HRW:Aside0 (RowIs (PdM w W3 (.slice B4 c.f4.length d4) 0) 97 8 W3 w.heap.size (.slice B4 c.f4.length d4) c.f4):=⟨(RowIs.of_R R4.out).imp (fun j x cs _ h => by unfold PdM;rw [if_neg (Nat.not_lt_zero j)];exact h)⟩
 have z4:=(blk_cell K1.out 4).trans rfl
 clear K1 K2 R0 R3 R4 HB HR0 HR3 G1
 go_wp2_with fail
 clear z4
 go_loopw [20] (fun v20 wr => ∃ i:Nat,v20=.int .i64 (i:Int)∧Aside0 (i≤c.f4.length)∧Aside0 (CoSt w wr b1 b2 c (.slice B0 c.f0.length d0) (.slice B3 c.f3.length d3) (.slice B4 c.f4.length d4))∧Aside0 (RowIs (PdM w wr (.slice B4 c.f4.length d4) i) 97 8 wr w.heap.size (.slice B4 c.f4.length d4) c.f4)) (fun v20 _ => ((c.f4.length:Int) - intOf v20).toNat)
 case atStart => exact ⟨0,rfl,⟨Nat.zero_le _⟩,HS,HRW⟩
 case round =>
  clear HS HRW
  obtain ⟨i,rfl,HI,HS,HRW⟩:=hrel
  by_cases hx:(i:Int) < (c.f4.length:Int)
  case neg =>
   have hpx:decide ((i:Int) < (c.f4.length:Int))=false:=decide_eq_false hx
   have hpn:¬ i < c.f4.length:=by omega
   have e:i=c.f4.length:=by have:=HI.out;omega
   have HF:Aside0 (CoFin w wr b2 c (.slice B0 c.f0.length d0) (.slice B3 c.f3.length d3) (.slice B4 c.f4.length d4)):=⟨⟨_,HS.out.k2⟩,HS.out.R0,HS.out.R3,RowIs.to_R (HRW.out.imp (fun j x cs hj h => by
    unfold PdM at h
    rw [if_pos (by rw [e];exact (List.getElem?_eq_some_iff.1 hj).1)] at h
    exact h)) (fun _ _ => trivial),HS.out.B⟩
   have K2:=Aside0.mk HS.out.k2
   obtain ⟨z0,z1,z2,z3,z4,_,_,_,_,_⟩:=blk5_ HS.out.k1
   obtain ⟨x0,x1,x2,x3,x4,y0,y1,y2,y3,y4⟩:=blk5_ HS.out.k2
   clear hx e HRW HS
   go_wp2
   refine bodyPost_ret (results_cell_row rfl _ _ b2 43 _ (0,0) _ rfl (st5_ K2.out) Tryd.underlying43 rfl (by kernel_rfl)) rfl ?_
   have hF:=((((HF.out.set G2.out 0 (.slice B0 c.f0.length d0)).set G2.out 1 (.int .i64 c.f1)).set G2.out 2 (.int .i64 c.f2)).set G2.out 3 (.slice B3 c.f3.length d3)).set G2.out 4 (.slice B4 c.f4.length d4)
   exact ⟨_,rfl,k43_mkM _ _ _ c hF.R0 hF.R3 hF.R4,hF.B⟩
  have hpx:decide ((i:Int) < (c.f4.length:Int))=true:=decide_eq_true hx
  have hpn:i < c.f4.length:=by omega
  have HX:=Aside0.mk hpn
  obtain ⟨m,hm⟩:∃ m,c.f4[i]?=some m:=⟨c.f4[i],List.getElem?_eq_getElem hpn⟩
  have HM:=Aside0.mk hm
  have HMM:=Aside0.mk (HSM.out.mm m (List.mem_of_getElem? hm))
  obtain ⟨g,cc,cs,hv,hBg,⟨cur,hcur⟩,hcl,hPd,hcs⟩:=HRW.out.get hm
  injection hv with hB4 _ hcc
  subst hcc
  obtain ⟨ad,had⟩:∃ ad:Addr,ad=⟨g,0,none⟩:=⟨_,rfl⟩
  rw [← had] at hB4
  subst hB4
  have HAD:=Aside0.mk had
  have HBG:=Aside0.mk hBg
  have HCUR:=Aside0.mk hcur
  unfold PdM at hPd
  rw [if_neg (Nat.lt_irrefl _)] at hPd
  obtain ⟨A5,c5,A6,c6,A7,c7,rfl,l5,g5,l6,g6,l7,g7⟩:=k97_open hPd
  have X5:=Aside0.mk g5
  have X6:=Aside0.mk g6
  have X7:=Aside0.mk g7
  have x0:wr.cell? (ad.add (i * 8))=some (.int .i64 m.f0):=by rw [adr0 had];exact hcs 0 _ rfl
  have x1:wr.cell? ⟨(ad.add (i * 8)).block,(ad.add (i * 8)).off + 1,none⟩=some (.int .i64 m.f1):=by rw [adr had];exact hcs 1 _ rfl
  have x2:wr.cell? ⟨(ad.add (i * 8)).block,(ad.add (i * 8)).off + 2,none⟩=some (.int .i64 m.f2):=by rw [adr had];exact hcs 2 _ rfl
  have x3:wr.cell? ⟨(ad.add (i * 8)).block,(ad.add (i * 8)).off + 3,none⟩=some (.int .i64 m.f3):=by rw [adr had];exact hcs 3 _ rfl
  have x4:wr.cell? ⟨(ad.add (i * 8)).block,(ad.add (i * 8)).off + 4,none⟩=some (.int .i64 m.f4):=by rw [adr had];exact hcs 4 _ rfl
  have x5:wr.cell? ⟨(ad.add (i * 8)).block,(ad.add (i * 8)).off + 5,none⟩=some (.slice A5 m.f5.length c5):=by rw [adr had];exact hcs 5 _ rfl
  have x6:wr.cell? ⟨(ad.add (i * 8)).block,(ad.add (i * 8)).off + 6,none⟩=some (.slice A6 m.f6.length c6):=by rw [adr had];exact hcs 6 _ rfl
  have x7:wr.cell? ⟨(ad.add (i * 8)).block,(ad.add (i * 8)).off + 7,none⟩=some (.slice A7 m.f7.length c7):=by rw [adr had];exact hcs 7 _ rfl
  have p1:(0≤(i:Int))=True:=eq_true (by omega)
  replace hx:=eq_true hx
  clear hm hBg hcur hcl hPd hcs had l5 g5 l6 g6 l7 g7
  go_upto_region 7 with ((with_reducible refine gate_dst (N:=4) rfl ?_);refine box_event ?hg (N:=4) ?hd (cs:=#[.int .i64 0,.int .i64 0,.int .i64 0,.int .i64 0,.int .i64 0,.slice none 0 0,.slice none 0 0,.slice none 0 0]) (t:=97) ?hr ?_;(case hd => rfl);(case hg => rfl);(case hr => first|(go_simp;done)|(go_simp;rfl));intro b4 hg w6 hbox hb;have BK:=Aside0.mk hbox;have BL:=Aside0.mk hb;have G4:=Aside0.mk (show wr.heap.size≤b4 by rw [hg];exact Nat.le_refl _);clear hb hbox hg;obtain ⟨z0,z1,z2,z3,z4,z5,z6,z7,y0,y1,y2,y3,y4,y5,y6,y7⟩:=blk8_ BK.out)
  obtain ⟨W6,hW6⟩:∃ W6,W6=((((((((w6.setCell ⟨b4,0,none⟩ (.int .i64 m.f0)).setCell ⟨b4,1,none⟩ (.int .i64 m.f1)).setCell ⟨b4,2,none⟩ (.int .i64 m.f2)).setCell ⟨b4,3,none⟩ (.int .i64 m.f3)).setCell ⟨b4,4,none⟩ (.int .i64 m.f4)).setCell ⟨b4,5,none⟩ (.slice A5 m.f5.length c5)).setCell ⟨b4,6,none⟩ (.slice A6 m.f6.length c6)).setCell ⟨b4,7,none⟩ (.slice A7 m.f7.length c7)):=⟨_,rfl⟩
  rw [← hW6]
  have K4:Aside0 (W6.heap[b4]?=some (.cells #[.int .i64 m.f0,.int .i64 m.f1,.int .i64 m.f2,.int .i64 m.f3,.int .i64 m.f4,.slice A5 m.f5.length c5,.slice A6 m.f6.length c6,.slice A7 m.f7.length c7] 97 (0,0))):=⟨by rw [hW6];exact st8_ BK.out⟩
  have HK:Aside0 (Kept w wr W6 g):=⟨(⟨HS.out.B,KeepBut.refl _ _ _⟩:Kept w wr wr g).new (by rw [hW6];exact (below_set (below_set (below_set (below_set (below_set (below_set (below_set (below_set BL.out G4.out) G4.out) G4.out) G4.out) G4.out) G4.out) G4.out) G4.out))⟩
  have NG:Aside0 (b4 ≠ g):=⟨by have h1:=G4.out;have h2:=blk_lt HCUR.out;omega⟩
  have RW:=Aside0.mk (HRW.out.move (w':=W6) (fun k hk => by
   have e:k=g:=by have e:=HAD.out;rw [e] at hk;injection hk with hk;exact hk.symm
   rw [e]
   exact Below.block (by rw [hW6];exact (below_set (below_set (below_set (below_set (below_set (below_set (below_set (below_set BL.out G4.out) G4.out) G4.out) G4.out) G4.out) G4.out) G4.out) G4.out):Below wr.heap.size wr W6) g (blk_lt HCUR.out)))
  have CU:Aside0 (W6.heap[g]?=some (.cells cur 97 (0,0))):=⟨(Below.block (by rw [hW6];exact (below_set (below_set (below_set (below_set (below_set (below_set (below_set (below_set BL.out G4.out) G4.out) G4.out) G4.out) G4.out) G4.out) G4.out) G4.out):Below wr.heap.size wr W6) g (blk_lt HCUR.out)).trans HCUR.out⟩
  clear hW6 BK BL HRW x0 x1 x2 x3 x4 x5 x6 x7 z0 z1 z2 z3 z4 z5 z6 z7 y0 y1 y2 y3 y4 y5 y6 y7
  have HD:Aside0 (Kept w wr W6.drew g):=⟨HK.out.new (below_drew (Below.refl _ _))⟩
  have q0:W6.drew.cell? ⟨b1,4,none⟩=some (.slice (some ad) c.f4.length d4):=(blk_cell (HD.out.blk HS.out.k1 (blk_ne HS.out.k1 HCUR.out (by decide))) 4).trans rfl
  have q1:W6.drew.cell? ⟨b4,5,none⟩=some (.slice A5 m.f5.length c5):=(blk_cell (show W6.drew.heap[b4]?=_ from K4.out) 5).trans rfl
  refine start_ (n:=9) (S:=fun w' => w'.cell? ⟨b1,4,none⟩=some (.slice (some ad) c.f4.length d4)∧w'.cell? ⟨b4,5,none⟩=some (.slice A5 m.f5.length c5)) (ds:=[8]) #[false,false,false,false,false,false,false,false,false] (by kernel_rfl) rfl rfl ⟨q0,q1⟩ (fun hHeld => ?_)
  refine pure_ (i:=0) (N:=some 25) (v:=?_) (a':=?_) #[true,false,false,false,false,false,false,false,false] rfl rfl (by kernel_rfl) (fun _ _ _ h => h) (Or.inl ⟨by rfl,?_⟩) ?_ ?_
  rotate_left
  ·intro w'
   go_simp
   with_reducible rfl
  rotate_left
  ·simp only [Act.put,List.setIfInBounds_toArray,List.set_cons_zero,List.set_cons_succ,i64_w,i32_w]
   rfl
  refine pure_ (i:=2) (N:=some 27) (v:=?_) (a':=?_) #[true,false,true,false,false,false,false,false,false] rfl rfl (by kernel_rfl) (fun _ _ _ h => h) (Or.inl ⟨by rfl,?_⟩) ?_ ?_
  rotate_left
  ·intro w'
   go_simp
   with_reducible rfl
  rotate_left
  ·simp only [Act.put,List.setIfInBounds_toArray,List.set_cons_zero,List.set_cons_succ,i64_w,i32_w]
   rfl
  refine pure_ (i:=3) (N:=some 28) (v:=?_) (a':=?_) #[true,false,true,true,false,false,false,false,false] rfl rfl (by kernel_rfl) (fun _ _ _ h => h) (Or.inl ⟨by rfl,?_⟩) ?_ ?_
  rotate_left
  ·intro w'
   go_simp
   with_reducible rfl
  rotate_left
  ·simp only [Act.put,List.setIfInBounds_toArray,List.set_cons_zero,List.set_cons_succ,i64_w,i32_w]
   rfl
  refine take_ (i:=1) (N:=some 26) (v:=?_) (a':=?_) #[true,true,true,true,false,false,false,false,false] rfl rfl (by kernel_rfl) (fun _ _ _ h => h) (Or.inl ⟨by rfl,?_⟩) hHeld ?_ ?_
  rotate_left
  ·rintro w' ⟨s0,s1⟩
   go_simp
   with_reducible rfl
  rotate_left
  ·simp only [Act.put,List.setIfInBounds_toArray,List.set_cons_zero,List.set_cons_succ,i64_w,i32_w]
   rfl
  refine take_ (i:=4) (N:=some 29) (v:=?_) (a':=?_) #[true,true,true,true,true,false,false,false,false] rfl rfl (by kernel_rfl) (fun _ _ _ h => h) (Or.inl ⟨by rfl,?_⟩) hHeld ?_ ?_
  rotate_left
  ·rintro w' ⟨s0,s1⟩
   go_simp
   with_reducible rfl
  rotate_left
  ·simp only [Act.put,List.setIfInBounds_toArray,List.set_cons_zero,List.set_cons_succ,i64_w,i32_w]
   rfl
  refine one_ (i:=5) (N:=some 30) #[true,true,true,true,true,true,false,false,false] rfl rfl (by kernel_rfl) (by decide) (fun K hK => ?_)
  refine Kd.R_append_rows_step (Kd.int .u8) (Rr:=(Kd.int .u8).K W6.drew) (w0:=w) w.heap.size (by rfl) (.const (.slice none 0 0)) (.tmp 29) 94 5 (.int .u8 0) 1 (by rfl) Tryd.underlying94 infoU8 rfl (by decide) (by decide) (.slice none 0 0) [] m.f5 A5 _ c5 (OkV (.slice (some ad) c.f4.length d4)) (fun _ => False) (by rfl) (by rfl) (Kd.R_nil _ _ _ _ _) (Kd.C_below X5.out HD.out.B) (fun _ _ h => h) (fun _ h => h.elim) (fun k hk => ⟨trivial,fun e => by have h1:=HD.out.K.1;have h2:=blk_lt HCUR.out;have e2:k=ad.block:=(by injection e);have e3:ad.block=g:=(by rw [HAD.out]);omega⟩) HD.out.B HD.out.B.size (by have:=HMM.out;simp only [List.length_nil];omega) ?_
  intro v5 w5a hR hB hg _
  have hR':Kd.R (Kd.int .u8) 5 w5a w.heap.size (OkV (.slice (some ad) c.f4.length d4)) v5 m.f5:=hR
  obtain ⟨Y5,y5,rfl⟩:=Kd.R_slice hR'
  have HG:Aside0 (Kept w wr w5a g):=⟨HD.out.grown hB hg⟩
  have K4a:=Aside0.mk (blk_grown (show W6.drew.heap[b4]?=_ from K4.out) hg (by simp [Value.ownBlock]))
  have CUa:=Aside0.mk (blk_grown (show W6.drew.heap[g]?=_ from CU.out) hg (by simp [Value.ownBlock]))
  have RWa:=Aside0.mk (RW.out.move (w':=w5a) (fun k hk => by have e:k=g:=(by have e:=HAD.out;rw [e] at hk;injection hk with hk;exact hk.symm);rw [e];exact hg.block g (blk_lt CU.out) (by simp [Value.ownBlock])))
  have R5:=Aside0.mk hR'
  clear hR hR' hB hg
  have e0:w5a.cell? ⟨b1,4,none⟩=some (.slice (some ad) c.f4.length d4):=(blk_cell (HG.out.blk HS.out.k1 (blk_ne HS.out.k1 HCUR.out (by decide))) 4).trans rfl
  have e1:w5a.cell? ⟨b4,5,none⟩=some (.slice A5 m.f5.length c5):=(blk_cell K4a.out 5).trans rfl
  obtain ⟨o5,t0⟩:∃ o,w5a.cell? ⟨(ad.add (i * 8)).block,(ad.add (i * 8)).off + 5,none⟩=some o:=by (obtain ⟨g2,c2,cs2,hv2,_,_,hl2,_,hc2⟩:=RWa.out.get HM.out;rw [adr HAD.out];have hv3:g2=g:=(by have h:=HAD.out;injection hv2 with h1 _ _;injection h1 with h1;rw [h] at h1;injection h1 with h1;exact h1.symm);subst hv3;exact ⟨cs2[5]'(by rw [hl2];decide),hc2 5 _ (List.getElem?_eq_getElem (by rw [hl2];decide))⟩)
  have t1:w5a.frozen? ⟨(ad.add (i * 8)).block,(ad.add (i * 8)).off + 5,none⟩=false:=by (rw [adr HAD.out];exact blk_frozen CUa.out _)
  refine hK.out _ _ ⟨e0,e1⟩ (fun hHeld => ?_)
  clear hK K
  refine norm_ (a':=?_) ?_ ?_
  rotate_left
  ·show Act.put _ (some 30) _=_
   simp only [Act.put,List.setIfInBounds_toArray,List.set_cons_zero,List.set_cons_succ,i64_w,i32_w]
   rfl
  refine pure_ (i:=6) (N:=some 31) (v:=?_) (a':=?_) #[true,true,true,true,true,true,true,false,false] rfl rfl (by kernel_rfl) (fun _ _ _ h => h) (Or.inl ⟨by rfl,?_⟩) ?_ ?_
  rotate_left
  ·intro w'
   go_simp
   with_reducible rfl
  rotate_left
  ·simp only [Act.put,List.setIfInBounds_toArray,List.set_cons_zero,List.set_cons_succ,i64_w,i32_w]
   rfl
  refine pure_ (i:=7) (N:=some 32) (v:=?_) (a':=?_) #[true,true,true,true,true,true,true,true,false] rfl rfl (by kernel_rfl) (fun _ _ _ h => h) (Or.inl ⟨by rfl,?_⟩) ?_ ?_
  rotate_left
  ·intro w'
   go_simp
   with_reducible rfl
  rotate_left
  ·simp only [Act.put,List.setIfInBounds_toArray,List.set_cons_zero,List.set_cons_succ,i64_w,i32_w]
   rfl
  refine last_ (i:=8) (N:=none) #[true,true,true,true,true,true,true,true,true] rfl rfl (by kernel_rfl) (by decide) (fun K hK => ?_)
  refine skip_ (w1:=?_) (by rfl) rfl ?_ ?_
  rotate_left
  ·go_simp
   rfl
  refine hK.out _ _ ?_
  clear hK K
  refine done_ (by kernel_rfl) ?_
  obtain ⟨W7,hW⟩:∃ W7,W7=w5a.setCell ⟨(ad.add (i * 8)).block,(ad.add (i * 8)).off + 5,none⟩ (.slice Y5 m.f5.length y5):=⟨_,rfl⟩
  rw [← hW]
  rw [adr HAD.out] at hW
  have n0_:Aside0 (Kept w wr W7 g):=⟨by rw [hW];exact HG.out.set HBG.out _ _⟩
  have n1_:Aside0 (W7.heap[b4]?=some (.cells #[.int .i64 m.f0,.int .i64 m.f1,.int .i64 m.f2,.int .i64 m.f3,.int .i64 m.f4,.slice A5 m.f5.length c5,.slice A6 m.f6.length c6,.slice A7 m.f7.length c7] 97 (0,0))):=⟨by rw [hW];exact blk_far K4a.out NG.out _⟩
  have n2_:Aside0 (∃ cur,W7.heap[g]?=some (.cells cur 97 (0,0))):=⟨⟨_,by rw [hW];exact blk_set CUa.out _ _⟩⟩
  have n3_:=Aside0.mk (RWa.out.set HM.out 5 (by decide) (.slice Y5 m.f5.length y5) (by rw [HAD.out]))
  rw [← hW] at n3_
  have m5_:=Aside0.mk (Kd.R_far (p:=⟨g,i * 8 + 5,none⟩) R5.out (fun k hk => by (show k ≠ g;intro e;exact hk.2 (by rw [e,HAD.out];rfl))) (.slice Y5 m.f5.length y5))
  rw [← hW] at m5_
  clear hHeld q0 q1 e0 e1 t0 t1 hW HK HD HG K4 K4a CU CUa RW RWa R5
  have HK:=n0_
  have K4:=n1_
  obtain ⟨cur,hcu⟩:=n2_.out
  have CU:=Aside0.mk hcu
  have RW:=n3_
  have R5:=m5_
  clear n0_ n1_ n2_ n3_ hcu m5_
  go_upto_region 8 with fail
  have HD:Aside0 (Kept w wr W7.drew g):=⟨HK.out.new (below_drew (Below.refl _ _))⟩
  have q0:W7.drew.cell? ⟨b1,4,none⟩=some (.slice (some ad) c.f4.length d4):=(blk_cell (HD.out.blk HS.out.k1 (blk_ne HS.out.k1 HCUR.out (by decide))) 4).trans rfl
  have q1:W7.drew.cell? ⟨b4,6,none⟩=some (.slice A6 m.f6.length c6):=(blk_cell (show W7.drew.heap[b4]?=_ from K4.out) 6).trans rfl
  refine start_ (n:=9) (S:=fun w' => w'.cell? ⟨b1,4,none⟩=some (.slice (some ad) c.f4.length d4)∧w'.cell? ⟨b4,6,none⟩=some (.slice A6 m.f6.length c6)) (ds:=[8]) #[false,false,false,false,false,false,false,false,false] (by kernel_rfl) rfl rfl ⟨q0,q1⟩ (fun hHeld => ?_)
  refine pure_ (i:=0) (N:=some 33) (v:=?_) (a':=?_) #[true,false,false,false,false,false,false,false,false] rfl rfl (by kernel_rfl) (fun _ _ _ h => h) (Or.inl ⟨by rfl,?_⟩) ?_ ?_
  rotate_left
  ·intro w'
   go_simp
   with_reducible rfl
  rotate_left
  ·simp only [Act.put,List.setIfInBounds_toArray,List.set_cons_zero,List.set_cons_succ,i64_w,i32_w]
   rfl
  refine pure_ (i:=2) (N:=some 35) (v:=?_) (a':=?_) #[true,false,true,false,false,false,false,false,false] rfl rfl (by kernel_rfl) (fun _ _ _ h => h) (Or.inl ⟨by rfl,?_⟩) ?_ ?_
  rotate_left
  ·intro w'
   go_simp
   with_reducible rfl
  rotate_left
  ·simp only [Act.put,List.setIfInBounds_toArray,List.set_cons_zero,List.set_cons_succ,i64_w,i32_w]
   rfl
  refine pure_ (i:=3) (N:=some 36) (v:=?_) (a':=?_) #[true,false,true,true,false,false,false,false,false] rfl rfl (by kernel_rfl) (fun _ _ _ h => h) (Or.inl ⟨by rfl,?_⟩) ?_ ?_
  rotate_left
  ·intro w'
   go_simp
   with_reducible rfl
  rotate_left
  ·simp only [Act.put,List.setIfInBounds_toArray,List.set_cons_zero,List.set_cons_succ,i64_w,i32_w]
   rfl
  refine take_ (i:=1) (N:=some 34) (v:=?_) (a':=?_) #[true,true,true,true,false,false,false,false,false] rfl rfl (by kernel_rfl) (fun _ _ _ h => h) (Or.inl ⟨by rfl,?_⟩) hHeld ?_ ?_
  rotate_left
  ·rintro w' ⟨s0,s1⟩
   go_simp
   with_reducible rfl
  rotate_left
  ·simp only [Act.put,List.setIfInBounds_toArray,List.set_cons_zero,List.set_cons_succ,i64_w,i32_w]
   rfl
  refine take_ (i:=4) (N:=some 37) (v:=?_) (a':=?_) #[true,true,true,true,true,false,false,false,false] rfl rfl (by kernel_rfl) (fun _ _ _ h => h) (Or.inl ⟨by rfl,?_⟩) hHeld ?_ ?_
  rotate_left
  ·rintro w' ⟨s0,s1⟩
   go_simp
   with_reducible rfl
  rotate_left
  ·simp only [Act.put,List.setIfInBounds_toArray,List.set_cons_zero,List.set_cons_succ,i64_w,i32_w]
   rfl
  refine one_ (i:=5) (N:=some 38) #[true,true,true,true,true,true,false,false,false] rfl rfl (by kernel_rfl) (by decide) (fun K hK => ?_)
  refine Kd.R_append_rows_step kTrp (Rr:=kTrp.K W7.drew) (w0:=w) w.heap.size (by rfl) (.const (.slice none 0 0)) (.tmp 37) 95 120 (.agg #[.int .i64 0,.int .i64 0,.int .i64 0,.int .i64 0]) 32 (by rfl) Tryd.underlying95 infoTrp rfl (by decide) (by decide) (.slice none 0 0) [] m.f6 A6 _ c6 (OkV (.slice (some ad) c.f4.length d4)) (fun _ => False) (by rfl) (by rfl) (Kd.R_nil _ _ _ _ _) (Kd.C_below X6.out HD.out.B) (fun _ _ h => kTrp_made h) (fun _ h => h.elim) (fun k hk => ⟨trivial,fun e => by have h1:=HD.out.K.1;have h2:=blk_lt HCUR.out;have e2:k=ad.block:=(by injection e);have e3:ad.block=g:=(by rw [HAD.out]);omega⟩) HD.out.B HD.out.B.size (by have:=HMM.out;simp only [List.length_nil];omega) ?_
  intro v6 w6a hR hB hg _
  have hR':Kd.R kTrp 120 w6a w.heap.size (OkV (.slice (some ad) c.f4.length d4)) v6 m.f6:=hR
  obtain ⟨Y6,y6,rfl⟩:=Kd.R_slice hR'
  have HG:Aside0 (Kept w wr w6a g):=⟨HD.out.grown hB hg⟩
  have K4a:=Aside0.mk (blk_grown (show W7.drew.heap[b4]?=_ from K4.out) hg (by simp [Value.ownBlock]))
  have CUa:=Aside0.mk (blk_grown (show W7.drew.heap[g]?=_ from CU.out) hg (by simp [Value.ownBlock]))
  have RWa:=Aside0.mk (RW.out.move (w':=w6a) (fun k hk => by have e:k=g:=(by have e:=HAD.out;rw [e] at hk;injection hk with hk;exact hk.symm);rw [e];exact hg.block g (blk_lt CU.out) (by simp [Value.ownBlock])))
  have R6:=Aside0.mk hR'
  have n_:=Aside0.mk (Kd.R_grown (show Kd.R _ _ W7.drew _ _ _ _ from R5.out) hg (fun _ _ => by simp [Value.ownBlock]));clear R5;have R5:=n_;clear n_
  clear hR hR' hB hg
  have e0:w6a.cell? ⟨b1,4,none⟩=some (.slice (some ad) c.f4.length d4):=(blk_cell (HG.out.blk HS.out.k1 (blk_ne HS.out.k1 HCUR.out (by decide))) 4).trans rfl
  have e1:w6a.cell? ⟨b4,6,none⟩=some (.slice A6 m.f6.length c6):=(blk_cell K4a.out 6).trans rfl
  obtain ⟨o6,t0⟩:∃ o,w6a.cell? ⟨(ad.add (i * 8)).block,(ad.add (i * 8)).off + 6,none⟩=some o:=by (obtain ⟨g2,c2,cs2,hv2,_,_,hl2,_,hc2⟩:=RWa.out.get HM.out;rw [adr HAD.out];have hv3:g2=g:=(by have h:=HAD.out;injection hv2 with h1 _ _;injection h1 with h1;rw [h] at h1;injection h1 with h1;exact h1.symm);subst hv3;exact ⟨cs2[6]'(by rw [hl2];decide),hc2 6 _ (List.getElem?_eq_getElem (by rw [hl2];decide))⟩)
  have t1:w6a.frozen? ⟨(ad.add (i * 8)).block,(ad.add (i * 8)).off + 6,none⟩=false:=by (rw [adr HAD.out];exact blk_frozen CUa.out _)
  refine hK.out _ _ ⟨e0,e1⟩ (fun hHeld => ?_)
  clear hK K
  refine norm_ (a':=?_) ?_ ?_
  rotate_left
  ·show Act.put _ (some 38) _=_
   simp only [Act.put,List.setIfInBounds_toArray,List.set_cons_zero,List.set_cons_succ,i64_w,i32_w]
   rfl
  refine pure_ (i:=6) (N:=some 39) (v:=?_) (a':=?_) #[true,true,true,true,true,true,true,false,false] rfl rfl (by kernel_rfl) (fun _ _ _ h => h) (Or.inl ⟨by rfl,?_⟩) ?_ ?_
  rotate_left
  ·intro w'
   go_simp
   with_reducible rfl
  rotate_left
  ·simp only [Act.put,List.setIfInBounds_toArray,List.set_cons_zero,List.set_cons_succ,i64_w,i32_w]
   rfl
  refine pure_ (i:=7) (N:=some 40) (v:=?_) (a':=?_) #[true,true,true,true,true,true,true,true,false] rfl rfl (by kernel_rfl) (fun _ _ _ h => h) (Or.inl ⟨by rfl,?_⟩) ?_ ?_
  rotate_left
  ·intro w'
   go_simp
   with_reducible rfl
  rotate_left
  ·simp only [Act.put,List.setIfInBounds_toArray,List.set_cons_zero,List.set_cons_succ,i64_w,i32_w]
   rfl
  refine last_ (i:=8) (N:=none) #[true,true,true,true,true,true,true,true,true] rfl rfl (by kernel_rfl) (by decide) (fun K hK => ?_)
  refine skip_ (w1:=?_) (by rfl) rfl ?_ ?_
  rotate_left
  ·go_simp
   rfl
  refine hK.out _ _ ?_
  clear hK K
  refine done_ (by kernel_rfl) ?_
  obtain ⟨W8,hW⟩:∃ W8,W8=w6a.setCell ⟨(ad.add (i * 8)).block,(ad.add (i * 8)).off + 6,none⟩ (.slice Y6 m.f6.length y6):=⟨_,rfl⟩
  rw [← hW]
  rw [adr HAD.out] at hW
  have n0_:Aside0 (Kept w wr W8 g):=⟨by rw [hW];exact HG.out.set HBG.out _ _⟩
  have n1_:Aside0 (W8.heap[b4]?=some (.cells #[.int .i64 m.f0,.int .i64 m.f1,.int .i64 m.f2,.int .i64 m.f3,.int .i64 m.f4,.slice A5 m.f5.length c5,.slice A6 m.f6.length c6,.slice A7 m.f7.length c7] 97 (0,0))):=⟨by rw [hW];exact blk_far K4a.out NG.out _⟩
  have n2_:Aside0 (∃ cur,W8.heap[g]?=some (.cells cur 97 (0,0))):=⟨⟨_,by rw [hW];exact blk_set CUa.out _ _⟩⟩
  have n3_:=Aside0.mk (RWa.out.set HM.out 6 (by decide) (.slice Y6 m.f6.length y6) (by rw [HAD.out]))
  rw [← hW] at n3_
  have m5_:=Aside0.mk (Kd.R_far (p:=⟨g,i * 8 + 6,none⟩) R5.out (fun k hk => by (show k ≠ g;intro e;exact hk.2 (by rw [e,HAD.out];rfl))) (.slice Y6 m.f6.length y6))
  rw [← hW] at m5_
  have m6_:=Aside0.mk (Kd.R_far (p:=⟨g,i * 8 + 6,none⟩) R6.out (fun k hk => by (show k ≠ g;intro e;exact hk.2 (by rw [e,HAD.out];rfl))) (.slice Y6 m.f6.length y6))
  rw [← hW] at m6_
  clear hHeld q0 q1 e0 e1 t0 t1 hW HK HD HG K4 K4a CU CUa RW RWa R5 R6
  have HK:=n0_
  have K4:=n1_
  obtain ⟨cur,hcu⟩:=n2_.out
  have CU:=Aside0.mk hcu
  have RW:=n3_
  have R5:=m5_
  have R6:=m6_
  clear n0_ n1_ n2_ n3_ hcu m5_ m6_
  go_upto_region 9 with fail
  have HD:Aside0 (Kept w wr W8.drew g):=⟨HK.out.new (below_drew (Below.refl _ _))⟩
  have q0:W8.drew.cell? ⟨b1,4,none⟩=some (.slice (some ad) c.f4.length d4):=(blk_cell (HD.out.blk HS.out.k1 (blk_ne HS.out.k1 HCUR.out (by decide))) 4).trans rfl
  have q1:W8.drew.cell? ⟨b4,7,none⟩=some (.slice A7 m.f7.length c7):=(blk_cell (show W8.drew.heap[b4]?=_ from K4.out) 7).trans rfl
  refine start_ (n:=9) (S:=fun w' => w'.cell? ⟨b1,4,none⟩=some (.slice (some ad) c.f4.length d4)∧w'.cell? ⟨b4,7,none⟩=some (.slice A7 m.f7.length c7)) (ds:=[8]) #[false,false,false,false,false,false,false,false,false] (by kernel_rfl) rfl rfl ⟨q0,q1⟩ (fun hHeld => ?_)
  refine pure_ (i:=0) (N:=some 41) (v:=?_) (a':=?_) #[true,false,false,false,false,false,false,false,false] rfl rfl (by kernel_rfl) (fun _ _ _ h => h) (Or.inl ⟨by rfl,?_⟩) ?_ ?_
  rotate_left
  ·intro w'
   go_simp
   with_reducible rfl
  rotate_left
  ·simp only [Act.put,List.setIfInBounds_toArray,List.set_cons_zero,List.set_cons_succ,i64_w,i32_w]
   rfl
  refine pure_ (i:=2) (N:=some 43) (v:=?_) (a':=?_) #[true,false,true,false,false,false,false,false,false] rfl rfl (by kernel_rfl) (fun _ _ _ h => h) (Or.inl ⟨by rfl,?_⟩) ?_ ?_
  rotate_left
  ·intro w'
   go_simp
   with_reducible rfl
  rotate_left
  ·simp only [Act.put,List.setIfInBounds_toArray,List.set_cons_zero,List.set_cons_succ,i64_w,i32_w]
   rfl
  refine pure_ (i:=3) (N:=some 44) (v:=?_) (a':=?_) #[true,false,true,true,false,false,false,false,false] rfl rfl (by kernel_rfl) (fun _ _ _ h => h) (Or.inl ⟨by rfl,?_⟩) ?_ ?_
  rotate_left
  ·intro w'
   go_simp
   with_reducible rfl
  rotate_left
  ·simp only [Act.put,List.setIfInBounds_toArray,List.set_cons_zero,List.set_cons_succ,i64_w,i32_w]
   rfl
  refine take_ (i:=1) (N:=some 42) (v:=?_) (a':=?_) #[true,true,true,true,false,false,false,false,false] rfl rfl (by kernel_rfl) (fun _ _ _ h => h) (Or.inl ⟨by rfl,?_⟩) hHeld ?_ ?_
  rotate_left
  ·rintro w' ⟨s0,s1⟩
   go_simp
   with_reducible rfl
  rotate_left
  ·simp only [Act.put,List.setIfInBounds_toArray,List.set_cons_zero,List.set_cons_succ,i64_w,i32_w]
   rfl
  refine take_ (i:=4) (N:=some 45) (v:=?_) (a':=?_) #[true,true,true,true,true,false,false,false,false] rfl rfl (by kernel_rfl) (fun _ _ _ h => h) (Or.inl ⟨by rfl,?_⟩) hHeld ?_ ?_
  rotate_left
  ·rintro w' ⟨s0,s1⟩
   go_simp
   with_reducible rfl
  rotate_left
  ·simp only [Act.put,List.setIfInBounds_toArray,List.set_cons_zero,List.set_cons_succ,i64_w,i32_w]
   rfl
  refine one_ (i:=5) (N:=some 46) #[true,true,true,true,true,true,false,false,false] rfl rfl (by kernel_rfl) (by decide) (fun K hK => ?_)
  refine Kd.R_append_rows_step (Kd.int .u8) (Rr:=(Kd.int .u8).K W8.drew) (w0:=w) w.heap.size (by rfl) (.const (.slice none 0 0)) (.tmp 45) 94 5 (.int .u8 0) 1 (by rfl) Tryd.underlying94 infoU8 rfl (by decide) (by decide) (.slice none 0 0) [] m.f7 A7 _ c7 (OkV (.slice (some ad) c.f4.length d4)) (fun _ => False) (by rfl) (by rfl) (Kd.R_nil _ _ _ _ _) (Kd.C_below X7.out HD.out.B) (fun _ _ h => h) (fun _ h => h.elim) (fun k hk => ⟨trivial,fun e => by have h1:=HD.out.K.1;have h2:=blk_lt HCUR.out;have e2:k=ad.block:=(by injection e);have e3:ad.block=g:=(by rw [HAD.out]);omega⟩) HD.out.B HD.out.B.size (by have:=HMM.out;simp only [List.length_nil];omega) ?_
  intro v7 w7a hR hB hg _
  have hR':Kd.R (Kd.int .u8) 5 w7a w.heap.size (OkV (.slice (some ad) c.f4.length d4)) v7 m.f7:=hR
  obtain ⟨Y7,y7,rfl⟩:=Kd.R_slice hR'
  have HG:Aside0 (Kept w wr w7a g):=⟨HD.out.grown hB hg⟩
  have K4a:=Aside0.mk (blk_grown (show W8.drew.heap[b4]?=_ from K4.out) hg (by simp [Value.ownBlock]))
  have CUa:=Aside0.mk (blk_grown (show W8.drew.heap[g]?=_ from CU.out) hg (by simp [Value.ownBlock]))
  have RWa:=Aside0.mk (RW.out.move (w':=w7a) (fun k hk => by have e:k=g:=(by have e:=HAD.out;rw [e] at hk;injection hk with hk;exact hk.symm);rw [e];exact hg.block g (blk_lt CU.out) (by simp [Value.ownBlock])))
  have R7:=Aside0.mk hR'
  have n_:=Aside0.mk (Kd.R_grown (show Kd.R _ _ W8.drew _ _ _ _ from R5.out) hg (fun _ _ => by simp [Value.ownBlock]));clear R5;have R5:=n_;clear n_
  have n_:=Aside0.mk (Kd.R_grown (show Kd.R _ _ W8.drew _ _ _ _ from R6.out) hg (fun _ _ => by simp [Value.ownBlock]));clear R6;have R6:=n_;clear n_
  clear hR hR' hB hg
  have e0:w7a.cell? ⟨b1,4,none⟩=some (.slice (some ad) c.f4.length d4):=(blk_cell (HG.out.blk HS.out.k1 (blk_ne HS.out.k1 HCUR.out (by decide))) 4).trans rfl
  have e1:w7a.cell? ⟨b4,7,none⟩=some (.slice A7 m.f7.length c7):=(blk_cell K4a.out 7).trans rfl
  obtain ⟨o7,t0⟩:∃ o,w7a.cell? ⟨(ad.add (i * 8)).block,(ad.add (i * 8)).off + 7,none⟩=some o:=by (obtain ⟨g2,c2,cs2,hv2,_,_,hl2,_,hc2⟩:=RWa.out.get HM.out;rw [adr HAD.out];have hv3:g2=g:=(by have h:=HAD.out;injection hv2 with h1 _ _;injection h1 with h1;rw [h] at h1;injection h1 with h1;exact h1.symm);subst hv3;exact ⟨cs2[7]'(by rw [hl2];decide),hc2 7 _ (List.getElem?_eq_getElem (by rw [hl2];decide))⟩)
  have t1:w7a.frozen? ⟨(ad.add (i * 8)).block,(ad.add (i * 8)).off + 7,none⟩=false:=by (rw [adr HAD.out];exact blk_frozen CUa.out _)
  refine hK.out _ _ ⟨e0,e1⟩ (fun hHeld => ?_)
  clear hK K
  refine norm_ (a':=?_) ?_ ?_
  rotate_left
  ·show Act.put _ (some 46) _=_
   simp only [Act.put,List.setIfInBounds_toArray,List.set_cons_zero,List.set_cons_succ,i64_w,i32_w]
   rfl
  refine pure_ (i:=6) (N:=some 47) (v:=?_) (a':=?_) #[true,true,true,true,true,true,true,false,false] rfl rfl (by kernel_rfl) (fun _ _ _ h => h) (Or.inl ⟨by rfl,?_⟩) ?_ ?_
  rotate_left
  ·intro w'
   go_simp
   with_reducible rfl
  rotate_left
  ·simp only [Act.put,List.setIfInBounds_toArray,List.set_cons_zero,List.set_cons_succ,i64_w,i32_w]
   rfl
  refine pure_ (i:=7) (N:=some 48) (v:=?_) (a':=?_) #[true,true,true,true,true,true,true,true,false] rfl rfl (by kernel_rfl) (fun _ _ _ h => h) (Or.inl ⟨by rfl,?_⟩) ?_ ?_
  rotate_left
  ·intro w'
   go_simp
   with_reducible rfl
  rotate_left
  ·simp only [Act.put,List.setIfInBounds_toArray,List.set_cons_zero,List.set_cons_succ,i64_w,i32_w]
   rfl
  refine last_ (i:=8) (N:=none) #[true,true,true,true,true,true,true,true,true] rfl rfl (by kernel_rfl) (by decide) (fun K hK => ?_)
  refine skip_ (w1:=?_) (by rfl) rfl ?_ ?_
  rotate_left
  ·go_simp
   rfl
  refine hK.out _ _ ?_
  clear hK K
  refine done_ (by kernel_rfl) ?_
  obtain ⟨W9,hW⟩:∃ W9,W9=w7a.setCell ⟨(ad.add (i * 8)).block,(ad.add (i * 8)).off + 7,none⟩ (.slice Y7 m.f7.length y7):=⟨_,rfl⟩
  rw [← hW]
  rw [adr HAD.out] at hW
  have n0_:Aside0 (Kept w wr W9 g):=⟨by rw [hW];exact HG.out.set HBG.out _ _⟩
  have n1_:Aside0 (W9.heap[b4]?=some (.cells #[.int .i64 m.f0,.int .i64 m.f1,.int .i64 m.f2,.int .i64 m.f3,.int .i64 m.f4,.slice A5 m.f5.length c5,.slice A6 m.f6.length c6,.slice A7 m.f7.length c7] 97 (0,0))):=⟨by rw [hW];exact blk_far K4a.out NG.out _⟩
  have n2_:Aside0 (∃ cur,W9.heap[g]?=some (.cells cur 97 (0,0))):=⟨⟨_,by rw [hW];exact blk_set CUa.out _ _⟩⟩
  have n3_:=Aside0.mk (RWa.out.set HM.out 7 (by decide) (.slice Y7 m.f7.length y7) (by rw [HAD.out]))
  rw [← hW] at n3_
  have m5_:=Aside0.mk (Kd.R_far (p:=⟨g,i * 8 + 7,none⟩) R5.out (fun k hk => by (show k ≠ g;intro e;exact hk.2 (by rw [e,HAD.out];rfl))) (.slice Y7 m.f7.length y7))
  rw [← hW] at m5_
  have m6_:=Aside0.mk (Kd.R_far (p:=⟨g,i * 8 + 7,none⟩) R6.out (fun k hk => by (show k ≠ g;intro e;exact hk.2 (by rw [e,HAD.out];rfl))) (.slice Y7 m.f7.length y7))
  rw [← hW] at m6_
  have m7_:=Aside0.mk (Kd.R_far (p:=⟨g,i * 8 + 7,none⟩) R7.out (fun k hk => by (show k ≠ g;intro e;exact hk.2 (by rw [e,HAD.out];rfl))) (.slice Y7 m.f7.length y7))
  rw [← hW] at m7_
  clear hHeld q0 q1 e0 e1 t0 t1 hW HK HD HG K4 K4a CU CUa RW RWa R5 R6 R7
  have HK:=n0_
  have K4:=n1_
  obtain ⟨cur,hcu⟩:=n2_.out
  have CU:=Aside0.mk hcu
  have RW:=n3_
  have R5:=m5_
  have R6:=m6_
  have R7:=m7_
  clear n0_ n1_ n2_ n3_ hcu m5_ m6_ m7_
  have HE:Aside0 (CoSt w W9 b1 b2 c (.slice B0 c.f0.length d0) (.slice B3 c.f3.length d3) (.slice (some ad) c.f4.length d4)):=⟨HS.out.kept HK.out HCUR.out⟩
  have HRN:Aside0 (RowIs (PdM w W9 (.slice (some ad) c.f4.length d4) (i + 1)) 97 8 W9 w.heap.size (.slice (some ad) c.f4.length d4) c.f4):=⟨by
   have hrw:=RW.out
   have r5:=R5.out
   have r6:=R6.out
   have r7:=R7.out
   have hk:=HK.out.K
   have had:=HAD.out
   subst had
   exact hrw.imp (fun j x cs hj h => PdM_next HM.out hk r5 r6 r7 j x cs hj h)⟩
  clear HK K4 CU RW R5 R6 R7 HS HCUR HBG NG X5 X6 X7
  go_wp2
  go_roundw
  case measure =>
   rw [intOf_i64,intOf_i64,wrapS HX.out HSM.out.l4]
   have:=HX.out
   omega
  case rel => exact ⟨_,_,_,⟨i + 1,congrArg (Value.int .i64) (wrapS HX.out HSM.out.l4),⟨HX.out⟩,HRN⟩,rfl,rfl,rfl⟩
end Go.Proofs.YtoonhpcjcimecaaDoor.Px
namespace Go.Proofs.YtoonhpcjcimecaaDoor.Px
open Go.RowKit Go.Maps Go.Proofs.YtoonhpcjcimecaaDoorW.PrintWords Go.Proofs.YtoonhpcjcimecaaDoorW.PrintLast Go.Proofs.YtoonhpcjcimecaaDoorW.PrintMore
set_option linter.unusedVariables false
set_option linter.unusedSimpArgs false
theorem infoEnt:(Tryd.prog.info? 71).map (fun i => (i.zero,i.size,i.bytes))=some (some (.agg #[.nilIface,.string (⟨#[]⟩:ByteArray),.int .i64 0,.slice none 0 0,.slice none 0 0,.int .i64 0,.int .i64 0]),7,104):=by kernel_rfl
structure Disp (sv:Value) (name:String) (w:World) (Q:Ending→World→Prop):Prop where
 ex : ∃ T v f fn recv, sv = .iface T v ∧ (∀ k W, (method (k + 1) T v name).run Tryd.prog W = .ok (f, recv) W) ∧ Tryd.prog.funcs[f]? = some fn ∧ (fn.name == "runtime.NumGoroutine") = false ∧ fn.body.isSome = true ∧ Calls Tryd.prog f #[recv] w Q
theorem Disp.mono {sv:Value} {name:String} {w:World} {Q Q':Ending→World→Prop} (h:Disp sv name w Q) (k:∀ e w',Q e w'→Q' e w'):Disp sv name w Q':=by
 obtain ⟨T,v,f,fn,recv,h1,h2,h3,h4,h5,h6⟩:=h.ex
 exact ⟨T,v,f,fn,recv,h1,h2,h3,h4,h5,h6.mono k⟩
section
variable {ops:Array Oper} {Q:Exit→Act→World→Prop}
theorem invoke_run {P : Program} {oi : Oper} {a : Act} {w : World} {o : Operand} {name : String} {T : TypeId} {v recv : Value} {f : FuncId} {fn : Func} (hop : oi.op = .call { callee := .invoke o name, args := #[], argTypes := #[] }) (hv : a.eval o = .iface T v) (hm : ∀ k W, (method (k + 1) T v name).run P W = .ok (f, recv) W) (hf : P.funcs[f]? = some fn) (hn : (fn.name == "runtime.NumGoroutine") = false) (hb : fn.body.isSome = true) : (execOp a.eval oi).run P w = .ok (.enter f #[recv]) w := by
 have he:=enters_ hf hn hb #[recv] w
 have hm':=hm (P.types.size + 99) w
 have e:P.types.size + Made.depth=P.types.size + 99 + 1:=by rw [show Made.depth=99 + 1 from rfl,Nat.add_assoc]
 unfold execOp
 simp [hop,resolve,invoke,callMethod,hv,e,hm',he,Result.andThen]
theorem goesI_ {oi:Oper} {N:Option Tmp} {a:Act} {w:World} {K:Act→World→Prop} {o:Operand} (name:String) (sv:Value) (hw:Region.wanted oi (yielded ops a.tmps)=true) (hN:oi.dst=N) (hop:oi.op=.call { callee:=.invoke o name,args:=#[],argTypes:=#[] }) (hv:a.eval o=sv)
  (h:Disp sv name w fun e w' => ∃ v,e=.returned v∧K (a.put N v) w'):if Region.wanted oi (yielded ops a.tmps)=true then Oper.wp Tryd.prog oi a w K Q else K (a.put N undef) w:=by
 obtain ⟨T,v,f,fn,recv,h1,h2,h3,h4,h5,h6⟩:=h.ex
 subst h1
 exact call_ f #[recv] hw hN (invoke_run hop hv h2 h3 h4 h5) h6
end
theorem inv_bo (k : Nat) (v : Array Value) (w : World) : (method (k + 1) 88 (.agg v) "understudy/link.own").run Tryd.prog w = .ok (107, .agg v) w := by kernel_rfl
theorem inv_bf (k : Nat) (v : Array Value) (w : World) : (method (k + 1) 88 (.agg v) "understudy/link.fields").run Tryd.prog w = .ok (104, .agg v) w := by kernel_rfl
theorem inv_bm (k : Nat) (v : Array Value) (w : World) : (method (k + 1) 88 (.agg v) "understudy/link.methods").run Tryd.prog w = .ok (106, .agg v) w := by kernel_rfl
theorem inv_fo (k : Nat) (v : Array Value) (w : World) : (method (k + 1) 63 (.agg v) "understudy/link.own").run Tryd.prog w = .ok (101, .agg v) w := by kernel_rfl
theorem inv_ff (k : Nat) (v : Array Value) (w : World) : (method (k + 1) 63 (.agg v) "understudy/link.fields").run Tryd.prog w = .ok (98, .agg v) w := by kernel_rfl
theorem inv_fm (k : Nat) (v : Array Value) (w : World) : (method (k + 1) 63 (.agg v) "understudy/link.methods").run Tryd.prog w = .ok (100, .agg v) w := by kernel_rfl
set_option maxHeartbeats 4000000 in
theorem builtin_methods.calls {w:World} {n s:ByteArray} {A:Option Addr} {c k:Nat}:Calls Tryd.prog 106 #[.agg #[.string n,.string s,.slice A k c]] w fun e w' => e=.returned (.slice A k c)∧Below w.heap.size w w':=by
 have HB:=Aside0.mk (Below.refl w.heap.size w)
 go_enter Tryd.func106,Tryd.ntmps106
 go_wp2_with ((with_reducible refine gate_dst (N:=1) rfl ?_);refine box_event ?hg (N:=1) ?hd (cs:=#[.string n,.string s,.slice A k c]) (t:=88) ?hr ?_;(case hd => rfl);(case hg => rfl);(case hr => first|(go_simp;done)|(go_simp;rfl));intro gb hg w7 hbox hb;have n0_:=Aside0.mk (below_step bl_ hb);clear HB;have HB:=n0_;have z2:=(blk_cell hbox 2).trans rfl;clear n0_ hb hbox hg)
 go_ret
 exact ⟨rfl,bl_⟩
def ownV:Src→ByteArray × ByteArray
 | .inl b => (b.name,b.super)
 | .inr c => ((classV c.f0 c.f1).1,(classV c.f0 c.f2).1)
def fieldsS:Src→List Mem
 | .inl _ => []
 | .inr c => fieldsF c
def methodsS:Src→List Mem
 | .inl b => b.l
 | .inr c => methodsF c
def SmallS:Src→Prop
 | .inl _ => True
 | .inr c => SmallC c
theorem src_own {w : World} {src : Src} {sv : Value} (h : kSrc.K w src [sv]) : Disp sv "understudy/link.own" w fun e w' => e = .returned (.tuple #[.string (ownV src).1, .string (ownV src).2]) ∧ Below w.heap.size w w' := by
 cases src with
 | inl b =>
  obtain ⟨cc,⟨_,_,rfl,rfl,⟨_,_,rfl,rfl,⟨A,c,rfl,hl,hC⟩⟩⟩,hs⟩:=h
  obtain rfl:=(List.cons.inj hs).1
  exact ⟨_,_,_,_,_,rfl,fun k W => inv_bo k _ W,Tryd.func107,rfl,rfl,link_builtin_own.calls b.name b.super A c b.l _ _ w hC hl rfl⟩
 | inr c =>
  obtain ⟨cc,hK,hs⟩:=h
  obtain rfl:=(List.cons.inj hs).1
  obtain ⟨A0,c0,A3,c3,A4,c4,rfl,l0,g0,l3,g3,l4,g4⟩:=k43_open hK
  exact ⟨_,_,_,_,_,rfl,fun k W => inv_fo k _ W,Tryd.func101,rfl,rfl,link_file_own.calls A0 c0 c.f0 c.f1 c.f2 A3 c3 c.f3 A4 c4 c.f4 _ _ w g0 l0 g3 l3 g4 l4 (file_own.eq c.f0 c.f1 c.f2 c.f3 c.f4)⟩
theorem src_fields {w : World} {B : Nat} {ok : Nat → Prop} {src : Src} {sv : Value} (h : kSrc.M w B ok src [sv]) (hS : SmallS src) (hB : B ≤ w.heap.size) : Disp sv "understudy/link.fields" w fun e w' => ∃ v, e = .returned v ∧ kMem.R 86 w' B (fun _ => True) v (fieldsS src) ∧ Below w.heap.size w w' := by
 have hk:=kSrc.K_of_M h
 cases src with
 | inl b =>
  obtain ⟨cc,⟨_,_,rfl,rfl,⟨_,_,rfl,rfl,⟨A,c,rfl,hl,hC⟩⟩⟩,hs⟩:=hk
  obtain rfl:=(List.cons.inj hs).1
  exact ⟨_,_,_,_,_,rfl,fun k W => inv_bf k _ W,Tryd.func104,rfl,rfl,(link_builtin_fields.calls b.name b.super A c b.l [] w hC hl rfl).mono fun e w' ⟨v,h1,h2,h3⟩ => ⟨v,h1,Kd.R_lower h2 hB,h3⟩⟩
 | inr c =>
  obtain ⟨cc,hK,hs⟩:=hk
  obtain rfl:=(List.cons.inj hs).1
  obtain ⟨A0,c0,A3,c3,A4,c4,rfl,l0,g0,l3,g3,l4,g4⟩:=k43_open hK
  obtain ⟨k,hk⟩:=(file_fields.ev c (show SmallC c from hS).l3).rounds
  exact ⟨_,_,_,_,_,rfl,fun k W => inv_ff k _ W,Tryd.func98,rfl,rfl,(link_file_fields.calls k A0 c0 c.f0 c.f1 c.f2 A3 c3 c.f3 A4 c4 c.f4 _ w g0 l0 g3 l3 g4 l4 hk).mono fun e w' ⟨v,h1,h2,h3⟩ => ⟨v,h1,Kd.R_lower h2 hB,h3⟩⟩
theorem src_methods {w : World} {B : Nat} {ok : Nat → Prop} {src : Src} {sv : Value} (h : kSrc.M w B ok src [sv]) (hS : SmallS src) (hB : B ≤ w.heap.size) : Disp sv "understudy/link.methods" w fun e w' => ∃ v, e = .returned v ∧ kMem.R 86 w' B (fun _ => True) v (methodsS src) ∧ Below w.heap.size w w' := by
 have hk:=kSrc.K_of_M h
 cases src with
 | inl b =>
  obtain ⟨cc,⟨_,_,rfl,rfl,⟨_,_,rfl,rfl,⟨v,rfl,hR⟩⟩⟩,hs⟩:=h
  obtain rfl:=(List.cons.inj hs).1
  obtain ⟨A,c,rfl⟩:=Kd.R_slice hR
  exact ⟨_,_,_,_,_,rfl,fun k W => inv_bm k _ W,Tryd.func106,rfl,rfl,builtin_methods.calls.mono fun e w' ⟨h1,h3⟩ => ⟨_,h1,Kd.R_mono (Kd.R_below hR h3) (fun _ _ => trivial),h3⟩⟩
 | inr c =>
  obtain ⟨cc,hK,hs⟩:=hk
  obtain rfl:=(List.cons.inj hs).1
  obtain ⟨A0,c0,A3,c3,A4,c4,rfl,l0,g0,l3,g3,l4,g4⟩:=k43_open hK
  obtain ⟨k,hk⟩:=(file_methods.ev c (show SmallC c from hS).l4).rounds
  exact ⟨_,_,_,_,_,rfl,fun k W => inv_fm k _ W,Tryd.func100,rfl,rfl,(link_file_methods.calls k A0 c0 c.f0 c.f1 c.f2 A3 c3 c.f3 A4 c4 c.f4 _ w g0 l0 g3 l3 g4 l4 hk).mono fun e w' ⟨v,h1,h2,h3⟩ => ⟨v,h1,Kd.R_lower h2 hB,h3⟩⟩
end Go.Proofs.YtoonhpcjcimecaaDoor.Px
namespace Go.Proofs.YtoonhpcjcimecaaDoor.Px
open Go.RowKit Go.Maps Go.Proofs.YtoonhpcjcimecaaDoorW.PrintWords Go.Proofs.YtoonhpcjcimecaaDoorW.PrintLast Go.Proofs.YtoonhpcjcimecaaDoorW.PrintMore
set_option linter.unusedVariables false
set_option linter.unusedSimpArgs false
theorem kSrc_iface {w:World} {x:Src} {s:Value} (h:kSrc.K w x [s]):∃ T v,s=.iface T v:=by
 cases x with
 | inl y => obtain ⟨cc,_,hs⟩:=h;exact ⟨_,_,(List.cons.inj hs).1⟩
 | inr y => obtain ⟨cc,_,hs⟩:=h;exact ⟨_,_,(List.cons.inj hs).1⟩
theorem blk7_ {w:World} {g t:Nat} {v0 v1 v2 v3 v4 v5 v6:Value} (h:w.heap[g]?=some (.cells #[v0,v1,v2,v3,v4,v5,v6] t (0,0))):w.cell? ⟨g,0,none⟩=some v0∧w.cell? ⟨g,1,none⟩=some v1∧w.cell? ⟨g,2,none⟩=some v2∧w.cell? ⟨g,3,none⟩=some v3∧w.cell? ⟨g,4,none⟩=some v4∧w.cell? ⟨g,5,none⟩=some v5∧w.cell? ⟨g,6,none⟩=some v6∧w.frozen? ⟨g,0,none⟩=false∧w.frozen? ⟨g,1,none⟩=false∧w.frozen? ⟨g,2,none⟩=false∧w.frozen? ⟨g,3,none⟩=false∧w.frozen? ⟨g,4,none⟩=false∧w.frozen? ⟨g,5,none⟩=false∧w.frozen? ⟨g,6,none⟩=false :=
 ⟨(blk_cell h 0).trans rfl,(blk_cell h 1).trans rfl,(blk_cell h 2).trans rfl,(blk_cell h 3).trans rfl,(blk_cell h 4).trans rfl,(blk_cell h 5).trans rfl,(blk_cell h 6).trans rfl,blk_frozen h 0,blk_frozen h 1,blk_frozen h 2,blk_frozen h 3,blk_frozen h 4,blk_frozen h 5,blk_frozen h 6⟩
theorem st7_ {w:World} {g t:Nat} {v0 v1 v2 v3 v4 v5 v6 u0 u1 u2 u3 u4 u5 u6:Value} (h:w.heap[g]?=some (.cells #[v0,v1,v2,v3,v4,v5,v6] t (0,0))):(((((((w.setCell ⟨g,0,none⟩ u0).setCell ⟨g,1,none⟩ u1).setCell ⟨g,2,none⟩ u2).setCell ⟨g,3,none⟩ u3).setCell ⟨g,4,none⟩ u4).setCell ⟨g,5,none⟩ u5).setCell ⟨g,6,none⟩ u6).heap[g]?=some (.cells #[u0,u1,u2,u3,u4,u5,u6] t (0,0)):=by
 have h0:(w.setCell ⟨g,0,none⟩ u0).heap[g]?=some (.cells #[u0,v1,v2,v3,v4,v5,v6] t (0,0)):=blk_set h 0 u0
 have h1:((w.setCell ⟨g,0,none⟩ u0).setCell ⟨g,1,none⟩ u1).heap[g]?=some (.cells #[u0,u1,v2,v3,v4,v5,v6] t (0,0)):=blk_set h0 1 u1
 have h2:(((w.setCell ⟨g,0,none⟩ u0).setCell ⟨g,1,none⟩ u1).setCell ⟨g,2,none⟩ u2).heap[g]?=some (.cells #[u0,u1,u2,v3,v4,v5,v6] t (0,0)):=blk_set h1 2 u2
 have h3:((((w.setCell ⟨g,0,none⟩ u0).setCell ⟨g,1,none⟩ u1).setCell ⟨g,2,none⟩ u2).setCell ⟨g,3,none⟩ u3).heap[g]?=some (.cells #[u0,u1,u2,u3,v4,v5,v6] t (0,0)):=blk_set h2 3 u3
 have h4:(((((w.setCell ⟨g,0,none⟩ u0).setCell ⟨g,1,none⟩ u1).setCell ⟨g,2,none⟩ u2).setCell ⟨g,3,none⟩ u3).setCell ⟨g,4,none⟩ u4).heap[g]?=some (.cells #[u0,u1,u2,u3,u4,v5,v6] t (0,0)):=blk_set h3 4 u4
 have h5:((((((w.setCell ⟨g,0,none⟩ u0).setCell ⟨g,1,none⟩ u1).setCell ⟨g,2,none⟩ u2).setCell ⟨g,3,none⟩ u3).setCell ⟨g,4,none⟩ u4).setCell ⟨g,5,none⟩ u5).heap[g]?=some (.cells #[u0,u1,u2,u3,u4,u5,v6] t (0,0)):=blk_set h4 5 u5
 have h6:(((((((w.setCell ⟨g,0,none⟩ u0).setCell ⟨g,1,none⟩ u1).setCell ⟨g,2,none⟩ u2).setCell ⟨g,3,none⟩ u3).setCell ⟨g,4,none⟩ u4).setCell ⟨g,5,none⟩ u5).setCell ⟨g,6,none⟩ u6).heap[g]?=some (.cells #[u0,u1,u2,u3,u4,u5,u6] t (0,0)):=blk_set h5 6 u6
 exact h6
theorem be7_ {w W:World} {g:Nat} (h:Below w.heap.size w W) (hg:w.heap.size≤g) (u0 u1 u2 u3 u4 u5 u6:Value):Below w.heap.size w (((((((W.setCell ⟨g,0,none⟩ u0).setCell ⟨g,1,none⟩ u1).setCell ⟨g,2,none⟩ u2).setCell ⟨g,3,none⟩ u3).setCell ⟨g,4,none⟩ u4).setCell ⟨g,5,none⟩ u5).setCell ⟨g,6,none⟩ u6) :=
 below_set (below_set (below_set (below_set (below_set (below_set (below_set h hg) hg) hg) hg) hg) hg) hg
theorem be3_ {w W:World} {g:Nat} (h:Below w.heap.size w W) (hg:w.heap.size≤g) (u0 u1 u2:Value):Below w.heap.size w (((W.setCell ⟨g,0,none⟩ u0).setCell ⟨g,1,none⟩ u1).setCell ⟨g,2,none⟩ u2):=below_set (below_set (below_set h hg) hg) hg
abbrev ZEnt:Array Value:=#[.nilIface,.string (⟨#[]⟩:ByteArray),.int .i64 0,.slice none 0 0,.slice none 0 0,.int .i64 0,.int .i64 0]
abbrev ZMem:Array Value:=#[.string (⟨#[]⟩:ByteArray),.string (⟨#[]⟩:ByteArray),.bool false]
def numZ (ns:List ByteArray) (s:ByteArray):Int:=(((idxN ns s).getD 0:Nat):Int)
theorem pMap_look {w:World} {m n:Nat} {D:DataW Unit} {ns:List ByteArray} (s:ByteArray) (h:pMap w m n D) (hO:MapOf D ns) (hs:s.size≤9223372036854775807):(Instr.lookup 51 (.map (some m)) (.string s) false).run Tryd.prog w=.ok (.int .i64 (numZ ns s)) w:=by
 obtain ⟨c,hrun,hat,_⟩:=h.lookup_int kString Tryd.underlying51 Tryd.underlying3 (zInt _) (Go.WideMaps.keyOf_string_mk (P:=Tryd.prog) Tryd.underlying9 hs)
 rw [hrun,atKey_int (hat.symm.trans (hO s).2)]
 rfl
end Go.Proofs.YtoonhpcjcimecaaDoor.Px
namespace Go.Proofs.YtoonhpcjcimecaaDoor.Px
open Go.RowKit Go.Maps Go.Proofs.YtoonhpcjcimecaaDoorW.PrintWords Go.Proofs.YtoonhpcjcimecaaDoorW.PrintLast Go.Proofs.YtoonhpcjcimecaaDoorW.PrintMore
set_option linter.unusedVariables false
set_option linter.unusedSimpArgs false
theorem rd_Ent_eq {L:List Ent} {i:Nat} {x:Ent} (h:L[i]?=some x):rd_Ent L (i:Int)=x:=by
 unfold rd_Ent
 rw [Int.toNat_natCast,List.getD_eq_getElem?_getD,h]
 rfl
def namesG (ns:List ByteArray):List Ent→Nat→Bool
 | [],_ => true
 | x :: l,i => if numZ ns x.name=(i:Int) then (if typedV x.name=true then namesG ns l (i + 1) else false) else false
def namesV (L:List Ent):Bool:=namesG (L.map (·.name)) L 0
set_option maxHeartbeats 16000000 in
set_option maxRecDepth 100000 in
theorem link_names.calls {w:World} {p:Nat} {L:List Ent} (hG:GG w) (hI:IsPC w p L) (hS:SmallL L) (hn:L.length≤1048576):Calls Tryd.prog 37 #[pp p] w fun e w' => e=.returned (.bool (namesV L))∧Below w.heap.size w w':=by
 obtain ⟨A,c,m,n,D,hb,hl,hK,hmp,hmo⟩:=hI.ex
 have c0:w.cell? ⟨p,0,none⟩=some (.slice A L.length c):=(blk_cell hb 0).trans rfl
 have HG:=Aside0.mk hG
 have HS:=Aside0.mk hS
 have HN:=Aside0.mk hn
 have HK:=Aside0.mk hK
 have HMP:=Aside0.mk hmp
 have HMO:=Aside0.mk hmo
 have C1:Aside0 (w.cell? ⟨p,1,none⟩=some (.map (some m))):=⟨(blk_cell hb 1).trans rfl⟩
 obtain ⟨r,hr⟩:∃ r,r=namesV L:=⟨_,rfl⟩
 rw [← hr]
 have HR:=Aside0.mk hr
 have HB:=Aside0.mk (Below.refl w.heap.size w)
 clear hG hI hS hn hb hl hK hmp hmo hr
 go_enter Tryd.func37,Tryd.ntmps37
 go_wp2_with fail
 clear c0
 go_loopw [10] (fun v10 wr => ∃ i:Nat,v10=.int .i64 (i:Int)∧Aside0 (i≤L.length)∧Aside0 (r=namesG (L.map (·.name)) (L.drop i) i)∧Aside0 (Below w.heap.size w wr)) (fun v10 _ => ((L.length:Int) - intOf v10).toNat)
 case atStart => exact ⟨0,rfl,⟨Nat.zero_le _⟩,⟨HR.out⟩,HB⟩
 case round =>
  clear HR HB
  obtain ⟨i,rfl,HI,HR,HB⟩:=hrel
  by_cases hx:(i:Int) < (L.length:Int)
  case neg =>
   have hpx:decide ((i:Int) < (L.length:Int))=false:=decide_eq_false hx
   have hpn:¬ i < L.length:=by omega
   have hr:=HR.out
   rw [List.drop_eq_nil_of_le (by omega)] at hr
   subst hr
   clear hx HR
   go_wp2
   go_ret
   exact ⟨rfl,bl_⟩
  have hpx:decide ((i:Int) < (L.length:Int))=true:=decide_eq_true hx
  have hpn:i < L.length:=by omega
  have HX:=Aside0.mk hpn
  obtain ⟨x,hxx⟩:∃ x,L[i]?=some x:=⟨L[i],List.getElem?_eq_getElem hpn⟩
  have HSX:=Aside0.mk (HS.out x (List.mem_of_getElem? hxx))
  have hr:=HR.out
  rw [List.drop_eq_getElem_cons hpn,Option.some.inj ((List.getElem?_eq_getElem hpn).symm.trans hxx)] at hr
  unfold namesG at hr
  have p1:0≤(i:Int):=by omega
  obtain ⟨ad,s,A3,c3,A4,c4,e1,hE⟩:=at_Ent HK.out (i:Int) p1 hx
  subst e1
  rw [rd_Ent_eq hxx,Int.toNat_natCast] at hE
  obtain ⟨T,sw,rfl⟩:=kSrc_iface hE.ks
  have x0:=hb_ HB hE.e0
  have x1:=hb_ HB hE.e1
  have x2:=hb_ HB hE.e2
  have x3:=hb_ HB hE.e3
  have x4:=hb_ HB hE.e4
  have x5:=hb_ HB hE.e5
  have x6:=hb_ HB hE.e6
  replace p1:=eq_true p1
  replace hx:=eq_true hx
  have HRR:=Aside0.mk hr
  clear hE hxx HR hr
  go_upto_region 4 with ((with_reducible refine gate_dst (N:=4) rfl ?_);refine box_event ?hg (N:=4) ?hd (cs:=ZEnt) (t:=71) ?hr ?_;(case hd => rfl);(case hg => rfl);(case hr => first|(go_simp;done)|(go_simp;rfl));intro b4 hg w6 hbox hb;have BKb4:=Aside0.mk hbox;have BLb4:=Aside0.mk hb;have Gb4:=Aside0.mk (show wr.heap.size≤b4 by rw [hg];exact Nat.le_refl _);clear hb hbox hg;obtain ⟨z0,z1,z2,z3,z4,z5,z6,y0,y1,y2,y3,y4,y5,y6⟩:=blk7_ BKb4.out)
  obtain ⟨W6,hW6⟩:∃ W6,W6=(((((((w6.setCell ⟨b4,0,none⟩ (.iface T sw)).setCell ⟨b4,1,none⟩ (.string x.name)).setCell ⟨b4,2,none⟩ (.int .i64 x.super)).setCell ⟨b4,3,none⟩ (.slice A3 x.fields.length c3)).setCell ⟨b4,4,none⟩ (.slice A4 x.methods.length c4)).setCell ⟨b4,5,none⟩ (.int .i64 x.slots)).setCell ⟨b4,6,none⟩ (.int .i64 x.statics)):=⟨_,rfl⟩
  rw [← hW6]
  have K4:Aside0 (W6.heap[b4]?=some (.cells #[.iface T sw,.string x.name,.int .i64 x.super,.slice A3 x.fields.length c3,.slice A4 x.methods.length c4,.int .i64 x.slots,.int .i64 x.statics] 71 (0,0))):=⟨by rw [hW6];exact st7_ BKb4.out⟩
  have HB6:Aside0 (Below w.heap.size w W6):=⟨HB.out.trans ((show Below wr.heap.size wr W6 by rw [hW6];exact be7_ BLb4.out Gb4.out _ _ _ _ _ _ _).mono HB.out.size)⟩
  have HBD:Aside0 (Below w.heap.size w W6.drew):=⟨below_drew HB6.out⟩
  have d0:W6.drew.cell? ⟨p,1,none⟩=some (.map (some m)):=bl_cell HBD.out C1.out
  have d1:W6.drew.cell? ⟨b4,1,none⟩=some (.string x.name):=(blk_cell (show W6.drew.heap[b4]?=_ from K4.out) 1).trans rfl
  have d2:=pMap_look x.name (pMap_below HMP.out HBD.out) HMO.out (by have:=HSX.out.name;omega)
  clear hW6 BKb4 BLb4 Gb4 x0 x1 x2 x3 x4 x5 x6 z0 z1 z2 z3 z4 z5 z6 y0 y1 y2 y3 y4 y5 y6 HB
  have hr:=HRR.out
  by_cases hq:numZ (L.map (·.name)) x.name=(i:Int)
  case neg =>
   rw [if_neg hq] at hr
   subst hr
   have hqb:(numZ (L.map (·.name)) x.name != (i:Int))=true:=bne_iff_ne.mpr hq
   clear hq HRR
   refine start_ (n:=15) (S:=fun w' => w'.cell? ⟨p,1,none⟩=some (.map (some m))∧w'.cell? ⟨b4,1,none⟩=some (.string x.name)∧(Instr.lookup 51 (.map (some m)) (.string x.name) false).run Tryd.prog w'=.ok (.int .i64 (numZ (L.map (·.name)) x.name)) w') (ds:=[]) #[false,false,false,false,false,false,false,false,false,false,false,false,false,false,false] (by kernel_rfl) rfl rfl ⟨d0,d1,d2⟩ (fun hHeld => ?_)
   refine pure_ (i:=0) (N:=some 15) (v:=?_) (a':=?_) #[true,false,false,false,false,false,false,false,false,false,false,false,false,false,false] rfl rfl (by kernel_rfl) (fun _ _ _ h => h) (Or.inl ⟨by rfl,?_⟩) ?_ ?_
   rotate_left
   ·intro w'
    go_simp
    with_reducible rfl
   rotate_left
   ·simp only [Act.put,List.setIfInBounds_toArray,List.set_cons_zero,List.set_cons_succ,i64_w,i32_w]
    rfl
   refine pure_ (i:=1) (N:=some 16) (v:=?_) (a':=?_) #[true,true,false,false,false,false,false,false,false,false,false,false,false,false,false] rfl rfl (by kernel_rfl) (fun _ _ _ h => h) (Or.inl ⟨by rfl,?_⟩) ?_ ?_
   rotate_left
   ·intro w'
    go_simp
    with_reducible rfl
   rotate_left
   ·simp only [Act.put,List.setIfInBounds_toArray,List.set_cons_zero,List.set_cons_succ,i64_w,i32_w]
    rfl
   refine pure_ (i:=2) (N:=some 17) (v:=?_) (a':=?_) #[true,true,true,false,false,false,false,false,false,false,false,false,false,false,false] rfl rfl (by kernel_rfl) (fun _ _ _ h => h) (Or.inl ⟨by rfl,?_⟩) ?_ ?_
   rotate_left
   ·intro w'
    go_simp
    with_reducible rfl
   rotate_left
   ·simp only [Act.put,List.setIfInBounds_toArray,List.set_cons_zero,List.set_cons_succ,i64_w,i32_w]
    rfl
   refine pure_ (i:=4) (N:=some 19) (v:=?_) (a':=?_) #[true,true,true,false,true,false,false,false,false,false,false,false,false,false,false] rfl rfl (by kernel_rfl) (fun _ _ _ h => h) (Or.inl ⟨by rfl,?_⟩) ?_ ?_
   rotate_left
   ·intro w'
    go_simp
    with_reducible rfl
   rotate_left
   ·simp only [Act.put,List.setIfInBounds_toArray,List.set_cons_zero,List.set_cons_succ,i64_w,i32_w]
    rfl
   refine pure_ (i:=7) (N:=some 22) (v:=?_) (a':=?_) #[true,true,true,false,true,false,false,true,false,false,false,false,false,false,false] rfl rfl (by kernel_rfl) (fun _ _ _ h => h) (Or.inl ⟨by rfl,?_⟩) ?_ ?_
   rotate_left
   ·intro w'
    go_simp
    with_reducible rfl
   rotate_left
   ·simp only [Act.put,List.setIfInBounds_toArray,List.set_cons_zero,List.set_cons_succ,i64_w,i32_w]
    rfl
   refine take_ (i:=3) (N:=some 18) (v:=?_) (a':=?_) #[true,true,true,true,true,false,false,true,false,false,false,false,false,false,false] rfl rfl (by kernel_rfl) (fun _ _ _ h => h) (Or.inl ⟨by rfl,?_⟩) hHeld ?_ ?_
   rotate_left
   ·rintro w' ⟨s0,s1,s2⟩
    go_simp
    with_reducible rfl
   rotate_left
   ·simp only [Act.put,List.setIfInBounds_toArray,List.set_cons_zero,List.set_cons_succ,i64_w,i32_w]
    rfl
   refine take_ (i:=5) (N:=some 20) (v:=?_) (a':=?_) #[true,true,true,true,true,true,false,true,false,false,false,false,false,false,false] rfl rfl (by kernel_rfl) (fun _ _ _ h => h) (Or.inl ⟨by rfl,?_⟩) hHeld ?_ ?_
   rotate_left
   ·rintro w' ⟨s0,s1,s2⟩
    go_simp
    with_reducible rfl
   rotate_left
   ·simp only [Act.put,List.setIfInBounds_toArray,List.set_cons_zero,List.set_cons_succ,i64_w,i32_w]
    rfl
   refine take_ (i:=6) (N:=some 21) (v:=?_) (a':=?_) #[true,true,true,true,true,true,true,true,false,false,false,false,false,false,false] rfl rfl (by kernel_rfl) (fun _ _ _ h => h) (Or.inl ⟨by rfl,?_⟩) hHeld ?_ ?_
   rotate_left
   ·rintro w' ⟨s0,s1,s2⟩
    go_simp
    with_reducible rfl
   rotate_left
   ·simp only [Act.put,List.setIfInBounds_toArray,List.set_cons_zero,List.set_cons_succ,i64_w,i32_w]
    rfl
   refine pure_ (i:=8) (N:=some 23) (v:=?_) (a':=?_) #[true,true,true,true,true,true,true,true,true,false,false,false,false,false,false] rfl rfl (by kernel_rfl) (fun _ _ _ h => h) (Or.inl ⟨by rfl,?_⟩) ?_ ?_
   rotate_left
   ·intro w'
    go_simp
    with_reducible rfl
   rotate_left
   ·simp only [Act.put,List.setIfInBounds_toArray,List.set_cons_zero,List.set_cons_succ,i64_w,i32_w]
    rfl
   refine pure_ (i:=9) (N:=some 24) (v:=?_) (a':=?_) #[true,true,true,true,true,true,true,true,true,true,false,false,false,false,false] rfl rfl (by kernel_rfl) (fun _ _ _ h => h) (Or.inl ⟨by rfl,?_⟩) ?_ ?_
   rotate_left
   ·intro w'
    go_simp
    with_reducible rfl
   rotate_left
   ·simp only [Act.put,List.setIfInBounds_toArray,List.set_cons_zero,List.set_cons_succ,i64_w,i32_w]
    rfl
   refine pure_ (i:=10) (N:=some 25) (v:=undef) (a':=?_) #[true,true,true,true,true,true,true,true,true,true,true,false,false,false,false] rfl rfl (by kernel_rfl) (fun _ _ _ h => h) (Or.inr ⟨by rfl,rfl⟩) ?_ ?_
   rotate_left
   ·simp only [Act.put,List.setIfInBounds_toArray,List.set_cons_zero,List.set_cons_succ,i64_w,i32_w]
    rfl
   refine pure_ (i:=11) (N:=some 26) (v:=undef) (a':=?_) #[true,true,true,true,true,true,true,true,true,true,true,true,false,false,false] rfl rfl (by kernel_rfl) (fun _ _ _ h => h) (Or.inr ⟨by rfl,rfl⟩) ?_ ?_
   rotate_left
   ·simp only [Act.put,List.setIfInBounds_toArray,List.set_cons_zero,List.set_cons_succ,i64_w,i32_w]
    rfl
   refine pure_ (i:=12) (N:=some 27) (v:=undef) (a':=?_) #[true,true,true,true,true,true,true,true,true,true,true,true,true,false,false] rfl rfl (by kernel_rfl) (fun _ _ _ h => h) (Or.inr ⟨by rfl,rfl⟩) ?_ ?_
   rotate_left
   ·simp only [Act.put,List.setIfInBounds_toArray,List.set_cons_zero,List.set_cons_succ,i64_w,i32_w]
    rfl
   refine pure_ (i:=13) (N:=some 28) (v:=undef) (a':=?_) #[true,true,true,true,true,true,true,true,true,true,true,true,true,true,false] rfl rfl (by kernel_rfl) (fun _ _ _ h => h) (Or.inr ⟨by rfl,rfl⟩) ?_ ?_
   rotate_left
   ·simp only [Act.put,List.setIfInBounds_toArray,List.set_cons_zero,List.set_cons_succ,i64_w,i32_w]
    rfl
   refine pure_ (i:=14) (N:=some 29) (v:=?_) (a':=?_) #[true,true,true,true,true,true,true,true,true,true,true,true,true,true,true] rfl rfl (by kernel_rfl) (fun _ _ _ h => h) (Or.inl ⟨by rfl,?_⟩) ?_ ?_
   rotate_left
   ·intro w'
    go_simp
    with_reducible rfl
   rotate_left
   ·simp only [Act.put,List.setIfInBounds_toArray,List.set_cons_zero,List.set_cons_succ,i64_w,i32_w]
    rfl
   refine done_ (by kernel_rfl) ?_
   clear hHeld d0 d1 d2
   go_wp2
   go_ret
   exact ⟨rfl,HBD.out⟩
  rw [if_pos hq] at hr
  have hqb:(numZ (L.map (·.name)) x.name != (i:Int))=false:=bne_eq_false_iff_eq.mpr hq
  obtain ⟨kt,hkt⟩:=(typed.ev x.name (by have:=HSX.out.name;omega)).rounds
  have HT:=Aside0.mk hkt
  have HR2:=Aside0.mk hr
  clear hq HRR hr hkt
  refine start_ (n:=15) (S:=fun w' => w'.cell? ⟨p,1,none⟩=some (.map (some m))∧w'.cell? ⟨b4,1,none⟩=some (.string x.name)∧(Instr.lookup 51 (.map (some m)) (.string x.name) false).run Tryd.prog w'=.ok (.int .i64 (numZ (L.map (·.name)) x.name)) w') (ds:=[]) #[false,false,false,false,false,false,false,false,false,false,false,false,false,false,false] (by kernel_rfl) rfl rfl ⟨d0,d1,d2⟩ (fun hHeld => ?_)
  refine pure_ (i:=0) (N:=some 15) (v:=?_) (a':=?_) #[true,false,false,false,false,false,false,false,false,false,false,false,false,false,false] rfl rfl (by kernel_rfl) (fun _ _ _ h => h) (Or.inl ⟨by rfl,?_⟩) ?_ ?_
  rotate_left
  ·intro w'
   go_simp
   with_reducible rfl
  rotate_left
  ·simp only [Act.put,List.setIfInBounds_toArray,List.set_cons_zero,List.set_cons_succ,i64_w,i32_w]
   rfl
  refine pure_ (i:=1) (N:=some 16) (v:=?_) (a':=?_) #[true,true,false,false,false,false,false,false,false,false,false,false,false,false,false] rfl rfl (by kernel_rfl) (fun _ _ _ h => h) (Or.inl ⟨by rfl,?_⟩) ?_ ?_
  rotate_left
  ·intro w'
   go_simp
   with_reducible rfl
  rotate_left
  ·simp only [Act.put,List.setIfInBounds_toArray,List.set_cons_zero,List.set_cons_succ,i64_w,i32_w]
   rfl
  refine pure_ (i:=2) (N:=some 17) (v:=?_) (a':=?_) #[true,true,true,false,false,false,false,false,false,false,false,false,false,false,false] rfl rfl (by kernel_rfl) (fun _ _ _ h => h) (Or.inl ⟨by rfl,?_⟩) ?_ ?_
  rotate_left
  ·intro w'
   go_simp
   with_reducible rfl
  rotate_left
  ·simp only [Act.put,List.setIfInBounds_toArray,List.set_cons_zero,List.set_cons_succ,i64_w,i32_w]
   rfl
  refine pure_ (i:=4) (N:=some 19) (v:=?_) (a':=?_) #[true,true,true,false,true,false,false,false,false,false,false,false,false,false,false] rfl rfl (by kernel_rfl) (fun _ _ _ h => h) (Or.inl ⟨by rfl,?_⟩) ?_ ?_
  rotate_left
  ·intro w'
   go_simp
   with_reducible rfl
  rotate_left
  ·simp only [Act.put,List.setIfInBounds_toArray,List.set_cons_zero,List.set_cons_succ,i64_w,i32_w]
   rfl
  refine pure_ (i:=7) (N:=some 22) (v:=?_) (a':=?_) #[true,true,true,false,true,false,false,true,false,false,false,false,false,false,false] rfl rfl (by kernel_rfl) (fun _ _ _ h => h) (Or.inl ⟨by rfl,?_⟩) ?_ ?_
  rotate_left
  ·intro w'
   go_simp
   with_reducible rfl
  rotate_left
  ·simp only [Act.put,List.setIfInBounds_toArray,List.set_cons_zero,List.set_cons_succ,i64_w,i32_w]
   rfl
  refine take_ (i:=3) (N:=some 18) (v:=?_) (a':=?_) #[true,true,true,true,true,false,false,true,false,false,false,false,false,false,false] rfl rfl (by kernel_rfl) (fun _ _ _ h => h) (Or.inl ⟨by rfl,?_⟩) hHeld ?_ ?_
  rotate_left
  ·rintro w' ⟨s0,s1,s2⟩
   go_simp
   with_reducible rfl
  rotate_left
  ·simp only [Act.put,List.setIfInBounds_toArray,List.set_cons_zero,List.set_cons_succ,i64_w,i32_w]
   rfl
  refine take_ (i:=5) (N:=some 20) (v:=?_) (a':=?_) #[true,true,true,true,true,true,false,true,false,false,false,false,false,false,false] rfl rfl (by kernel_rfl) (fun _ _ _ h => h) (Or.inl ⟨by rfl,?_⟩) hHeld ?_ ?_
  rotate_left
  ·rintro w' ⟨s0,s1,s2⟩
   go_simp
   with_reducible rfl
  rotate_left
  ·simp only [Act.put,List.setIfInBounds_toArray,List.set_cons_zero,List.set_cons_succ,i64_w,i32_w]
   rfl
  refine take_ (i:=6) (N:=some 21) (v:=?_) (a':=?_) #[true,true,true,true,true,true,true,true,false,false,false,false,false,false,false] rfl rfl (by kernel_rfl) (fun _ _ _ h => h) (Or.inl ⟨by rfl,?_⟩) hHeld ?_ ?_
  rotate_left
  ·rintro w' ⟨s0,s1,s2⟩
   go_simp
   with_reducible rfl
  rotate_left
  ·simp only [Act.put,List.setIfInBounds_toArray,List.set_cons_zero,List.set_cons_succ,i64_w,i32_w]
   rfl
  refine pure_ (i:=8) (N:=some 23) (v:=?_) (a':=?_) #[true,true,true,true,true,true,true,true,true,false,false,false,false,false,false] rfl rfl (by kernel_rfl) (fun _ _ _ h => h) (Or.inl ⟨by rfl,?_⟩) ?_ ?_
  rotate_left
  ·intro w'
   go_simp
   with_reducible rfl
  rotate_left
  ·simp only [Act.put,List.setIfInBounds_toArray,List.set_cons_zero,List.set_cons_succ,i64_w,i32_w]
   rfl
  refine pure_ (i:=9) (N:=some 24) (v:=?_) (a':=?_) #[true,true,true,true,true,true,true,true,true,true,false,false,false,false,false] rfl rfl (by kernel_rfl) (fun _ _ _ h => h) (Or.inl ⟨by rfl,?_⟩) ?_ ?_
  rotate_left
  ·intro w'
   go_simp
   with_reducible rfl
  rotate_left
  ·simp only [Act.put,List.setIfInBounds_toArray,List.set_cons_zero,List.set_cons_succ,i64_w,i32_w]
   rfl
  refine pure_ (i:=10) (N:=some 25) (v:=?_) (a':=?_) #[true,true,true,true,true,true,true,true,true,true,true,false,false,false,false] rfl rfl (by kernel_rfl) (fun _ _ _ h => h) (Or.inl ⟨by rfl,?_⟩) ?_ ?_
  rotate_left
  ·intro w'
   go_simp
   with_reducible rfl
  rotate_left
  ·simp only [Act.put,List.setIfInBounds_toArray,List.set_cons_zero,List.set_cons_succ,i64_w,i32_w]
   rfl
  refine take_ (i:=11) (N:=some 26) (v:=?_) (a':=?_) #[true,true,true,true,true,true,true,true,true,true,true,true,false,false,false] rfl rfl (by kernel_rfl) (fun _ _ _ h => h) (Or.inl ⟨by rfl,?_⟩) hHeld ?_ ?_
  rotate_left
  ·rintro w' ⟨s0,s1,s2⟩
   go_simp
   with_reducible rfl
  rotate_left
  ·simp only [Act.put,List.setIfInBounds_toArray,List.set_cons_zero,List.set_cons_succ,i64_w,i32_w]
   rfl
  refine one_ (i:=12) (N:=some 27) #[true,true,true,true,true,true,true,true,true,true,true,true,true,false,false] rfl rfl (by kernel_rfl) (by decide) (fun K hK => ?_)
  refine goes_ Tryd.func50 (by kernel_rfl) rfl #[.string x.name] (by rfl) rfl rfl (by simp only [List.map_toArray,List.map_cons,List.map_nil];rfl) ?_
  refine (link_typed.calls kt x.name _ W6.drew ⟨HG.out.below HBD.out⟩ HT.out).mono ?_
  rintro _ w7 ⟨rfl,hb7⟩
  refine ⟨_,rfl,?_⟩
  have HB7:Aside0 (Below w.heap.size w w7):=⟨HBD.out.trans (hb7.mono HBD.out.size)⟩
  have K47:=Aside0.mk ((hb7.block _ (blk_lt (show W6.drew.heap[b4]?=_ from K4.out))).trans K4.out)
  clear hb7
  have e0:=bl_cell HB7.out C1.out
  have e1:w7.cell? ⟨b4,1,none⟩=some (.string x.name):=(blk_cell K47.out 1).trans rfl
  have e2:=pMap_look x.name (pMap_below HMP.out HB7.out) HMO.out (by have:=HSX.out.name;omega)
  refine hK.out _ _ ⟨e0,e1,e2⟩ (fun hHeld => ?_)
  clear hK K
  refine norm_ (a':=?_) ?_ ?_
  rotate_left
  ·show Act.put _ (some 27) _=_
   simp only [Act.put,List.setIfInBounds_toArray,List.set_cons_zero,List.set_cons_succ,i64_w,i32_w]
   rfl
  refine pure_ (i:=13) (N:=some 28) (v:=?_) (a':=?_) #[true,true,true,true,true,true,true,true,true,true,true,true,true,true,false] rfl rfl (by kernel_rfl) (fun _ _ _ h => h) (Or.inl ⟨by rfl,?_⟩) ?_ ?_
  rotate_left
  ·intro w'
   go_simp
   with_reducible rfl
  rotate_left
  ·simp only [Act.put,List.setIfInBounds_toArray,List.set_cons_zero,List.set_cons_succ,i64_w,i32_w]
   rfl
  refine pure_ (i:=14) (N:=some 29) (v:=?_) (a':=?_) #[true,true,true,true,true,true,true,true,true,true,true,true,true,true,true] rfl rfl (by kernel_rfl) (fun _ _ _ h => h) (Or.inl ⟨by rfl,?_⟩) ?_ ?_
  rotate_left
  ·intro w'
   go_simp
   with_reducible rfl
  rotate_left
  ·simp only [Act.put,List.setIfInBounds_toArray,List.set_cons_zero,List.set_cons_succ,i64_w,i32_w]
   rfl
  refine done_ (by kernel_rfl) ?_
  clear hHeld d0 d1 d2 e0 e1 e2 K4 K47 HBD HB6
  have hr:=HR2.out
  cases ht:typedV x.name with
  | false =>
   rw [ht] at hr
   simp only [Bool.false_eq_true,if_false] at hr
   subst hr
   clear HR2
   go_wp2
   go_ret
   exact ⟨rfl,HB7.out⟩
  | true =>
   rw [ht,if_pos rfl] at hr
   have HR3:=Aside0.mk hr
   clear HR2 hr
   go_wp2
   go_roundw
   case measure => rw [intOf_i64,intOf_i64];exact fewerN HX.out HN.out
   case rel => exact ⟨i + 1,congrArg (Value.int .i64) (wrapS HX.out HN.out),⟨HX.out⟩,HR3,HB7⟩
end Go.Proofs.YtoonhpcjcimecaaDoor.Px
namespace Go.Proofs.YtoonhpcjcimecaaDoor.Px
open Go.RowKit Go.Maps Go.Proofs.YtoonhpcjcimecaaDoorW.PrintWords Go.Proofs.YtoonhpcjcimecaaDoorW.PrintLast Go.Proofs.YtoonhpcjcimecaaDoorW.PrintMore
set_option linter.unusedVariables false
set_option linter.unusedSimpArgs false
abbrev sBegin:ByteArray:=⟨#[60,105,110,105,116,62]⟩
abbrev sNone:ByteArray:=⟨#[40,41,86]⟩
abbrev sObject:ByteArray:=⟨#[79,98,106,101,99,116]⟩
abbrev sWait:ByteArray:=⟨#[119,97,105,116]⟩
abbrev sNotify:ByteArray:=⟨#[110,111,116,105,102,121]⟩
abbrev sNotifyAll:ByteArray:=⟨#[110,111,116,105,102,121,65,108,108]⟩
abbrev sThrowable:ByteArray:=⟨#[84,104,114,111,119,97,98,108,101]⟩
abbrev sThread:ByteArray:=⟨#[84,104,114,101,97,100]⟩
abbrev sStart:ByteArray:=⟨#[115,116,97,114,116]⟩
abbrev sJoin:ByteArray:=⟨#[106,111,105,110]⟩
abbrev sRun:ByteArray:=⟨#[114,117,110]⟩
abbrev sSys:ByteArray:=⟨#[83,121,115]⟩
abbrev sRead:ByteArray:=⟨#[114,101,97,100]⟩
abbrev sRetI:ByteArray:=⟨#[40,41,73]⟩
abbrev sClock:ByteArray:=⟨#[99,108,111,99,107]⟩
abbrev sRetJ:ByteArray:=⟨#[40,41,74]⟩
abbrev sWrite:ByteArray:=⟨#[119,114,105,116,101]⟩
abbrev sTakeJ:ByteArray:=⟨#[40,74,41,86]⟩
abbrev sNullError:ByteArray:=⟨#[78,117,108,108,69,114,114,111,114]⟩
abbrev sBoundsError:ByteArray:=⟨#[66,111,117,110,100,115,69,114,114,111,114]⟩
abbrev sCastError:ByteArray:=⟨#[67,97,115,116,69,114,114,111,114]⟩
abbrev sDivError:ByteArray:=⟨#[68,105,118,69,114,114,111,114]⟩
abbrev sOwnerError:ByteArray:=⟨#[79,119,110,101,114,69,114,114,111,114]⟩
abbrev sMemoryError:ByteArray:=⟨#[77,101,109,111,114,121,69,114,114,111,114]⟩
abbrev sDepthError:ByteArray:=⟨#[68,101,112,116,104,69,114,114,111,114]⟩
abbrev sSizeError:ByteArray:=⟨#[83,105,122,101,69,114,114,111,114]⟩
abbrev sStoreError:ByteArray:=⟨#[83,116,111,114,101,69,114,114,111,114]⟩
abbrev mFirst:Mem:=⟨sBegin,sNone,false⟩
def errL:List ByteArray:=[sNullError,sBoundsError,sCastError,sDivError,sOwnerError,sMemoryError,sDepthError,sSizeError,sStoreError]
abbrev mObject:List Mem:=[mFirst,⟨sWait,sNone,false⟩,⟨sNotify,sNone,false⟩,⟨sNotifyAll,sNone,false⟩]
abbrev mThread:List Mem:=[mFirst,⟨sStart,sNone,false⟩,⟨sJoin,sNone,false⟩,⟨sRun,sNone,false⟩]
abbrev mSys:List Mem:=[⟨sRead,sRetI,true⟩,⟨sClock,sRetJ,true⟩,⟨sWrite,sTakeJ,true⟩]
def builtB:List Bi:=[⟨sObject,⟨#[]⟩,mObject⟩,⟨sThrowable,sObject,[mFirst]⟩,⟨sThread,sObject,mThread⟩,⟨sSys,sObject,mSys⟩]
def builtN (i:Nat):List Src:=(builtB++(errL.take i).map (fun s => (⟨s,sThrowable,[mFirst]⟩:Bi))).map .inl
def builtV:List Src:=builtN 9
theorem builtV_len:builtV.length=13:=rfl
theorem Reps_cons {α:Type} {R:α→List Value→Prop} {size:Nat} {ps:List α} {cs c:List Value} {q:α} (hp:R q c) (hc:c.length=size) (h:Reps R size ps cs):Reps R size (q :: ps) (c++cs):=by
 have h1:Reps R size [q] c:=⟨by rw [hc];simp,fun j x hj => by
  cases j with
  | zero =>
   simp only [List.getElem?_cons_zero,Option.some.injEq] at hj
   subst hj
   rw [Nat.zero_mul,List.drop_zero,List.take_of_length_le (by omega)]
   exact hp
  | succ j => simp at hj⟩
 exact Kd.reps_append h1 h
theorem mem_M (w:World) (b:Nat) (ok:Nat→Prop) (x:Mem):kMem.M w b ok x [.string x.f0,.string x.f1,.bool x.f2]:=k86_mkM _ _ _ _
theorem bi_M {w:World} {b:Nat} {ok:Nat→Prop} {x:Bi} {v:Value} (h:kMem.R 86 w b ok v x.l):kSrc.M w b ok (.inl x) [.iface 88 (.agg #[.string x.name,.string x.super,v])] :=
 ⟨[.string x.name,.string x.super,v],⟨[.string x.name],[.string x.super,v],rfl,rfl,⟨[.string x.super],[v],rfl,rfl,⟨v,rfl,h⟩⟩⟩,rfl⟩
theorem infoSrc:(Tryd.prog.info? 58).map (fun i => (i.zero,i.size,i.bytes))=some (some .nilIface,1,16):=by kernel_rfl
theorem builtN_len (i:Nat):(builtN i).length≤13:=by
 unfold builtN
 rw [List.length_map,List.length_append,List.length_map,List.length_take]
 have:errL.length=9:=rfl
 have:builtB.length=4:=rfl
 omega
theorem builtN_succ {i:Nat} {s:ByteArray} (h:errL[i]?=some s):builtN (i + 1)=builtN i++[.inl ⟨s,sThrowable,[mFirst]⟩]:=by
 unfold builtN
 rw [List.take_add_one,h]
 simp
structure BuSt (w W:World) (gb:Nat):Prop where
 k:W.heap[gb]?=some (.cells #[.string sBegin,.string sNone,.bool false] 86 (0,0))
 B:Below w.heap.size w W
theorem BuSt.grown {w W W':World} {gb:Nat} (h:BuSt w W gb) (hg:W.grownBy W' none) (hB:Below w.heap.size w W'):BuSt w W' gb:=⟨blk_grown h.k hg (by simp),hB⟩
set_option maxHeartbeats 16000000 in
set_option maxRecDepth 100000 in
theorem link_built.calls (w:World):Calls Tryd.prog 19 #[] w fun e w' => ∃ v,e=.returned v∧Kd.R kSrc 58 w' w.heap.size (fun _ => True) v builtV∧Below w.heap.size w w':=by
 have HB:=Aside0.mk (Below.refl w.heap.size w)
 go_enter Tryd.func19,Tryd.ntmps19
 go_upto_region 2 with ((with_reducible refine gate_dst (N:=1) rfl ?_);refine box_event ?hg (N:=1) ?hd (cs:=#[.string (⟨#[]⟩:ByteArray),.string (⟨#[]⟩:ByteArray),.bool false]) (t:=86) ?hr ?_;(case hd => rfl);(case hg => rfl);(case hr => first|(go_simp;done)|(go_simp;rfl));intro gb hg w7 hbox hb;have n0_:=Aside0.mk (below_step bl_ hb);have BK:=Aside0.mk hbox;have GW:=Aside0.mk ((by rw [hg];exact (below_size bl_):w.heap.size≤gb));clear HB;have HB:=n0_;clear n0_ hb hbox hg;have z0:=(blk_cell BK.out 0).trans rfl;have z1:=(blk_cell BK.out 1).trans rfl;have z2:=(blk_cell BK.out 2).trans rfl;have y0:=blk_frozen BK.out 0;have y1:=blk_frozen BK.out 1;have y2:=blk_frozen BK.out 2)
 obtain ⟨W,hW⟩:∃ W,W=(((w7.setCell ⟨gb,0,none⟩ (.string sBegin)).setCell ⟨gb,1,none⟩ (.string sNone)).setCell ⟨gb,2,none⟩ (.bool false)):=⟨_,rfl⟩
 rw [← hW]
 have HS:Aside0 (BuSt w W gb):=⟨by rw [hW];exact st3_ BK.out,by rw [hW];exact bl_⟩
 clear hW z0 z1 z2 y0 y1 y2 BK HB GW
 have z0:=(blk_cell HS.out.k 0).trans rfl
 have z1:=(blk_cell HS.out.k 1).trans rfl
 have z2:=(blk_cell HS.out.k 2).trans rfl
 go_wp2_with (first|((with_reducible refine gate_dst (N:=10) rfl ?_);refine Kd.R_lit kMem (w0:=w) w.heap.size 86 ?hg (N:=10) ?hd (xs:=mObject) (inner:=[.string sBegin,.string sNone,.bool false,.string sWait,.string sNone,.bool false,.string sNotify,.string sNone,.bool false,.string sNotifyAll,.string sNone,.bool false]) (ok:=fun _ => True) (okp:=fun _ => False) ?hr ?hp (fun _ h => h.elim) trivial HS.out.B HS.out.B.size (by decide) ?_;(case hd => rfl);(case hg => rfl);(case hr => first|(go_simp;done)|(go_simp;rfl));(case hp => exact Reps_cons (mem_M _ _ _ _) rfl (Reps_cons (mem_M _ _ _ _) rfl (Reps_cons (mem_M _ _ _ _) rfl (Reps_cons (mem_M _ _ _ _) rfl (Reps.none _ _)))));intro v10 w10 hR hB hg _;obtain ⟨A10,c10,rfl⟩:=Kd.R_slice hR;have R10:=Aside0.mk hR;have n0_:=Aside0.mk (HS.out.grown hg hB);clear HS;have HS:=n0_;clear n0_ hR hB hg z0 z1 z2;have z0:=(blk_cell HS.out.k 0).trans rfl;have z1:=(blk_cell HS.out.k 1).trans rfl;have z2:=(blk_cell HS.out.k 2).trans rfl)|((with_reducible refine gate_dst (N:=14) rfl ?_);refine Kd.R_lit kMem (w0:=w) w.heap.size 86 ?hg (N:=14) ?hd (xs:=[mFirst]) (inner:=[.string sBegin,.string sNone,.bool false]) (ok:=fun _ => True) (okp:=fun _ => False) ?hr ?hp (fun _ h => h.elim) trivial HS.out.B HS.out.B.size (by decide) ?_;(case hd => rfl);(case hg => rfl);(case hr => first|(go_simp;done)|(go_simp;rfl));(case hp => exact Reps_cons (mem_M _ _ _ _) rfl (Reps.none _ _));intro v14 w14 hR hB hg _;obtain ⟨A14,c14,rfl⟩:=Kd.R_slice hR;have R14:=Aside0.mk hR;have n0_:=Aside0.mk (HS.out.grown hg hB);clear HS;have HS:=n0_;have n1_:=Aside0.mk (Kd.R_grown R10.out hg (fun _ _ => by simp));clear R10;have R10:=n1_;clear n1_;clear n0_ hR hB hg z0 z1 z2;have z0:=(blk_cell HS.out.k 0).trans rfl;have z1:=(blk_cell HS.out.k 1).trans rfl;have z2:=(blk_cell HS.out.k 2).trans rfl)|((with_reducible refine gate_dst (N:=21) rfl ?_);refine Kd.R_lit kMem (w0:=w) w.heap.size 86 ?hg (N:=21) ?hd (xs:=mThread) (inner:=[.string sBegin,.string sNone,.bool false,.string sStart,.string sNone,.bool false,.string sJoin,.string sNone,.bool false,.string sRun,.string sNone,.bool false]) (ok:=fun _ => True) (okp:=fun _ => False) ?hr ?hp (fun _ h => h.elim) trivial HS.out.B HS.out.B.size (by decide) ?_;(case hd => rfl);(case hg => rfl);(case hr => first|(go_simp;done)|(go_simp;rfl));(case hp => exact Reps_cons (mem_M _ _ _ _) rfl (Reps_cons (mem_M _ _ _ _) rfl (Reps_cons (mem_M _ _ _ _) rfl (Reps_cons (mem_M _ _ _ _) rfl (Reps.none _ _)))));intro v21 w21 hR hB hg _;obtain ⟨A21,c21,rfl⟩:=Kd.R_slice hR;have R21:=Aside0.mk hR;have n0_:=Aside0.mk (HS.out.grown hg hB);clear HS;have HS:=n0_;have n1_:=Aside0.mk (Kd.R_grown R10.out hg (fun _ _ => by simp));clear R10;have R10:=n1_;clear n1_;have n1_:=Aside0.mk (Kd.R_grown R14.out hg (fun _ _ => by simp));clear R14;have R14:=n1_;clear n1_;clear n0_ hR hB hg z0 z1 z2;have z0:=(blk_cell HS.out.k 0).trans rfl;have z1:=(blk_cell HS.out.k 1).trans rfl;have z2:=(blk_cell HS.out.k 2).trans rfl)|((with_reducible refine gate_dst (N:=27) rfl ?_);refine Kd.R_lit kMem (w0:=w) w.heap.size 86 ?hg (N:=27) ?hd (xs:=mSys) (inner:=[.string sRead,.string sRetI,.bool true,.string sClock,.string sRetJ,.bool true,.string sWrite,.string sTakeJ,.bool true]) (ok:=fun _ => True) (okp:=fun _ => False) ?hr ?hp (fun _ h => h.elim) trivial HS.out.B HS.out.B.size (by decide) ?_;(case hd => rfl);(case hg => rfl);(case hr => first|(go_simp;done)|(go_simp;rfl));(case hp => exact Reps_cons (mem_M _ _ _ _) rfl (Reps_cons (mem_M _ _ _ _) rfl (Reps_cons (mem_M _ _ _ _) rfl (Reps.none _ _))));intro v27 w27 hR hB hg _;obtain ⟨A27,c27,rfl⟩:=Kd.R_slice hR;have R27:=Aside0.mk hR;have n0_:=Aside0.mk (HS.out.grown hg hB);clear HS;have HS:=n0_;have n1_:=Aside0.mk (Kd.R_grown R10.out hg (fun _ _ => by simp));clear R10;have R10:=n1_;clear n1_;have n1_:=Aside0.mk (Kd.R_grown R14.out hg (fun _ _ => by simp));clear R14;have R14:=n1_;clear n1_;have n1_:=Aside0.mk (Kd.R_grown R21.out hg (fun _ _ => by simp));clear R21;have R21:=n1_;clear n1_;clear n0_ hR hB hg z0 z1 z2;have z0:=(blk_cell HS.out.k 0).trans rfl;have z1:=(blk_cell HS.out.k 1).trans rfl;have z2:=(blk_cell HS.out.k 2).trans rfl)|((with_reducible refine gate_dst (N:=30) rfl ?_);refine Kd.R_lit kSrc (w0:=w) w.heap.size 58 ?hg (N:=30) ?hd (xs:=builtN 0) (inner:=[.iface 88 (.agg #[.string sObject,.string (⟨#[]⟩:ByteArray),.slice A10 mObject.length c10]),.iface 88 (.agg #[.string sThrowable,.string sObject,.slice A14 [mFirst].length c14]),.iface 88 (.agg #[.string sThread,.string sObject,.slice A21 mThread.length c21]),.iface 88 (.agg #[.string sSys,.string sObject,.slice A27 mSys.length c27])]) (ok:=fun _ => True) (okp:=fun _ => True) ?hr ?hp (fun _ h => h) trivial HS.out.B HS.out.B.size (by decide) ?_;(case hd => rfl);(case hg => rfl);(case hr => first|(go_simp;done)|(go_simp;rfl));(case hp => exact Reps.one (bi_M R10.out) (Reps.one (bi_M R14.out) (Reps.one (bi_M R21.out) (Reps.one (bi_M R27.out) (Reps.none _ _)))));intro v30 w30 hR hB hg _;obtain ⟨A30,c30,rfl⟩:=Kd.R_slice hR;have R30:=Aside0.mk hR;have n0_:=Aside0.mk (HS.out.grown hg hB);clear HS;have HS:=n0_;clear n0_ hR hB hg z0 z1 z2 R10 R14 R21 R27;have z0:=(blk_cell HS.out.k 0).trans rfl;have z1:=(blk_cell HS.out.k 1).trans rfl;have z2:=(blk_cell HS.out.k 2).trans rfl))
 clear z0 z1 z2
 go_loopw [2,32] (fun v2 v32 wr => ∃ (A:Option Addr) (c i:Nat),v2=.slice A (builtN i).length c∧v32=.int .i64 (i:Int)∧Aside0 (i≤9)∧Aside0 (Kd.R kSrc 58 wr w.heap.size (fun _ => True) (.slice A (builtN i).length c) (builtN i))∧Aside0 (BuSt w wr gb)) (fun _ v32 _ => (9 - intOf v32).toNat)
 case atStart => exact ⟨A30,c30,0,rfl,rfl,⟨by decide⟩,R30,HS⟩
 case round =>
  clear HS R30
  obtain ⟨A,c,i,rfl,rfl,HI,HR,HS⟩:=hrel
  by_cases hx:(i:Int) < 9
  ·have hpx:decide ((i:Int) < 9)=true:=decide_eq_true hx
   have hpn:i < 9:=by omega
   obtain ⟨s,hs⟩:∃ s,errL[i]?=some s:=⟨errL[i]'(by show i < 9;exact hpn),List.getElem?_eq_getElem (by show i < 9;exact hpn)⟩
   have hidx:∀ W:World,(Instr.index 89 (.agg #[.string sNullError,.string sBoundsError,.string sCastError,.string sDivError,.string sOwnerError,.string sMemoryError,.string sDepthError,.string sSizeError,.string sStoreError]) (.int .i64 (i:Int))).run Tryd.prog W=.ok (.string s) W:=by
    intro W
    obtain rfl|rfl|rfl|rfl|rfl|rfl|rfl|rfl|rfl:i=0 ∨ i=1 ∨ i=2 ∨ i=3 ∨ i=4 ∨ i=5 ∨ i=6 ∨ i=7 ∨ i=8:=by omega
    all_goals
     obtain rfl:=Option.some.inj hs
     kernel_rfl
   have HX:=Aside0.mk hpn
   have HES:=Aside0.mk hs
   have z0:=(blk_cell HS.out.k 0).trans rfl
   have z1:=(blk_cell HS.out.k 1).trans rfl
   have z2:=(blk_cell HS.out.k 2).trans rfl
   clear hs hx
   go_wp2_with (first|((with_reducible refine gate_dst (N:=38) rfl ?_);refine Kd.R_lit kMem (w0:=w) w.heap.size 86 ?hg (N:=38) ?hd (xs:=[mFirst]) (inner:=[.string sBegin,.string sNone,.bool false]) (ok:=(fun k => True∧some k ≠ (Value.slice A (builtN i).length c).ownBlock)) (okp:=fun _ => False) ?hr ?hp (fun _ h => h.elim) (by obtain ⟨_,ho⟩:=Kd.R_own HR.out;exact ⟨trivial,fun e => absurd (own_lt ho _ e.symm) (Nat.lt_irrefl _)⟩) HS.out.B HS.out.B.size (by decide) ?_;(case hd => rfl);(case hg => rfl);(case hr => first|(go_simp;done)|(go_simp;rfl));(case hp => exact Reps_cons (mem_M _ _ _ _) rfl (Reps.none _ _));intro v38 w38 hR hB hg _;obtain ⟨A38,c38,rfl⟩:=Kd.R_slice hR;have R38:=Aside0.mk hR;have n0_:=Aside0.mk (HS.out.grown hg hB);have n1_:=Aside0.mk (Kd.R_grown HR.out hg (fun _ _ => by simp));clear HS HR;have HS:=n0_;have HR:=n1_;clear n0_ n1_ hR hB hg z0 z1 z2)|(at_builtin;refine Kd.R_append kSrc (w0:=w) w.heap.size rfl (.tmp 35) (.tmp 41) 55 58 .nilIface 16 rfl Tryd.underlying55 infoSrc rfl (by decide) (by omega) (.slice A (builtN i).length c) (builtN i) (.inl ⟨s,sThrowable,[mFirst]⟩) [.iface 88 (.agg #[.string s,.string sThrowable,.slice A38 [mFirst].length c38])] (fun _ => True) (fun k => True∧some k ≠ (Value.slice A (builtN i).length c).ownBlock) rfl rfl (bi_M R38.out) (fun _ h => h) (fun _ _ => trivial) HR.out HS.out.B HS.out.B.size ?aL ?_))
   case aL => have:=HX.out;have h13:=builtN_len i;omega
   intro v1 w5 hR5 hB5 hg5 ho5
   obtain ⟨A5,c5,hv5⟩:=Kd.R_slice hR5
   subst hv5
   have HR5:=Aside0.mk hR5
   have HS5:Aside0 (BuSt w w5 gb):=⟨blk_grown HS.out.k hg5 (Kd.R_ne HR.out HS.out.k (by decide)),hB5⟩
   clear hR5 hB5 hg5 ho5 HR HS R38
   go_wp2
   go_roundw
   case measure =>
    rw [intOf_i64,intOf_i64]
    have h1:=HX.out
    first|omega|(unfold wrap64;omega)
   case rel =>
    have h1:=HX.out
    refine ⟨A5,c5,i + 1,by rw [builtN_succ HES.out],congrArg (Value.int .i64) (by first|omega|(unfold wrap64;omega)),⟨h1⟩,⟨by rw [builtN_succ HES.out];exact HR5.out⟩,HS5⟩
  ·have hpx:decide ((i:Int) < 9)=false:=decide_eq_false hx
   have e:i=9:=by have:=HI.out;omega
   subst e
   clear hx
   go_wp2
   go_ret
   exact ⟨_,rfl,HR.out,HS.out.B⟩
theorem link_Built.calls (w:World):Calls Tryd.prog 25 #[] w fun e w' => e=.returned (.int .i64 13)∧Below w.heap.size w w':=by
 go_enter Tryd.func25,Tryd.ntmps25
 go_wp2_with fail
 refine (link_built.calls w).mono ?_
 rintro _ w1 ⟨v,rfl,hR,hB⟩
 obtain ⟨A,c,rfl⟩:=Kd.R_slice hR
 rw [builtV_len]
 have HB:=Aside0.mk hB
 clear hR hB
 go_wp2
 go_ret
 exact ⟨rfl,HB.out⟩
end Go.Proofs.YtoonhpcjcimecaaDoor.Px
namespace Go.Proofs.YtoonhpcjcimecaaDoor.Px
open Go.RowKit Go.Maps Go.Proofs.YtoonhpcjcimecaaDoorW.PrintWords Go.Proofs.YtoonhpcjcimecaaDoorW.PrintLast Go.Proofs.YtoonhpcjcimecaaDoorW.PrintMore
set_option linter.unusedVariables false
set_option linter.unusedSimpArgs false
abbrev sMain:ByteArray:=⟨#[109,97,105,110]⟩
def startsV (L:List Ent):Bool:=if L.length=13 then false else decide (findV (rd_Ent L 13).methods sMain sNone ≥ 0) && (rd_T86 (rd_Ent L 13).methods (findV (rd_Ent L 13).methods sMain sNone)).f2
theorem findG_range (n d:ByteArray):∀ (l:List Mem) (i:Nat),findG n d l i=-1 ∨ ((i:Int)≤findG n d l i∧findG n d l i < (i:Int) + (l.length:Int))
 | [],i => .inl rfl
 | m :: l,i => by
  unfold findG
  split
  ·rw [List.length_cons];exact .inr ⟨by omega,by omega⟩
  ·rcases findG_range n d l (i + 1) with h|h
   ·exact .inl h
   ·rw [List.length_cons];exact .inr ⟨by omega,by omega⟩
theorem findV_range (l:List Mem) (n d:ByteArray):findV l n d=-1 ∨ (0≤findV l n d∧findV l n d < (l.length:Int)):=by
 have:=findG_range n d l 0
 unfold findV
 omega
set_option maxHeartbeats 16000000 in
set_option maxRecDepth 100000 in
theorem link_starts.calls {w:World} {p:Nat} {L:List Ent} (hI:IsPC w p L) (hS:SmallL L) (h13:13≤L.length) (hn:L.length≤1048576):Calls Tryd.prog 41 #[pp p] w fun e w' => e=.returned (.bool (startsV L))∧Below w.heap.size w w':=by
 obtain ⟨A,c,m,n,D,hb,hl,hK,hmp,hmo⟩:=hI.ex
 have C0:Aside0 (w.cell? ⟨p,0,none⟩=some (.slice A L.length c)):=⟨(blk_cell hb 0).trans rfl⟩
 have HS:=Aside0.mk hS
 have HN:=Aside0.mk hn
 have H13:=Aside0.mk h13
 have HK:=Aside0.mk hK
 obtain ⟨r,hr⟩:∃ r,r=startsV L:=⟨_,rfl⟩
 rw [← hr]
 unfold startsV at hr
 have HR:=Aside0.mk hr
 clear hI hS hn hb hl hK hmp hmo hr h13
 go_enter Tryd.func41,Tryd.ntmps41
 go_upto_region 1 with fail
 have HBD:Aside0 (Below w.heap.size w w.drew):=⟨below_drew (Below.refl _ _)⟩
 have d0:=bl_cell HBD.out C0.out
 refine start_ (n:=7) (S:=fun w' => w'.cell? ⟨p,0,none⟩=some (.slice A L.length c)) (ds:=[]) #[false,false,false,false,false,false,false] (by kernel_rfl) rfl rfl (d0) (fun hHeld => ?_)
 refine pure_ (i:=0) (N:=some 5) (v:=?_) (a':=?_) #[true,false,false,false,false,false,false] rfl rfl (by kernel_rfl) (fun _ _ _ h => h) (Or.inl ⟨by rfl,?_⟩) ?_ ?_
 rotate_left
 ·intro w'
  go_simp
  with_reducible rfl
 rotate_left
 ·simp only [Act.put,List.setIfInBounds_toArray,List.set_cons_zero,List.set_cons_succ,i64_w,i32_w]
  rfl
 refine pure_ (i:=1) (N:=some 6) (v:=?_) (a':=?_) #[true,true,false,false,false,false,false] rfl rfl (by kernel_rfl) (fun _ _ _ h => h) (Or.inl ⟨by rfl,?_⟩) ?_ ?_
 rotate_left
 ·intro w'
  go_simp
  with_reducible rfl
 rotate_left
 ·simp only [Act.put,List.setIfInBounds_toArray,List.set_cons_zero,List.set_cons_succ,i64_w,i32_w]
  rfl
 refine pure_ (i:=2) (N:=some 7) (v:=?_) (a':=?_) #[true,true,true,false,false,false,false] rfl rfl (by kernel_rfl) (fun _ _ _ h => h) (Or.inl ⟨by rfl,?_⟩) ?_ ?_
 rotate_left
 ·intro w'
  go_simp
  with_reducible rfl
 rotate_left
 ·simp only [Act.put,List.setIfInBounds_toArray,List.set_cons_zero,List.set_cons_succ,i64_w,i32_w]
  rfl
 refine take_ (i:=3) (N:=some 8) (v:=?_) (a':=?_) #[true,true,true,true,false,false,false] rfl rfl (by kernel_rfl) (fun _ _ _ h => h) (Or.inl ⟨by rfl,?_⟩) hHeld ?_ ?_
 rotate_left
 ·intro w' s0
  go_simp
  with_reducible rfl
 rotate_left
 ·simp only [Act.put,List.setIfInBounds_toArray,List.set_cons_zero,List.set_cons_succ,i64_w,i32_w]
  rfl
 refine pure_ (i:=4) (N:=some 9) (v:=?_) (a':=?_) #[true,true,true,true,true,false,false] rfl rfl (by kernel_rfl) (fun _ _ _ h => h) (Or.inl ⟨by rfl,?_⟩) ?_ ?_
 rotate_left
 ·intro w'
  go_simp
  with_reducible rfl
 rotate_left
 ·simp only [Act.put,List.setIfInBounds_toArray,List.set_cons_zero,List.set_cons_succ,i64_w,i32_w]
  rfl
 refine one_ (i:=5) (N:=some 10) #[true,true,true,true,true,true,false] rfl rfl (by kernel_rfl) (by decide) (fun K hK => ?_)
 refine goes_ Tryd.func25 (by kernel_rfl) rfl #[] (by rfl) rfl rfl (by simp) ?_
 refine (link_Built.calls w.drew).mono ?_
 rintro _ w1 ⟨rfl,hb1⟩
 refine ⟨_,rfl,?_⟩
 have HB1:Aside0 (Below w.heap.size w w1):=⟨HBD.out.trans (hb1.mono HBD.out.size)⟩
 clear hb1
 have e0:=bl_cell HB1.out C0.out
 refine hK.out _ _ (e0) (fun hHeld => ?_)
 clear hK K
 refine norm_ (a':=?_) ?_ ?_
 rotate_left
 ·show Act.put _ (some 10) _=_
  simp only [Act.put,List.setIfInBounds_toArray,List.set_cons_zero,List.set_cons_succ,i64_w,i32_w]
  rfl
 refine pure_ (i:=6) (N:=some 11) (v:=?_) (a':=?_) #[true,true,true,true,true,true,true] rfl rfl (by kernel_rfl) (fun _ _ _ h => h) (Or.inl ⟨by rfl,?_⟩) ?_ ?_
 rotate_left
 ·intro w'
  go_simp
  with_reducible rfl
 rotate_left
 ·simp only [Act.put,List.setIfInBounds_toArray,List.set_cons_zero,List.set_cons_succ,i64_w,i32_w]
  rfl
 refine done_ (by kernel_rfl) ?_
 clear hHeld d0 e0 HBD
 have hr:=HR.out
 by_cases h:L.length=13
 case pos =>
  rw [if_pos h] at hr
  subst hr
  have hb:((L.length:Int)==13)=true:=by rw [h];rfl
  clear HR
  go_wp2
  go_ret
  exact ⟨rfl,HB1.out⟩
 rw [if_neg h] at hr
 have hb:((L.length:Int)==13)=false:=beq_eq_false_iff_ne.mpr (by omega)
 have HX:=Aside0.mk (show (13:Int) < (L.length:Int) by have:=H13.out;omega)
 have HR2:=Aside0.mk hr
 clear HR hr h
 go_upto_region 3 with fail
 clear hb
 have HBD:Aside0 (Below w.heap.size w w1.drew):=⟨below_drew HB1.out⟩
 have d0:=bl_cell HBD.out C0.out
 obtain ⟨ad,s,A3,c3,A4,c4,e1,hE⟩:=at_Ent HK.out 13 (by decide) HX.out
 subst e1
 have HE:=Aside0.mk hE
 have d1:w1.drew.cell? ⟨ad.block,ad.off + 91 + 4,none⟩=some (.slice A4 (rd_Ent L 13).methods.length c4):=bl_cell HBD.out hE.e4
 have q1:((13:Int) < (L.length:Int))=True:=eq_true HX.out
 have q2:(13 < L.length)=True:=eq_true (by have:=HX.out;omega)
 clear hE
 refine start_ (n:=9) (S:=fun w' => w'.cell? ⟨p,0,none⟩=some (.slice (some ad) L.length c)∧w'.cell? ⟨ad.block,ad.off + 91 + 4,none⟩=some (.slice A4 (rd_Ent L 13).methods.length c4)) (ds:=[]) #[false,false,false,false,false,false,false,false,false] (by kernel_rfl) rfl rfl ⟨d0,d1⟩ (fun hHeld => ?_)
 refine pure_ (i:=0) (N:=some 12) (v:=?_) (a':=?_) #[true,false,false,false,false,false,false,false,false] rfl rfl (by kernel_rfl) (fun _ _ _ h => h) (Or.inl ⟨by rfl,?_⟩) ?_ ?_
 rotate_left
 ·intro w'
  go_simp
  with_reducible rfl
 rotate_left
 ·simp only [Act.put,List.setIfInBounds_toArray,List.set_cons_zero,List.set_cons_succ,i64_w,i32_w]
  rfl
 refine pure_ (i:=1) (N:=some 13) (v:=?_) (a':=?_) #[true,true,false,false,false,false,false,false,false] rfl rfl (by kernel_rfl) (fun _ _ _ h => h) (Or.inl ⟨by rfl,?_⟩) ?_ ?_
 rotate_left
 ·intro w'
  go_simp
  with_reducible rfl
 rotate_left
 ·simp only [Act.put,List.setIfInBounds_toArray,List.set_cons_zero,List.set_cons_succ,i64_w,i32_w]
  rfl
 refine pure_ (i:=2) (N:=some 14) (v:=?_) (a':=?_) #[true,true,true,false,false,false,false,false,false] rfl rfl (by kernel_rfl) (fun _ _ _ h => h) (Or.inl ⟨by rfl,?_⟩) ?_ ?_
 rotate_left
 ·intro w'
  go_simp
  with_reducible rfl
 rotate_left
 ·simp only [Act.put,List.setIfInBounds_toArray,List.set_cons_zero,List.set_cons_succ,i64_w,i32_w]
  rfl
 refine take_ (i:=3) (N:=some 15) (v:=?_) (a':=?_) #[true,true,true,true,false,false,false,false,false] rfl rfl (by kernel_rfl) (fun _ _ _ h => h) (Or.inl ⟨by rfl,?_⟩) hHeld ?_ ?_
 rotate_left
 ·rintro w' ⟨s0,s1⟩
  go_simp
  with_reducible rfl
 rotate_left
 ·simp only [Act.put,List.setIfInBounds_toArray,List.set_cons_zero,List.set_cons_succ,i64_w,i32_w]
  rfl
 refine one_ (i:=4) (N:=some 16) #[true,true,true,true,true,false,false,false,false] rfl rfl (by kernel_rfl) (by decide) (fun K hK => ?_)
 refine goes_ Tryd.func25 (by kernel_rfl) rfl #[] (by rfl) rfl rfl (by simp) ?_
 refine (link_Built.calls w1.drew).mono ?_
 rintro _ w2 ⟨rfl,hb1⟩
 refine ⟨_,rfl,?_⟩
 have HB2:Aside0 (Below w.heap.size w w2):=⟨HBD.out.trans (hb1.mono HBD.out.size)⟩
 clear hb1
 have e0:=bl_cell HB2.out C0.out
 have e1:w2.cell? ⟨ad.block,ad.off + 91 + 4,none⟩=some (.slice A4 (rd_Ent L 13).methods.length c4):=bl_cell HB2.out HE.out.e4
 refine hK.out _ _ ⟨e0,e1⟩ (fun hHeld => ?_)
 clear hK K
 refine norm_ (a':=?_) ?_ ?_
 rotate_left
 ·show Act.put _ (some 16) _=_
  simp only [Act.put,List.setIfInBounds_toArray,List.set_cons_zero,List.set_cons_succ,i64_w,i32_w]
  rfl
 refine pure_ (i:=5) (N:=some 17) (v:=?_) (a':=?_) #[true,true,true,true,true,true,false,false,false] rfl rfl (by kernel_rfl) (fun _ _ _ h => h) (Or.inl ⟨by rfl,?_⟩) ?_ ?_
 rotate_left
 ·intro w'
  go_simp
  with_reducible rfl
 rotate_left
 ·simp only [Act.put,List.setIfInBounds_toArray,List.set_cons_zero,List.set_cons_succ,i64_w,i32_w]
  rfl
 refine pure_ (i:=6) (N:=some 18) (v:=?_) (a':=?_) #[true,true,true,true,true,true,true,false,false] rfl rfl (by kernel_rfl) (fun _ _ _ h => h) (Or.inl ⟨by rfl,?_⟩) ?_ ?_
 rotate_left
 ·intro w'
  go_simp
  with_reducible rfl
 rotate_left
 ·simp only [Act.put,List.setIfInBounds_toArray,List.set_cons_zero,List.set_cons_succ,i64_w,i32_w]
  rfl
 refine take_ (i:=7) (N:=some 19) (v:=?_) (a':=?_) #[true,true,true,true,true,true,true,true,false] rfl rfl (by kernel_rfl) (fun _ _ _ h => h) (Or.inl ⟨by rfl,?_⟩) hHeld ?_ ?_
 rotate_left
 ·rintro w' ⟨s0,s1⟩
  go_simp
  with_reducible rfl
 rotate_left
 ·simp only [Act.put,List.setIfInBounds_toArray,List.set_cons_zero,List.set_cons_succ,i64_w,i32_w]
  rfl
 refine pure_ (i:=8) (N:=some 3) (v:=?_) (a':=?_) #[true,true,true,true,true,true,true,true,true] rfl rfl (by kernel_rfl) (fun _ _ _ h => h) (Or.inl ⟨by rfl,?_⟩) ?_ ?_
 rotate_left
 ·intro w'
  go_simp
  with_reducible rfl
 rotate_left
 ·simp only [Act.put,List.setIfInBounds_toArray,List.set_cons_zero,List.set_cons_succ,i64_w,i32_w]
  rfl
 refine done_ (by kernel_rfl) ?_
 clear hHeld d0 d1 e0 e1 HBD HB1
 obtain ⟨kf,hkf⟩:=(find.ev (rd_Ent L 13).methods (HS.out _ (rd_Ent_in L 13 (by decide) HX.out)).ml sMain sNone).rounds
 have HF:=Aside0.mk hkf
 clear hkf
 go_wp2_with fail
 refine (link_find.calls kf A4 c4 (rd_Ent L 13).methods sMain sNone _ w2 (Kd.C_below HE.out.g4 HB2.out) HE.out.l4 HF.out).mono ?_
 rintro _ w3 ⟨rfl,hb3⟩
 have HB3:Aside0 (Below w.heap.size w w3):=⟨HB2.out.trans (hb3.mono HB2.out.size)⟩
 clear hb3 HF
 have hr:=HR2.out
 rcases findV_range (rd_Ent L 13).methods sMain sNone with h|⟨h0,h1⟩
 ·rw [h] at hr
  have hr2:r=false:=by rw [hr];rfl
  subst hr2
  rw [h]
  clear HR2 hr
  go_wp2
  go_ret
  exact ⟨rfl,HB3.out⟩
 ·generalize hf:findV (rd_Ent L 13).methods sMain sNone=fi at hr h0 h1
  have hb0:decide (fi ≥ 0)=true:=decide_eq_true h0
  rw [hb0,Bool.true_and] at hr
  obtain ⟨am,e2,y0,y1,y2⟩:=at_T86 HE.out.g4 fi h0 h1
  subst e2
  have y2':=bl_cell HB3.out y2
  have HR3:=Aside0.mk hr
  replace h0:=eq_true h0
  replace h1:=eq_true h1
  clear HR2 hr y0 y1 y2 hf
  go_wp2
  go_ret
  exact ⟨by rw [HR3.out];rfl,HB3.out⟩
end Go.Proofs.YtoonhpcjcimecaaDoor.Px
namespace Go.Proofs.YtoonhpcjcimecaaDoor.Px
open Go.RowKit Go.Maps Go.Proofs.YtoonhpcjcimecaaDoorW.PrintWords Go.Proofs.YtoonhpcjcimecaaDoorW.PrintLast Go.Proofs.YtoonhpcjcimecaaDoorW.PrintMore
set_option linter.unusedVariables false
set_option linter.unusedSimpArgs false
def hitV (x:Ent) (m:Mem):Bool:=decide (findV x.methods m.f0 m.f1 ≥ 0) && ((rd_T86 x.methods (findV x.methods m.f0 m.f1)).f2 != m.f2)
def ovUp (L:List Ent) (m:Mem):Nat→Int→Bool
 | 0,_ => true
 | k + 1,up => if up ≥ 0 then (if hitV (rd_Ent L up) m=true then false else ovUp L m k (rd_Ent L up).super) else true
theorem ovUp_neg (L:List Ent) (m:Mem) (k:Nat) {up:Int} (h:¬ up ≥ 0):ovUp L m k up=true:=by
 cases k with
 | zero => rfl
 | succ k => exact if_neg h
theorem ovUp_fuel {L:List Ent} {d:Int→Nat} (hC:Chain L d) (m:Mem):∀ (q k j:Nat) (a:Int),a < (L.length:Int)→dUp d a≤q→dUp d a≤k→dUp d a≤j→ovUp L m k a=ovUp L m j a:=by
 intro q
 induction q with
 | zero =>
  intro k j a _ hm _ _
  have h:¬ a ≥ 0:=fun h => by unfold dUp at hm;rw [if_pos h] at hm;omega
  rw [ovUp_neg L m k h,ovUp_neg L m j h]
 | succ q ih =>
  intro k j a ha hm hk hj
  by_cases h:0≤a
  ·have e:dUp d a=d a + 1:=if_pos h
   obtain ⟨k',rfl⟩:∃ k',k=k' + 1:=⟨k - 1,by omega⟩
   obtain ⟨j',rfl⟩:∃ j',j=j' + 1:=⟨j - 1,by omega⟩
   obtain ⟨_,u2,u3⟩:=hC.up a h ha
   have hd:dUp d (rd_Ent L a).super≤d a:=by
    unfold dUp
    split
    ·rename_i h0;have:=u3 h0;omega
    ·exact Nat.zero_le _
   simp only [ovUp]
   rw [ih k' j' _ u2 (by omega) (by omega) (by omega)]
  ·rw [ovUp_neg L m k h,ovUp_neg L m j h]
theorem ovUp_step {L:List Ent} {d:Int→Nat} (hC:Chain L d) (m:Mem) {a:Int} (h:0≤a) (ha:a < (L.length:Int)):ovUp L m (dUp d a) a=if hitV (rd_Ent L a) m=true then false else ovUp L m (dUp d (rd_Ent L a).super) (rd_Ent L a).super:=by
 obtain ⟨_,u2,u3⟩:=hC.up a h ha
 have e:dUp d a=d a + 1:=if_pos h
 have hd:dUp d (rd_Ent L a).super≤d a:=by
  unfold dUp
  split
  ·rename_i h0;have:=u3 h0;omega
  ·exact Nat.zero_le _
 rw [e]
 simp only [ovUp]
 rw [if_pos h,ovUp_fuel hC m _ (d a) (dUp d (rd_Ent L a).super) _ u2 (Nat.le_refl _) hd (Nat.le_refl _)]
def ov1 (L:List Ent) (d:Int→Nat) (s:Int) (m:Mem):Bool:=if m.f0.toList=sBegin.toList then true else ovUp L m (dUp d s) s
def ovMs (L:List Ent) (d:Int→Nat) (s:Int):List Mem→Bool
 | [] => true
 | m :: l => if ov1 L d s m=true then ovMs L d s l else false
def ovAll (L:List Ent) (d:Int→Nat):List Ent→Bool
 | [] => true
 | x :: l => if ovMs L d x.super x.methods=true then ovAll L d l else false
def overridesV (L:List Ent) (d:Int→Nat):Bool:=ovAll L d L
set_option maxHeartbeats 32000000 in
set_option maxRecDepth 100000 in
theorem link_overrides.calls {w:World} {p:Nat} {L:List Ent} {d:Int→Nat} (hI:IsPC w p L) (hS:SmallL L) (hC:Chain L d):Calls Tryd.prog 40 #[pp p] w fun e w' => e=.returned (.bool (overridesV L d))∧Below w.heap.size w w':=by
 obtain ⟨A,c,m0,n,D,hb,hl,hK,hmp,hmo⟩:=hI.ex
 have c0:w.cell? ⟨p,0,none⟩=some (.slice A L.length c):=(blk_cell hb 0).trans rfl
 have C0:=Aside0.mk c0
 have HS:=Aside0.mk hS
 have HN:=Aside0.mk hC.len
 have HC:=Aside0.mk hC
 have HK:=Aside0.mk hK
 obtain ⟨r,hr⟩:∃ r,r=overridesV L d:=⟨_,rfl⟩
 rw [← hr]
 have HR:=Aside0.mk hr
 have HB:=Aside0.mk (Below.refl w.heap.size w)
 clear hI hS hC hb hl hK hmp hmo hr
 go_enter Tryd.func40,Tryd.ntmps40
 go_wp2_with fail
 clear c0
 go_loopw [14] (fun v14 wr => ∃ i:Nat,v14=.int .i64 (i:Int)∧Aside0 (i≤L.length)∧Aside0 (r=ovAll L d (L.drop i))∧Aside0 (Below w.heap.size w wr)) (fun v14 _ => ((L.length:Int) - intOf v14).toNat)
 case atStart => exact ⟨0,rfl,⟨Nat.zero_le _⟩,⟨HR.out⟩,HB⟩
 case round =>
  clear HR HB
  obtain ⟨i,rfl,HI,HR,HB⟩:=hrel
  by_cases hx:(i:Int) < (L.length:Int)
  case neg =>
   have hpx:decide ((i:Int) < (L.length:Int))=false:=decide_eq_false hx
   have hpn:¬ i < L.length:=by omega
   have hr:=HR.out
   rw [List.drop_eq_nil_of_le (by omega)] at hr
   subst hr
   clear hx HR
   go_wp2
   go_ret
   exact ⟨rfl,HB.out⟩
  have hpx:decide ((i:Int) < (L.length:Int))=true:=decide_eq_true hx
  have hpn:i < L.length:=by omega
  have HX:=Aside0.mk hpn
  obtain ⟨x,hxx⟩:∃ x,L[i]?=some x:=⟨L[i],List.getElem?_eq_getElem hpn⟩
  have HSX:=Aside0.mk (HS.out x (List.mem_of_getElem? hxx))
  have hr:=HR.out
  rw [List.drop_eq_getElem_cons hpn,Option.some.inj ((List.getElem?_eq_getElem hpn).symm.trans hxx)] at hr
  unfold ovAll at hr
  have p1:0≤(i:Int):=by omega
  obtain ⟨ad,s,A3,c3,A4,c4,e1,hE⟩:=at_Ent HK.out (i:Int) p1 hx
  have HUP:=Aside0.mk (HC.out.up (i:Int) p1 hx)
  subst e1
  rw [rd_Ent_eq hxx] at HUP
  rw [rd_Ent_eq hxx,Int.toNat_natCast] at hE
  obtain ⟨T,sw,rfl⟩:=kSrc_iface hE.ks
  have HE:=Aside0.mk hE
  have x0:=hb_ HB hE.e0
  have x1:=hb_ HB hE.e1
  have x2:=hb_ HB hE.e2
  have x3:=hb_ HB hE.e3
  have x4:=hb_ HB hE.e4
  have x5:=hb_ HB hE.e5
  have x6:=hb_ HB hE.e6
  replace p1:=eq_true p1
  replace hx:=eq_true hx
  have HRR:=Aside0.mk hr
  clear hE hxx HR hr
  go_upto_region 4 with ((with_reducible refine gate_dst (N:=4) rfl ?_);refine box_event ?hg (N:=4) ?hd (cs:=ZEnt) (t:=71) ?hr ?_;(case hd => rfl);(case hg => rfl);(case hr => first|(go_simp;done)|(go_simp;rfl));intro b4 hg w6 hbox hb;have BKb4:=Aside0.mk hbox;have BLb4:=Aside0.mk hb;have Gb4:=Aside0.mk (show wr.heap.size≤b4 by rw [hg];exact Nat.le_refl _);clear hb hbox hg;obtain ⟨z0,z1,z2,z3,z4,z5,z6,y0,y1,y2,y3,y4,y5,y6⟩:=blk7_ BKb4.out)
  obtain ⟨W6,hW6⟩:∃ W6,W6=(((((((w6.setCell ⟨b4,0,none⟩ (.iface T sw)).setCell ⟨b4,1,none⟩ (.string x.name)).setCell ⟨b4,2,none⟩ (.int .i64 x.super)).setCell ⟨b4,3,none⟩ (.slice A3 x.fields.length c3)).setCell ⟨b4,4,none⟩ (.slice A4 x.methods.length c4)).setCell ⟨b4,5,none⟩ (.int .i64 x.slots)).setCell ⟨b4,6,none⟩ (.int .i64 x.statics)):=⟨_,rfl⟩
  rw [← hW6]
  have K4:Aside0 (W6.heap[b4]?=some (.cells #[.iface T sw,.string x.name,.int .i64 x.super,.slice A3 x.fields.length c3,.slice A4 x.methods.length c4,.int .i64 x.slots,.int .i64 x.statics] 71 (0,0))):=⟨by rw [hW6];exact st7_ BKb4.out⟩
  have HB6:Aside0 (Below w.heap.size w W6):=⟨HB.out.trans ((show Below wr.heap.size wr W6 by rw [hW6];exact be7_ BLb4.out Gb4.out _ _ _ _ _ _ _).mono HB.out.size)⟩
  have f4:W6.cell? ⟨b4,4,none⟩=some (.slice A4 x.methods.length c4):=(blk_cell K4.out 4).trans rfl
  clear hW6 BKb4 BLb4 Gb4 x0 x1 x2 x3 x4 x5 x6 z0 z1 z2 z3 z4 z5 z6 y0 y1 y2 y3 y4 y5 y6 HB
  go_wp2_with fail
  clear f4
  go_loopw [22] (fun v22 wf => ∃ j:Nat,v22=.int .i64 (j:Int)∧Aside0 (j≤x.methods.length)∧Aside0 (r=if ovMs L d x.super (x.methods.drop j)=true then ovAll L d (L.drop (i + 1)) else false)∧Aside0 (Below W6.heap.size W6 wf)) (fun v22 _ => ((x.methods.length:Int) - intOf v22).toNat)
  case atStart => exact ⟨0,rfl,⟨Nat.zero_le _⟩,⟨HRR.out⟩,⟨Below.refl _ _⟩⟩
  case round =>
   clear HRR
   obtain ⟨j,rfl,HJ,HRJ,HBJ⟩:=hrel
   have HBW:Aside0 (Below w.heap.size w wr):=⟨HB6.out.trans (HBJ.out.mono HB6.out.size)⟩
   by_cases hy:(j:Int) < (x.methods.length:Int)
   case neg =>
    have hpy:decide ((j:Int) < (x.methods.length:Int))=false:=decide_eq_false hy
    have hqn:¬ j < x.methods.length:=by omega
    have hr:=HRJ.out
    rw [List.drop_eq_nil_of_le (by omega)] at hr
    have hr1:r=ovAll L d (L.drop (i + 1)):=hr
    have HRM:=Aside0.mk hr1
    clear hy hr hr1 HRJ HJ
    go_wp2
    go_roundw
    case measure => rw [intOf_i64,intOf_i64];exact fewerN HX.out HN.out
    case rel => exact ⟨i + 1,congrArg (Value.int .i64) (wrapS HX.out HN.out),⟨HX.out⟩,HRM,HBW⟩
   have hpy:decide ((j:Int) < (x.methods.length:Int))=true:=decide_eq_true hy
   have hqn:j < x.methods.length:=by omega
   have HY:=Aside0.mk hqn
   obtain ⟨f,hff⟩:∃ f,x.methods[j]?=some f:=⟨x.methods[j],List.getElem?_eq_getElem hqn⟩
   have HSF:=Aside0.mk (HSX.out.ms f (List.mem_of_getElem? hff))
   have hr:=HRJ.out
   rw [List.drop_eq_getElem_cons hqn,Option.some.inj ((List.getElem?_eq_getElem hqn).symm.trans hff)] at hr
   unfold ovMs at hr
   have p2:0≤(j:Int):=by omega
   obtain ⟨af,e2,y0',y1',y2'⟩:=at_T86 HE.out.g4 (j:Int) p2 hy
   subst e2
   rw [rd_mem x.methods j hqn,Option.some.inj ((List.getElem?_eq_getElem hqn).symm.trans hff),Int.toNat_natCast] at y0' y1' y2'
   have q0:=hb_ HBW y0'
   have q1:=hb_ HBW y1'
   have q2:=hb_ HBW y2'
   replace p2:=eq_true p2
   replace hy:=eq_true hy
   have HRF:=Aside0.mk hr
   clear hff HRJ hr y0' y1' y2'
   go_upto_region 7 with ((with_reducible refine gate_dst (N:=6) rfl ?_);refine box_event ?hg (N:=6) ?hd (cs:=ZMem) (t:=86) ?hr ?_;(case hd => rfl);(case hg => rfl);(case hr => first|(go_simp;done)|(go_simp;rfl));intro b6 hg w7 hbox hb;have BKb6:=Aside0.mk hbox;have BLb6:=Aside0.mk hb;have Gb6:=Aside0.mk (show wr.heap.size≤b6 by rw [hg];exact Nat.le_refl _);clear hb hbox hg;obtain ⟨z0,z1,z2,y0,y1,y2⟩:=blk3_ BKb6.out)
   obtain ⟨W7,hW7⟩:∃ W7,W7=(((w7.setCell ⟨b6,0,none⟩ (.string f.f0)).setCell ⟨b6,1,none⟩ (.string f.f1)).setCell ⟨b6,2,none⟩ (.bool f.f2)):=⟨_,rfl⟩
   rw [← hW7]
   have K6:Aside0 (W7.heap[b6]?=some (.cells #[.string f.f0,.string f.f1,.bool f.f2] 86 (0,0))):=⟨by rw [hW7];exact st3_ BKb6.out⟩
   have hbb:Below wr.heap.size wr W7:=by rw [hW7];exact be3_ BLb6.out Gb6.out _ _ _
   have HJ7:Aside0 (Below W6.heap.size W6 W7):=⟨HBJ.out.trans (hbb.mono HBJ.out.size)⟩
   have HB7:Aside0 (Below w.heap.size w W7):=⟨HB6.out.trans (HJ7.out.mono HB6.out.size)⟩
   have d0:=bl_cell HB7.out C0.out
   have d1:=bl_cell HB7.out HE.out.e2
   clear hW7 BKb6 BLb6 Gb6 q0 q1 q2 z0 z1 z2 y0 y1 y2 hbb HBJ HBW
   have sb:sBegin.toList=([60,105,110,105,116,62]:List UInt8):=by rw [Lib.toList_data]
   by_cases hbg:f.f0.toList=sBegin.toList
   case pos =>
    have hqa:(f.f0.toList==sBegin.toList)=true:=beq_iff_eq.mpr hbg
    have hqc:(f.f0.toList==([60,105,110,105,116,62]:List UInt8))=true:=by rw [← sb];exact hqa
    have hqd:(f.f0.toList != ([60,105,110,105,116,62]:List UInt8))=false:=by unfold bne;rw [hqc];rfl
    have hr:=HRF.out
    have e:ov1 L d x.super f=true:=if_pos hbg
    rw [e] at hr
    have hr1:r=if ovMs L d x.super (x.methods.drop (j + 1))=true then ovAll L d (L.drop (i + 1)) else false:=hr
    have HR2:=Aside0.mk hr1
    clear hr hr1 HRF e hbg
    go_wp2_with fail
    go_loopw [7] (fun v7 wu => v7=.int .i64 x.super∧wu=W7) (fun _ _ => 0)
    case atStart => exact ⟨rfl,by first|rfl|trivial⟩
    case round =>
     obtain ⟨rfl,rfl⟩:=hrel
     have g0:wr.cell? ⟨b6,0,none⟩=some (.string f.f0):=(blk_cell K6.out 0).trans rfl
     by_cases hs0:0≤x.super
     ·have hs1:decide (x.super ≥ 0)=true:=decide_eq_true hs0
      go_wp2
      go_roundw
      case measure => rw [intOf_i64,intOf_i64];exact fewerN HY.out HSX.out.ml
      case rel => exact ⟨j + 1,congrArg (Value.int .i64) (wrapS HY.out HSX.out.ml),⟨HY.out⟩,HR2,HJ7⟩
     ·have hs1:decide (x.super ≥ 0)=false:=decide_eq_false hs0
      go_wp2
      go_roundw
      case measure => rw [intOf_i64,intOf_i64];exact fewerN HY.out HSX.out.ml
      case rel => exact ⟨j + 1,congrArg (Value.int .i64) (wrapS HY.out HSX.out.ml),⟨HY.out⟩,HR2,HJ7⟩
   have hqa:(f.f0.toList==sBegin.toList)=false:=beq_eq_false_iff_ne.mpr hbg
   have hqc:(f.f0.toList==([60,105,110,105,116,62]:List UInt8))=false:=by rw [← sb];exact hqa
   have hqd:(f.f0.toList != ([60,105,110,105,116,62]:List UInt8))=true:=by unfold bne;rw [hqc];rfl
   have HQA:=Aside0.mk hqa
   have HQC:=Aside0.mk hqc
   have HQD:=Aside0.mk hqd
   have HRG:Aside0 (r=if (if ovUp L f (dUp d x.super) x.super=true then ovMs L d x.super (x.methods.drop (j + 1)) else false)=true then ovAll L d (L.drop (i + 1)) else false):=⟨by rw [HRF.out];unfold ov1;rw [if_neg hbg]⟩
   clear hbg HRF hqa hqc hqd sb
   go_wp2_with fail
   clear d0 d1
   go_loopw [7] (fun v7 wu => ∃ u:Int,v7=.int .i64 u∧Aside0 (u < (L.length:Int))∧Aside0 (ovUp L f (dUp d x.super) x.super=ovUp L f (dUp d u) u)∧Aside0 (Below W7.heap.size W7 wu)) (fun v7 _ => dUp d (intOf v7))
   case atStart => exact ⟨x.super,rfl,⟨HUP.out.2.1⟩,⟨rfl⟩,⟨Below.refl _ _⟩⟩
   case round =>
    obtain ⟨u,rfl,HU,HO,HBU⟩:=hrel
    have hqa:=HQA.out
    have hqc:=HQC.out
    have hqd:=HQD.out
    have HWU:Aside0 (Below w.heap.size w wr):=⟨HB7.out.trans (HBU.out.mono HB7.out.size)⟩
    have K6u:=Aside0.mk ((HBU.out.block _ (blk_lt K6.out)).trans K6.out)
    have g0:wr.cell? ⟨b6,0,none⟩=some (.string f.f0):=(blk_cell K6u.out 0).trans rfl
    by_cases hs0:0≤u
    case neg =>
     have hs1:decide (u ≥ 0)=false:=decide_eq_false hs0
     have hr:=HRG.out
     rw [HO.out,ovUp_neg L f _ hs0] at hr
     have hr1:r=if ovMs L d x.super (x.methods.drop (j + 1))=true then ovAll L d (L.drop (i + 1)) else false:=hr
     have HR2:=Aside0.mk hr1
     have HJU:Aside0 (Below W6.heap.size W6 wr):=⟨HJ7.out.trans (HBU.out.mono HJ7.out.size)⟩
     clear hr hr1
     go_wp2
     go_roundw
     case measure => rw [intOf_i64,intOf_i64];exact fewerN HY.out HSX.out.ml
     case rel => exact ⟨j + 1,congrArg (Value.int .i64) (wrapS HY.out HSX.out.ml),⟨HY.out⟩,HR2,HJU⟩
    have hs1:decide (u ≥ 0)=true:=decide_eq_true hs0
    have HP:=Aside0.mk hs0
    obtain ⟨ae,s2,B3,d3,B4,d4,e3,hE2⟩:=at_Ent HK.out u hs0 HU.out
    have e4:ae=ad:=by injection e3 with e3;exact e3.symm
    subst e4
    have HE2:=Aside0.mk hE2
    have HUU:=Aside0.mk (HC.out.up u hs0 HU.out)
    have hsm:=HS.out _ (rd_Ent_in L u hs0 HU.out)
    have HSU:=Aside0.mk hsm
    obtain ⟨kn,hkn⟩:=(find.ev (rd_Ent L u).methods hsm.ml f.f0 f.f1).rounds
    have HKN:=Aside0.mk hkn
    have hs2:=eq_true hs0
    have hs3:=eq_true HU.out
    clear hE2 hsm hkn e3
    go_upto_region 10 with fail
    clear g0
    have HWD:Aside0 (Below w.heap.size w wr.drew):=⟨below_drew HWU.out⟩
    have q0:=bl_cell HWD.out C0.out
    have q1:=bl_cell HWD.out HE2.out.e4
    have q2:wr.drew.cell? ⟨b6,0,none⟩=some (.string f.f0):=(blk_cell (show wr.drew.heap[b6]?=_ from K6u.out) 0).trans rfl
    have q3:wr.drew.cell? ⟨b6,1,none⟩=some (.string f.f1):=(blk_cell (show wr.drew.heap[b6]?=_ from K6u.out) 1).trans rfl
    refine start_ (n:=14) (S:=fun w' => w'.cell? ⟨p,0,none⟩=some (.slice (some ae) L.length c)∧w'.cell? ⟨(ae.add (u.toNat * 7)).block,(ae.add (u.toNat * 7)).off + 4,none⟩=some (.slice B4 (rd_Ent L u).methods.length d4)∧w'.cell? ⟨b6,0,none⟩=some (.string f.f0)∧w'.cell? ⟨b6,1,none⟩=some (.string f.f1)) (ds:=[]) #[false,false,false,false,false,false,false,false,false,false,false,false,false,false] (by kernel_rfl) rfl rfl ⟨q0,q1,q2,q3⟩ (fun hHeld => ?_)
    refine pure_ (i:=0) (N:=some 49) (v:=?_) (a':=?_) #[true,false,false,false,false,false,false,false,false,false,false,false,false,false] rfl rfl (by kernel_rfl) (fun _ _ _ h => h) (Or.inl ⟨by rfl,?_⟩) ?_ ?_
    rotate_left
    ·intro w'
     go_simp
     with_reducible rfl
    rotate_left
    ·simp only [Act.put,List.setIfInBounds_toArray,List.set_cons_zero,List.set_cons_succ,i64_w,i32_w]
     rfl
    refine pure_ (i:=1) (N:=some 50) (v:=?_) (a':=?_) #[true,true,false,false,false,false,false,false,false,false,false,false,false,false] rfl rfl (by kernel_rfl) (fun _ _ _ h => h) (Or.inl ⟨by rfl,?_⟩) ?_ ?_
    rotate_left
    ·intro w'
     go_simp
     with_reducible rfl
    rotate_left
    ·simp only [Act.put,List.setIfInBounds_toArray,List.set_cons_zero,List.set_cons_succ,i64_w,i32_w]
     rfl
    refine pure_ (i:=2) (N:=some 51) (v:=?_) (a':=?_) #[true,true,true,false,false,false,false,false,false,false,false,false,false,false] rfl rfl (by kernel_rfl) (fun _ _ _ h => h) (Or.inl ⟨by rfl,?_⟩) ?_ ?_
    rotate_left
    ·intro w'
     go_simp
     with_reducible rfl
    rotate_left
    ·simp only [Act.put,List.setIfInBounds_toArray,List.set_cons_zero,List.set_cons_succ,i64_w,i32_w]
     rfl
    refine pure_ (i:=4) (N:=some 53) (v:=?_) (a':=?_) #[true,true,true,false,true,false,false,false,false,false,false,false,false,false] rfl rfl (by kernel_rfl) (fun _ _ _ h => h) (Or.inl ⟨by rfl,?_⟩) ?_ ?_
    rotate_left
    ·intro w'
     go_simp
     with_reducible rfl
    rotate_left
    ·simp only [Act.put,List.setIfInBounds_toArray,List.set_cons_zero,List.set_cons_succ,i64_w,i32_w]
     rfl
    refine pure_ (i:=8) (N:=some 57) (v:=?_) (a':=?_) #[true,true,true,false,true,false,false,false,true,false,false,false,false,false] rfl rfl (by kernel_rfl) (fun _ _ _ h => h) (Or.inl ⟨by rfl,?_⟩) ?_ ?_
    rotate_left
    ·intro w'
     go_simp
     with_reducible rfl
    rotate_left
    ·simp only [Act.put,List.setIfInBounds_toArray,List.set_cons_zero,List.set_cons_succ,i64_w,i32_w]
     rfl
    refine pure_ (i:=10) (N:=some 59) (v:=?_) (a':=?_) #[true,true,true,false,true,false,false,false,true,false,true,false,false,false] rfl rfl (by kernel_rfl) (fun _ _ _ h => h) (Or.inl ⟨by rfl,?_⟩) ?_ ?_
    rotate_left
    ·intro w'
     go_simp
     with_reducible rfl
    rotate_left
    ·simp only [Act.put,List.setIfInBounds_toArray,List.set_cons_zero,List.set_cons_succ,i64_w,i32_w]
     rfl
    refine take_ (i:=3) (N:=some 52) (v:=?_) (a':=?_) #[true,true,true,true,true,false,false,false,true,false,true,false,false,false] rfl rfl (by kernel_rfl) (fun _ _ _ h => h) (Or.inl ⟨by rfl,?_⟩) hHeld ?_ ?_
    rotate_left
    ·rintro w' ⟨s0,s1,s2,s3⟩
     go_simp
     with_reducible rfl
    rotate_left
    ·simp only [Act.put,List.setIfInBounds_toArray,List.set_cons_zero,List.set_cons_succ,i64_w,i32_w]
     rfl
    refine pure_ (i:=5) (N:=some 54) (v:=?_) (a':=?_) #[true,true,true,true,true,true,false,false,true,false,true,false,false,false] rfl rfl (by kernel_rfl) (fun _ _ _ h => h) (Or.inl ⟨by rfl,?_⟩) ?_ ?_
    rotate_left
    ·intro w'
     go_simp
     with_reducible rfl
    rotate_left
    ·simp only [Act.put,List.setIfInBounds_toArray,List.set_cons_zero,List.set_cons_succ,i64_w,i32_w]
     rfl
    refine pure_ (i:=6) (N:=some 55) (v:=?_) (a':=?_) #[true,true,true,true,true,true,true,false,true,false,true,false,false,false] rfl rfl (by kernel_rfl) (fun _ _ _ h => h) (Or.inl ⟨by rfl,?_⟩) ?_ ?_
    rotate_left
    ·intro w'
     go_simp
     with_reducible rfl
    rotate_left
    ·simp only [Act.put,List.setIfInBounds_toArray,List.set_cons_zero,List.set_cons_succ,i64_w,i32_w]
     rfl
    refine take_ (i:=7) (N:=some 56) (v:=?_) (a':=?_) #[true,true,true,true,true,true,true,true,true,false,true,false,false,false] rfl rfl (by kernel_rfl) (fun _ _ _ h => h) (Or.inl ⟨by rfl,?_⟩) hHeld ?_ ?_
    rotate_left
    ·rintro w' ⟨s0,s1,s2,s3⟩
     go_simp
     with_reducible rfl
    rotate_left
    ·simp only [Act.put,List.setIfInBounds_toArray,List.set_cons_zero,List.set_cons_succ,i64_w,i32_w]
     rfl
    refine take_ (i:=9) (N:=some 58) (v:=?_) (a':=?_) #[true,true,true,true,true,true,true,true,true,true,true,false,false,false] rfl rfl (by kernel_rfl) (fun _ _ _ h => h) (Or.inl ⟨by rfl,?_⟩) hHeld ?_ ?_
    rotate_left
    ·rintro w' ⟨s0,s1,s2,s3⟩
     go_simp
     with_reducible rfl
    rotate_left
    ·simp only [Act.put,List.setIfInBounds_toArray,List.set_cons_zero,List.set_cons_succ,i64_w,i32_w]
     rfl
    refine take_ (i:=11) (N:=some 60) (v:=?_) (a':=?_) #[true,true,true,true,true,true,true,true,true,true,true,true,false,false] rfl rfl (by kernel_rfl) (fun _ _ _ h => h) (Or.inl ⟨by rfl,?_⟩) hHeld ?_ ?_
    rotate_left
    ·rintro w' ⟨s0,s1,s2,s3⟩
     go_simp
     with_reducible rfl
    rotate_left
    ·simp only [Act.put,List.setIfInBounds_toArray,List.set_cons_zero,List.set_cons_succ,i64_w,i32_w]
     rfl
    refine one_ (i:=12) (N:=some 61) #[true,true,true,true,true,true,true,true,true,true,true,true,true,false] rfl rfl (by kernel_rfl) (by decide) (fun K hK => ?_)
    refine goes_ Tryd.func45 (by kernel_rfl) rfl #[.slice B4 (rd_Ent L u).methods.length d4,.string f.f0,.string f.f1] (by rfl) rfl rfl (by simp only [List.map_toArray,List.map_cons,List.map_nil];rfl) ?_
    refine (link_find.calls kn B4 d4 (rd_Ent L u).methods f.f0 f.f1 _ wr.drew (Kd.C_below HE2.out.g4 HWD.out) HE2.out.l4 HKN.out).mono ?_
    rintro _ w8 ⟨rfl,hb8⟩
    refine ⟨_,rfl,?_⟩
    have HB8:Aside0 (Below w.heap.size w w8):=⟨HWD.out.trans (hb8.mono HWD.out.size)⟩
    have HU8:Aside0 (Below W7.heap.size W7 w8):=⟨(below_drew HBU.out).trans (hb8.mono HBU.out.size)⟩
    have K68:=Aside0.mk ((hb8.block _ (blk_lt (show wr.drew.heap[b6]?=_ from K6u.out))).trans K6u.out)
    clear hb8
    have r0:=bl_cell HB8.out C0.out
    have r1:=bl_cell HB8.out HE2.out.e4
    have r2:w8.cell? ⟨b6,0,none⟩=some (.string f.f0):=(blk_cell K68.out 0).trans rfl
    have r3:w8.cell? ⟨b6,1,none⟩=some (.string f.f1):=(blk_cell K68.out 1).trans rfl
    refine hK.out _ _ ⟨r0,r1,r2,r3⟩ (fun hHeld => ?_)
    clear hK K
    refine norm_ (a':=?_) ?_ ?_
    rotate_left
    ·show Act.put _ (some 61) _=_
     simp only [Act.put,List.setIfInBounds_toArray,List.set_cons_zero,List.set_cons_succ,i64_w,i32_w]
     rfl
    refine pure_ (i:=13) (N:=some 8) (v:=?_) (a':=?_) #[true,true,true,true,true,true,true,true,true,true,true,true,true,true] rfl rfl (by kernel_rfl) (fun _ _ _ h => h) (Or.inl ⟨by rfl,?_⟩) ?_ ?_
    rotate_left
    ·intro w'
     go_simp
     with_reducible rfl
    rotate_left
    ·simp only [Act.put,List.setIfInBounds_toArray,List.set_cons_zero,List.set_cons_succ,i64_w,i32_w]
     rfl
    refine done_ (by kernel_rfl) ?_
    clear hHeld q0 q1 q2 q3 r0 r1 r2 r3 HWD HWU HBU K6u
    have HST:=Aside0.mk (ovUp_step HC.out f HP.out HU.out)
    obtain ⟨fi,hfi⟩:∃ fi,fi=findV (rd_Ent L u).methods f.f0 f.f1:=⟨_,rfl⟩
    have HFI:=Aside0.mk hfi
    rw [← hfi]
    have hrg:=findV_range (rd_Ent L u).methods f.f0 f.f1
    rw [← hfi] at hrg
    clear hfi
    go_upto_region 11 with fail
    have HBD:Aside0 (Below w.heap.size w w8.drew):=⟨below_drew HB8.out⟩
    have HUD:Aside0 (Below W7.heap.size W7 w8.drew):=⟨below_drew HU8.out⟩
    have K6d:Aside0 (w8.drew.heap[b6]?=_):=⟨K68.out⟩
    have q0:=bl_cell HBD.out C0.out
    have q1:=bl_cell HBD.out HE2.out.e4
    have q2:w8.drew.cell? ⟨b6,2,none⟩=some (.bool f.f2):=(blk_cell K6d.out 2).trans rfl
    have HON:hitV (rd_Ent L u) f=false→ovUp L f (dUp d x.super) x.super=ovUp L f (dUp d (rd_Ent L u).super) (rd_Ent L u).super:=fun h => by
     rw [HO.out,HST.out,if_neg (by rw [h];exact Bool.false_ne_true)]
    have HRN:hitV (rd_Ent L u) f=false→r=if (if ovUp L f (dUp d (rd_Ent L u).super) (rd_Ent L u).super=true then ovMs L d x.super (x.methods.drop (j + 1)) else false)=true then ovAll L d (L.drop (i + 1)) else false:=fun h => by
     rw [HRG.out,HON h]
    have HRY:hitV (rd_Ent L u) f=true→r=false:=fun h => by
     rw [HRG.out,HO.out,HST.out,if_pos h]
     rfl
    have HRN2:=Aside0.mk HRN
    have HRY2:=Aside0.mk HRY
    have HON2:=Aside0.mk HON
    clear HRN HRY HON HST HRG HB8 HU8 K68
    rcases hrg with hm1|⟨hm0,hm1⟩
    ·have hfb:decide (fi ≥ 0)=false:=decide_eq_false (by omega)
     have HH:Aside0 (hitV (rd_Ent L u) f=false):=⟨by unfold hitV;rw [← HFI.out,hfb];rfl⟩
     refine start_ (n:=19) (S:=fun w' => w'.cell? ⟨p,0,none⟩=some (.slice (some ae) L.length c)∧w'.cell? ⟨(ae.add (u.toNat * 7)).block,(ae.add (u.toNat * 7)).off + 4,none⟩=some (.slice B4 (rd_Ent L u).methods.length d4)∧w'.cell? ⟨b6,2,none⟩=some (.bool f.f2)) (ds:=[]) #[false,false,false,false,false,false,false,false,false,false,false,false,false,false,false,false,false,false,false] (by kernel_rfl) rfl rfl ⟨q0,q1,q2⟩ (fun hHeld => ?_)
     refine pure_ (i:=0) (N:=some 62) (v:=?_) (a':=?_) #[true,false,false,false,false,false,false,false,false,false,false,false,false,false,false,false,false,false,false] rfl rfl (by kernel_rfl) (fun _ _ _ h => h) (Or.inl ⟨by rfl,?_⟩) ?_ ?_
     rotate_left
     ·intro w'
      go_simp
      with_reducible rfl
     rotate_left
     ·simp only [Act.put,List.setIfInBounds_toArray,List.set_cons_zero,List.set_cons_succ,i64_w,i32_w]
      rfl
     refine pure_ (i:=1) (N:=some 63) (v:=?_) (a':=?_) #[true,true,false,false,false,false,false,false,false,false,false,false,false,false,false,false,false,false,false] rfl rfl (by kernel_rfl) (fun _ _ _ h => h) (Or.inl ⟨by rfl,?_⟩) ?_ ?_
     rotate_left
     ·intro w'
      go_simp
      with_reducible rfl
     rotate_left
     ·simp only [Act.put,List.setIfInBounds_toArray,List.set_cons_zero,List.set_cons_succ,i64_w,i32_w]
      rfl
     refine pure_ (i:=2) (N:=some 64) (v:=?_) (a':=?_) #[true,true,true,false,false,false,false,false,false,false,false,false,false,false,false,false,false,false,false] rfl rfl (by kernel_rfl) (fun _ _ _ h => h) (Or.inl ⟨by rfl,?_⟩) ?_ ?_
     rotate_left
     ·intro w'
      go_simp
      with_reducible rfl
     rotate_left
     ·simp only [Act.put,List.setIfInBounds_toArray,List.set_cons_zero,List.set_cons_succ,i64_w,i32_w]
      rfl
     refine pure_ (i:=3) (N:=some 65) (v:=undef) (a':=?_) #[true,true,true,true,false,false,false,false,false,false,false,false,false,false,false,false,false,false,false] rfl rfl (by kernel_rfl) (fun _ _ _ h => h) (Or.inr ⟨by rfl,rfl⟩) ?_ ?_
     rotate_left
     ·simp only [Act.put,List.setIfInBounds_toArray,List.set_cons_zero,List.set_cons_succ,i64_w,i32_w]
      rfl
     refine pure_ (i:=4) (N:=some 66) (v:=undef) (a':=?_) #[true,true,true,true,true,false,false,false,false,false,false,false,false,false,false,false,false,false,false] rfl rfl (by kernel_rfl) (fun _ _ _ h => h) (Or.inr ⟨by rfl,rfl⟩) ?_ ?_
     rotate_left
     ·simp only [Act.put,List.setIfInBounds_toArray,List.set_cons_zero,List.set_cons_succ,i64_w,i32_w]
      rfl
     refine pure_ (i:=5) (N:=some 67) (v:=undef) (a':=?_) #[true,true,true,true,true,true,false,false,false,false,false,false,false,false,false,false,false,false,false] rfl rfl (by kernel_rfl) (fun _ _ _ h => h) (Or.inr ⟨by rfl,rfl⟩) ?_ ?_
     rotate_left
     ·simp only [Act.put,List.setIfInBounds_toArray,List.set_cons_zero,List.set_cons_succ,i64_w,i32_w]
      rfl
     refine pure_ (i:=6) (N:=some 68) (v:=undef) (a':=?_) #[true,true,true,true,true,true,true,false,false,false,false,false,false,false,false,false,false,false,false] rfl rfl (by kernel_rfl) (fun _ _ _ h => h) (Or.inr ⟨by rfl,rfl⟩) ?_ ?_
     rotate_left
     ·simp only [Act.put,List.setIfInBounds_toArray,List.set_cons_zero,List.set_cons_succ,i64_w,i32_w]
      rfl
     refine pure_ (i:=7) (N:=some 69) (v:=undef) (a':=?_) #[true,true,true,true,true,true,true,true,false,false,false,false,false,false,false,false,false,false,false] rfl rfl (by kernel_rfl) (fun _ _ _ h => h) (Or.inr ⟨by rfl,rfl⟩) ?_ ?_
     rotate_left
     ·simp only [Act.put,List.setIfInBounds_toArray,List.set_cons_zero,List.set_cons_succ,i64_w,i32_w]
      rfl
     refine pure_ (i:=8) (N:=some 70) (v:=undef) (a':=?_) #[true,true,true,true,true,true,true,true,true,false,false,false,false,false,false,false,false,false,false] rfl rfl (by kernel_rfl) (fun _ _ _ h => h) (Or.inr ⟨by rfl,rfl⟩) ?_ ?_
     rotate_left
     ·simp only [Act.put,List.setIfInBounds_toArray,List.set_cons_zero,List.set_cons_succ,i64_w,i32_w]
      rfl
     refine pure_ (i:=9) (N:=some 71) (v:=undef) (a':=?_) #[true,true,true,true,true,true,true,true,true,true,false,false,false,false,false,false,false,false,false] rfl rfl (by kernel_rfl) (fun _ _ _ h => h) (Or.inr ⟨by rfl,rfl⟩) ?_ ?_
     rotate_left
     ·simp only [Act.put,List.setIfInBounds_toArray,List.set_cons_zero,List.set_cons_succ,i64_w,i32_w]
      rfl
     refine pure_ (i:=10) (N:=some 72) (v:=undef) (a':=?_) #[true,true,true,true,true,true,true,true,true,true,true,false,false,false,false,false,false,false,false] rfl rfl (by kernel_rfl) (fun _ _ _ h => h) (Or.inr ⟨by rfl,rfl⟩) ?_ ?_
     rotate_left
     ·simp only [Act.put,List.setIfInBounds_toArray,List.set_cons_zero,List.set_cons_succ,i64_w,i32_w]
      rfl
     refine pure_ (i:=11) (N:=some 73) (v:=undef) (a':=?_) #[true,true,true,true,true,true,true,true,true,true,true,true,false,false,false,false,false,false,false] rfl rfl (by kernel_rfl) (fun _ _ _ h => h) (Or.inr ⟨by rfl,rfl⟩) ?_ ?_
     rotate_left
     ·simp only [Act.put,List.setIfInBounds_toArray,List.set_cons_zero,List.set_cons_succ,i64_w,i32_w]
      rfl
     refine pure_ (i:=12) (N:=some 74) (v:=undef) (a':=?_) #[true,true,true,true,true,true,true,true,true,true,true,true,true,false,false,false,false,false,false] rfl rfl (by kernel_rfl) (fun _ _ _ h => h) (Or.inr ⟨by rfl,rfl⟩) ?_ ?_
     rotate_left
     ·simp only [Act.put,List.setIfInBounds_toArray,List.set_cons_zero,List.set_cons_succ,i64_w,i32_w]
      rfl
     refine pure_ (i:=13) (N:=some 75) (v:=undef) (a':=?_) #[true,true,true,true,true,true,true,true,true,true,true,true,true,true,false,false,false,false,false] rfl rfl (by kernel_rfl) (fun _ _ _ h => h) (Or.inr ⟨by rfl,rfl⟩) ?_ ?_
     rotate_left
     ·simp only [Act.put,List.setIfInBounds_toArray,List.set_cons_zero,List.set_cons_succ,i64_w,i32_w]
      rfl
     refine pure_ (i:=14) (N:=some 76) (v:=undef) (a':=?_) #[true,true,true,true,true,true,true,true,true,true,true,true,true,true,true,false,false,false,false] rfl rfl (by kernel_rfl) (fun _ _ _ h => h) (Or.inr ⟨by rfl,rfl⟩) ?_ ?_
     rotate_left
     ·simp only [Act.put,List.setIfInBounds_toArray,List.set_cons_zero,List.set_cons_succ,i64_w,i32_w]
      rfl
     refine pure_ (i:=15) (N:=some 77) (v:=undef) (a':=?_) #[true,true,true,true,true,true,true,true,true,true,true,true,true,true,true,true,false,false,false] rfl rfl (by kernel_rfl) (fun _ _ _ h => h) (Or.inr ⟨by rfl,rfl⟩) ?_ ?_
     rotate_left
     ·simp only [Act.put,List.setIfInBounds_toArray,List.set_cons_zero,List.set_cons_succ,i64_w,i32_w]
      rfl
     refine pure_ (i:=16) (N:=some 78) (v:=undef) (a':=?_) #[true,true,true,true,true,true,true,true,true,true,true,true,true,true,true,true,true,false,false] rfl rfl (by kernel_rfl) (fun _ _ _ h => h) (Or.inr ⟨by rfl,rfl⟩) ?_ ?_
     rotate_left
     ·simp only [Act.put,List.setIfInBounds_toArray,List.set_cons_zero,List.set_cons_succ,i64_w,i32_w]
      rfl
     refine pure_ (i:=17) (N:=some 79) (v:=undef) (a':=?_) #[true,true,true,true,true,true,true,true,true,true,true,true,true,true,true,true,true,true,false] rfl rfl (by kernel_rfl) (fun _ _ _ h => h) (Or.inr ⟨by rfl,rfl⟩) ?_ ?_
     rotate_left
     ·simp only [Act.put,List.setIfInBounds_toArray,List.set_cons_zero,List.set_cons_succ,i64_w,i32_w]
      rfl
     refine pure_ (i:=18) (N:=some 80) (v:=?_) (a':=?_) #[true,true,true,true,true,true,true,true,true,true,true,true,true,true,true,true,true,true,true] rfl rfl (by kernel_rfl) (fun _ _ _ h => h) (Or.inl ⟨by rfl,?_⟩) ?_ ?_
     rotate_left
     ·intro w'
      go_simp
      with_reducible rfl
     rotate_left
     ·simp only [Act.put,List.setIfInBounds_toArray,List.set_cons_zero,List.set_cons_succ,i64_w,i32_w]
      rfl
     refine done_ (by kernel_rfl) ?_
     clear hHeld q0 q1 q2 hm1 HRY2 HRN2 HFI
     have z0:=bl_cell HBD.out C0.out
     have z2:=bl_cell HBD.out HE2.out.e2
     have z0':w8.cell? ⟨p,0,none⟩=some (.slice (some ae) L.length c):=z0
     have z2':w8.cell? ⟨(ae.add (u.toNat * 7)).block,(ae.add (u.toNat * 7)).off + 2,none⟩=some (.int .i64 (rd_Ent L u).super):=z2
     go_wp2
     go_roundw
     case measure =>
      show dUp d (rd_Ent L u).super < dUp d u
      have h1:=HP.out
      unfold dUp
      rw [if_pos h1]
      split
      ·rename_i h2;have:=HUU.out.2.2 h2;omega
      ·omega
     case rel =>
      have hA1:Aside0 ((rd_Ent L u).super < (L.length:Int)):=⟨HUU.out.2.1⟩
      have hA2:Aside0 (ovUp L f (dUp d x.super) x.super=ovUp L f (dUp d (rd_Ent L u).super) (rd_Ent L u).super):=⟨HON2.out HH.out⟩
      first|exact ⟨_,rfl,hA1,hA2,HUD⟩|exact ⟨_,_,⟨_,rfl,hA1,hA2,HUD⟩,rfl,rfl⟩|exact ⟨_,⟨_,rfl,hA1,hA2,HUD⟩,rfl⟩|(repeat (refine ⟨_,?_⟩);refine ⟨⟨_,rfl,hA1,hA2,HUD⟩,?_⟩;repeat' (first|rfl|apply And.intro))|trace_state
    ·have hfb:decide (fi ≥ 0)=true:=decide_eq_true hm0
     obtain ⟨am,e5,_,_,y2⟩:=at_T86 HE2.out.g4 fi hm0 hm1
     subst e5
     have q3:=bl_cell HBD.out y2
     have hh:hitV (rd_Ent L u) f=((rd_T86 (rd_Ent L u).methods fi).f2 != f.f2):=by unfold hitV;rw [← HFI.out,hfb];rfl
     have HHH:=Aside0.mk hh
     replace hm0:=eq_true hm0
     replace hm1:=eq_true hm1
     clear y2 hh
     refine start_ (n:=19) (S:=fun w' => w'.cell? ⟨p,0,none⟩=some (.slice (some ae) L.length c)∧w'.cell? ⟨(ae.add (u.toNat * 7)).block,(ae.add (u.toNat * 7)).off + 4,none⟩=some (.slice (some am) (rd_Ent L u).methods.length d4)∧w'.cell? ⟨b6,2,none⟩=some (.bool f.f2)∧w'.cell? ⟨(am.add (fi.toNat * 3)).block,(am.add (fi.toNat * 3)).off + 2,none⟩=some (.bool (rd_T86 (rd_Ent L u).methods fi).f2)) (ds:=[]) #[false,false,false,false,false,false,false,false,false,false,false,false,false,false,false,false,false,false,false] (by kernel_rfl) rfl rfl ⟨q0,q1,q2,q3⟩ (fun hHeld => ?_)
     refine pure_ (i:=0) (N:=some 62) (v:=?_) (a':=?_) #[true,false,false,false,false,false,false,false,false,false,false,false,false,false,false,false,false,false,false] rfl rfl (by kernel_rfl) (fun _ _ _ h => h) (Or.inl ⟨by rfl,?_⟩) ?_ ?_
     rotate_left
     ·intro w'
      go_simp
      with_reducible rfl
     rotate_left
     ·simp only [Act.put,List.setIfInBounds_toArray,List.set_cons_zero,List.set_cons_succ,i64_w,i32_w]
      rfl
     refine pure_ (i:=1) (N:=some 63) (v:=?_) (a':=?_) #[true,true,false,false,false,false,false,false,false,false,false,false,false,false,false,false,false,false,false] rfl rfl (by kernel_rfl) (fun _ _ _ h => h) (Or.inl ⟨by rfl,?_⟩) ?_ ?_
     rotate_left
     ·intro w'
      go_simp
      with_reducible rfl
     rotate_left
     ·simp only [Act.put,List.setIfInBounds_toArray,List.set_cons_zero,List.set_cons_succ,i64_w,i32_w]
      rfl
     refine pure_ (i:=2) (N:=some 64) (v:=?_) (a':=?_) #[true,true,true,false,false,false,false,false,false,false,false,false,false,false,false,false,false,false,false] rfl rfl (by kernel_rfl) (fun _ _ _ h => h) (Or.inl ⟨by rfl,?_⟩) ?_ ?_
     rotate_left
     ·intro w'
      go_simp
      with_reducible rfl
     rotate_left
     ·simp only [Act.put,List.setIfInBounds_toArray,List.set_cons_zero,List.set_cons_succ,i64_w,i32_w]
      rfl
     refine pure_ (i:=3) (N:=some 65) (v:=?_) (a':=?_) #[true,true,true,true,false,false,false,false,false,false,false,false,false,false,false,false,false,false,false] rfl rfl (by kernel_rfl) (fun _ _ _ h => h) (Or.inl ⟨by rfl,?_⟩) ?_ ?_
     rotate_left
     ·intro w'
      go_simp
      with_reducible rfl
     rotate_left
     ·simp only [Act.put,List.setIfInBounds_toArray,List.set_cons_zero,List.set_cons_succ,i64_w,i32_w]
      rfl
     refine pure_ (i:=4) (N:=some 66) (v:=?_) (a':=?_) #[true,true,true,true,true,false,false,false,false,false,false,false,false,false,false,false,false,false,false] rfl rfl (by kernel_rfl) (fun _ _ _ h => h) (Or.inl ⟨by rfl,?_⟩) ?_ ?_
     rotate_left
     ·intro w'
      go_simp
      with_reducible rfl
     rotate_left
     ·simp only [Act.put,List.setIfInBounds_toArray,List.set_cons_zero,List.set_cons_succ,i64_w,i32_w]
      rfl
     refine pure_ (i:=5) (N:=some 67) (v:=?_) (a':=?_) #[true,true,true,true,true,true,false,false,false,false,false,false,false,false,false,false,false,false,false] rfl rfl (by kernel_rfl) (fun _ _ _ h => h) (Or.inl ⟨by rfl,?_⟩) ?_ ?_
     rotate_left
     ·intro w'
      go_simp
      with_reducible rfl
     rotate_left
     ·simp only [Act.put,List.setIfInBounds_toArray,List.set_cons_zero,List.set_cons_succ,i64_w,i32_w]
      rfl
     refine pure_ (i:=7) (N:=some 69) (v:=?_) (a':=?_) #[true,true,true,true,true,true,false,true,false,false,false,false,false,false,false,false,false,false,false] rfl rfl (by kernel_rfl) (fun _ _ _ h => h) (Or.inl ⟨by rfl,?_⟩) ?_ ?_
     rotate_left
     ·intro w'
      go_simp
      with_reducible rfl
     rotate_left
     ·simp only [Act.put,List.setIfInBounds_toArray,List.set_cons_zero,List.set_cons_succ,i64_w,i32_w]
      rfl
     refine pure_ (i:=11) (N:=some 73) (v:=?_) (a':=?_) #[true,true,true,true,true,true,false,true,false,false,false,true,false,false,false,false,false,false,false] rfl rfl (by kernel_rfl) (fun _ _ _ h => h) (Or.inl ⟨by rfl,?_⟩) ?_ ?_
     rotate_left
     ·intro w'
      go_simp
      with_reducible rfl
     rotate_left
     ·simp only [Act.put,List.setIfInBounds_toArray,List.set_cons_zero,List.set_cons_succ,i64_w,i32_w]
      rfl
     refine pure_ (i:=15) (N:=some 77) (v:=?_) (a':=?_) #[true,true,true,true,true,true,false,true,false,false,false,true,false,false,false,true,false,false,false] rfl rfl (by kernel_rfl) (fun _ _ _ h => h) (Or.inl ⟨by rfl,?_⟩) ?_ ?_
     rotate_left
     ·intro w'
      go_simp
      with_reducible rfl
     rotate_left
     ·simp only [Act.put,List.setIfInBounds_toArray,List.set_cons_zero,List.set_cons_succ,i64_w,i32_w]
      rfl
     refine take_ (i:=6) (N:=some 68) (v:=?_) (a':=?_) #[true,true,true,true,true,true,true,true,false,false,false,true,false,false,false,true,false,false,false] rfl rfl (by kernel_rfl) (fun _ _ _ h => h) (Or.inl ⟨by rfl,?_⟩) hHeld ?_ ?_
     rotate_left
     ·rintro w' ⟨s0,s1,s2,s3⟩
      go_simp
      with_reducible rfl
     rotate_left
     ·simp only [Act.put,List.setIfInBounds_toArray,List.set_cons_zero,List.set_cons_succ,i64_w,i32_w]
      rfl
     refine pure_ (i:=8) (N:=some 70) (v:=?_) (a':=?_) #[true,true,true,true,true,true,true,true,true,false,false,true,false,false,false,true,false,false,false] rfl rfl (by kernel_rfl) (fun _ _ _ h => h) (Or.inl ⟨by rfl,?_⟩) ?_ ?_
     rotate_left
     ·intro w'
      go_simp
      with_reducible rfl
     rotate_left
     ·simp only [Act.put,List.setIfInBounds_toArray,List.set_cons_zero,List.set_cons_succ,i64_w,i32_w]
      rfl
     refine pure_ (i:=9) (N:=some 71) (v:=?_) (a':=?_) #[true,true,true,true,true,true,true,true,true,true,false,true,false,false,false,true,false,false,false] rfl rfl (by kernel_rfl) (fun _ _ _ h => h) (Or.inl ⟨by rfl,?_⟩) ?_ ?_
     rotate_left
     ·intro w'
      go_simp
      with_reducible rfl
     rotate_left
     ·simp only [Act.put,List.setIfInBounds_toArray,List.set_cons_zero,List.set_cons_succ,i64_w,i32_w]
      rfl
     refine take_ (i:=10) (N:=some 72) (v:=?_) (a':=?_) #[true,true,true,true,true,true,true,true,true,true,true,true,false,false,false,true,false,false,false] rfl rfl (by kernel_rfl) (fun _ _ _ h => h) (Or.inl ⟨by rfl,?_⟩) hHeld ?_ ?_
     rotate_left
     ·rintro w' ⟨s0,s1,s2,s3⟩
      go_simp
      with_reducible rfl
     rotate_left
     ·simp only [Act.put,List.setIfInBounds_toArray,List.set_cons_zero,List.set_cons_succ,i64_w,i32_w]
      rfl
     refine pure_ (i:=12) (N:=some 74) (v:=?_) (a':=?_) #[true,true,true,true,true,true,true,true,true,true,true,true,true,false,false,true,false,false,false] rfl rfl (by kernel_rfl) (fun _ _ _ h => h) (Or.inl ⟨by rfl,?_⟩) ?_ ?_
     rotate_left
     ·intro w'
      go_simp
      with_reducible rfl
     rotate_left
     ·simp only [Act.put,List.setIfInBounds_toArray,List.set_cons_zero,List.set_cons_succ,i64_w,i32_w]
      rfl
     refine pure_ (i:=13) (N:=some 75) (v:=?_) (a':=?_) #[true,true,true,true,true,true,true,true,true,true,true,true,true,true,false,true,false,false,false] rfl rfl (by kernel_rfl) (fun _ _ _ h => h) (Or.inl ⟨by rfl,?_⟩) ?_ ?_
     rotate_left
     ·intro w'
      go_simp
      with_reducible rfl
     rotate_left
     ·simp only [Act.put,List.setIfInBounds_toArray,List.set_cons_zero,List.set_cons_succ,i64_w,i32_w]
      rfl
     refine take_ (i:=14) (N:=some 76) (v:=?_) (a':=?_) #[true,true,true,true,true,true,true,true,true,true,true,true,true,true,true,true,false,false,false] rfl rfl (by kernel_rfl) (fun _ _ _ h => h) (Or.inl ⟨by rfl,?_⟩) hHeld ?_ ?_
     rotate_left
     ·rintro w' ⟨s0,s1,s2,s3⟩
      go_simp
      with_reducible rfl
     rotate_left
     ·simp only [Act.put,List.setIfInBounds_toArray,List.set_cons_zero,List.set_cons_succ,i64_w,i32_w]
      rfl
     refine take_ (i:=16) (N:=some 78) (v:=?_) (a':=?_) #[true,true,true,true,true,true,true,true,true,true,true,true,true,true,true,true,true,false,false] rfl rfl (by kernel_rfl) (fun _ _ _ h => h) (Or.inl ⟨by rfl,?_⟩) hHeld ?_ ?_
     rotate_left
     ·rintro w' ⟨s0,s1,s2,s3⟩
      go_simp
      with_reducible rfl
     rotate_left
     ·simp only [Act.put,List.setIfInBounds_toArray,List.set_cons_zero,List.set_cons_succ,i64_w,i32_w]
      rfl
     refine pure_ (i:=17) (N:=some 79) (v:=?_) (a':=?_) #[true,true,true,true,true,true,true,true,true,true,true,true,true,true,true,true,true,true,false] rfl rfl (by kernel_rfl) (fun _ _ _ h => h) (Or.inl ⟨by rfl,?_⟩) ?_ ?_
     rotate_left
     ·intro w'
      go_simp
      with_reducible rfl
     rotate_left
     ·simp only [Act.put,List.setIfInBounds_toArray,List.set_cons_zero,List.set_cons_succ,i64_w,i32_w]
      rfl
     refine pure_ (i:=18) (N:=some 80) (v:=?_) (a':=?_) #[true,true,true,true,true,true,true,true,true,true,true,true,true,true,true,true,true,true,true] rfl rfl (by kernel_rfl) (fun _ _ _ h => h) (Or.inl ⟨by rfl,?_⟩) ?_ ?_
     rotate_left
     ·intro w'
      go_simp
      with_reducible rfl
     rotate_left
     ·simp only [Act.put,List.setIfInBounds_toArray,List.set_cons_zero,List.set_cons_succ,i64_w,i32_w]
      rfl
     refine done_ (by kernel_rfl) ?_
     clear hHeld q0 q1 q2 q3 hm0 hm1 HFI
     obtain ⟨ba,hba⟩:∃ ba,ba=(rd_T86 (rd_Ent L u).methods fi).f2:=⟨_,rfl⟩
     rw [← hba] at HHH
     rw [← hba]
     clear hba
     by_cases hE:ba=f.f2
     ·have hE1:(ba==f.f2)=true:=beq_iff_eq.mpr hE
      have hE3:(!(ba==f.f2))=false:=by rw [hE1];rfl
      have hE4:(ba != f.f2)=false:=hE3
      have HH:Aside0 (hitV (rd_Ent L u) f=false):=⟨HHH.out.trans hE4⟩
      clear HRY2 HRN2 HHH
      have z0:=bl_cell HBD.out C0.out
      have z2:=bl_cell HBD.out HE2.out.e2
      have z0':w8.cell? ⟨p,0,none⟩=some (.slice (some ae) L.length c):=z0
      have z2':w8.cell? ⟨(ae.add (u.toNat * 7)).block,(ae.add (u.toNat * 7)).off + 2,none⟩=some (.int .i64 (rd_Ent L u).super):=z2
      go_wp2
      all_goals first|(exfalso;exact Bool.noConfusion (hE3.symm.trans ‹(!ba==f.f2)=true›:false=true))|skip
      go_roundw
      case measure =>
       show dUp d (rd_Ent L u).super < dUp d u
       have h1:=HP.out
       unfold dUp
       rw [if_pos h1]
       split
       ·rename_i h2;have:=HUU.out.2.2 h2;omega
       ·omega
      case rel =>
       have hA1:Aside0 ((rd_Ent L u).super < (L.length:Int)):=⟨HUU.out.2.1⟩
       have hA2:Aside0 (ovUp L f (dUp d x.super) x.super=ovUp L f (dUp d (rd_Ent L u).super) (rd_Ent L u).super):=⟨HON2.out HH.out⟩
       first|exact ⟨_,rfl,hA1,hA2,HUD⟩|exact ⟨_,_,⟨_,rfl,hA1,hA2,HUD⟩,rfl,rfl⟩|exact ⟨_,⟨_,rfl,hA1,hA2,HUD⟩,rfl⟩|(repeat (refine ⟨_,?_⟩);refine ⟨⟨_,rfl,hA1,hA2,HUD⟩,?_⟩;repeat' (first|rfl|apply And.intro))|trace_state
     ·have hE1:(ba==f.f2)=false:=beq_eq_false_iff_ne.mpr hE
      have hE3:(!(ba==f.f2))=true:=by rw [hE1];rfl
      have hE4:(ba != f.f2)=true:=hE3
      obtain rfl:=HRY2.out (HHH.out.trans hE4)
      clear HRY2 HRN2 HON2 HHH
      go_wp2
      all_goals first|(exfalso;exact Bool.noConfusion (hE3.symm.trans ‹(!ba==f.f2)=false›:true=false))|skip
      go_ret
      exact ⟨rfl,HBD.out⟩
end Go.Proofs.YtoonhpcjcimecaaDoor.Px
namespace Go.Proofs.YtoonhpcjcimecaaDoor.Px
open Go.RowKit Go.Maps Go.Proofs.YtoonhpcjcimecaaDoorW.PrintWords Go.Proofs.YtoonhpcjcimecaaDoorW.PrintLast Go.Proofs.YtoonhpcjcimecaaDoorW.PrintMore
set_option linter.unusedVariables false
set_option linter.unusedSimpArgs false
abbrev fnV (f:Nat):Value:=.func (.func f) #[] #[]
abbrev ruleA:Value:=.agg #[fnV 37,fnV 38,fnV 39,fnV 40,fnV 41]
abbrev ZRu:Array Value:=#[.nilFunc,.nilFunc,.nilFunc,.nilFunc,.nilFunc]
set_option maxHeartbeats 16000000 in
set_option maxRecDepth 100000 in
theorem link_rules.calls (w:World):Calls Tryd.prog 23 #[] w fun e w' => e=.returned ruleA∧Below w.heap.size w w':=by
 have HB:=Aside0.mk (Below.refl w.heap.size w)
 go_enter Tryd.func23,Tryd.ntmps23
 go_wp2_with ((with_reducible refine gate_dst (N:=0) rfl ?_);refine box_event ?hg (N:=0) ?hd (cs:=ZRu) (t:=67) ?hr ?_;(case hd => rfl);(case hg => rfl);(case hr => first|(go_simp;done)|(go_simp;rfl));intro b hg w1 hbox hb;have BK:=Aside0.mk hbox;have BL:=Aside0.mk hb;have GW:=Aside0.mk (show w.heap.size≤b by rw [hg];exact Nat.le_refl _);clear hb hbox hg;obtain ⟨z0,z1,z2,z3,z4,y0,y1,y2,y3,y4⟩:=blk5_ BK.out)
 refine bodyPost_ret (results_cell_row rfl _ _ b 67 _ (0,0) _ rfl (st5_ BK.out) Tryd.underlying67 rfl (by kernel_rfl)) rfl ?_
 exact ⟨rfl,below_set (below_set (below_set (below_set (below_set BL.out GW.out) GW.out) GW.out) GW.out) GW.out⟩
def ruleF (i:Nat):Nat:=match i with
 | 0 => 37
 | 1 => 38
 | 2 => 39
 | 3 => 40
 | _ => 41
theorem rule_idx (i:Nat) (hi:i < 5) (W:World):(Instr.index 67 ruleA (.int .i64 (i:Int))).run Tryd.prog W=.ok (.agg #[fnV (ruleF i)]) W:=by
 obtain rfl|rfl|rfl|rfl|rfl:i=0 ∨ i=1 ∨ i=2 ∨ i=3 ∨ i=4:=by omega
 all_goals kernel_rfl
end Go.Proofs.YtoonhpcjcimecaaDoor.Px
namespace Go.Proofs.YtoonhpcjcimecaaDoor.Px
open Go.RowKit Go.Maps Go.Proofs.YtoonhpcjcimecaaDoorW.PrintWords Go.Proofs.YtoonhpcjcimecaaDoorW.PrintLast Go.Proofs.YtoonhpcjcimecaaDoorW.PrintMore
set_option linter.unusedVariables false
set_option linter.unusedSimpArgs false
def entOf (src:Src):Ent:=⟨src,(ownV src).1,-1,fieldsS src,methodsS src,0,0⟩
theorem idxN_snoc (ns:List ByteArray) (x s:ByteArray):idxN (ns++[x]) s=match idxN ns s with
  | some i => some i
  | none => if x.data.toList=s.data.toList then some ns.length else none:=by
 unfold idxN
 rw [List.findIdx?_append]
 cases ns.findIdx? (fun x => decide (x.data.toList=s.data.toList)) with
 | some i => rfl
 | none =>
  by_cases h:x.data.toList=s.data.toList
  ·rw [if_pos h,List.findIdx?_cons,decide_eq_true h];simp
  ·rw [if_neg h,List.findIdx?_cons,decide_eq_false h];simp
theorem MapOf.there {D:DataW Unit} {ns:List ByteArray} {x:ByteArray} {i:Nat} (h:MapOf D ns) (hi:idxN ns x=some i):MapOf D (ns++[x]):=by
 intro s
 have hs:=h s
 rw [idxN_snoc]
 cases e:idxN ns s with
 | some j => rw [e] at hs;exact hs
 | none =>
  rw [e] at hs
  have hne:¬ x.data.toList=s.data.toList:=fun hx => by
   have:idxN ns x=idxN ns s:=by unfold idxN;simp only [hx]
   rw [this,e] at hi
   cases hi
  rw [if_neg hne]
  exact hs
theorem MapOf.put {D:DataW Unit} {ns:List ByteArray} {x:ByteArray} (h:MapOf D ns) (hD:IsMap D) (hkl:WideAt.IsKeyLit (keyS x)) (hi:idxN ns x=none):MapOf (D.put (keyS x) (.lit (.int .i64 (ns.length:Int)))) (ns++[x]):=by
 intro s
 have hs:=h s
 rw [idxN_snoc]
 by_cases hx:x.data.toList=s.data.toList
 ·have e:idxN ns s=none:=by
   have:idxN ns x=idxN ns s:=by unfold idxN;simp only [hx]
   rw [← this];exact hi
  have ek:keyS s=keyS x:=by unfold keyS;rw [hx]
  rw [e,if_pos hx,ek]
  exact ⟨has_put_same hD hkl _,atKey_put_same hD hkl _ _⟩
 ·have hk:keyS s ≠ keyS x:=fun e => hx (by unfold keyS at e;injection e with e;exact e.symm)
  rw [has_put_other hk,atKey_put_other hk]
  cases e:idxN ns s with
  | some j => rw [e] at hs;exact hs
  | none => rw [e] at hs;rw [if_neg hx];exact hs
theorem MapOf.nil:MapOf (.map []) []:=fun s => ⟨rfl,rfl⟩
theorem M_apart {α β:Type} {d:Kd α} {d':Kd β} {w:World} {b b' e:Nat} {ok ok':Nat→Prop} {x:α} {cs:List Value} {v:Value} {xs:List β} (h:d.M w b ok x cs) (hr:d'.R e w b' ok' v xs) (ht:∀ q,q ∈ d.E→q ≠ e):d.M w b (fun k => ok k∧some k ≠ v.ownBlock) x cs:=by
 refine d.M_mono (fun k hk => ⟨hk.1,fun he => ?_⟩) (d.M_bound h)
 obtain ⟨q,hq,cells,hc⟩:=hk.2.2.2
 obtain ⟨inner,ho⟩:=Kd.R_own hr
 obtain ⟨cells',hc'⟩:=own_typed ho k he.symm
 rw [hc] at hc'
 injection hc' with h1
 injection h1 with _ h2
 exact ht q hq h2
theorem map_ne {α:Type} {d:Kd α} {w:World} {b e m n:Nat} {ok:Nat→Prop} {v:Value} {xs:List α} {D:DataW Unit} (hm:pMap w m n D) (hr:d.R e w b ok v xs):some m ≠ v.ownBlock:=by
 intro he
 obtain ⟨es,clock,hh,_⟩:=hm
 obtain ⟨inner,ho⟩:=Kd.R_own hr
 obtain ⟨cells,hc⟩:=own_typed ho m he.symm
 rw [hh] at hc
 injection hc with hc
 cases hc
theorem R_off {α:Type} {d:Kd α} {w:World} {b e m n:Nat} {ok:Nat→Prop} {v:Value} {xs:List α} {D:DataW Unit} (hr:d.R e w b ok v xs) (hm:pMap w m n D):d.R e w b (fun k => ok k∧k ≠ m) v xs :=
 Kd.R_mono (Kd.R_bound hr) (fun k hk => ⟨hk.1,by
  obtain ⟨_,_,_,q,hq,cells',hc⟩:=hk
  obtain ⟨es,clock,hh,_⟩:=hm
  rintro rfl
  rw [hh] at hc
  injection hc with hc
  cases hc⟩)
theorem M_off {α:Type} {d:Kd α} {w:World} {b m n:Nat} {ok:Nat→Prop} {x:α} {cs:List Value} {D:DataW Unit} (h:d.M w b ok x cs) (hm:pMap w m n D):d.M w b (fun k => ok k∧k ≠ m) x cs :=
 d.M_mono (fun k hk => ⟨hk.1,by
  obtain ⟨_,_,_,q,hq,cells',hc⟩:=hk
  obtain ⟨es,clock,hh,_⟩:=hm
  rintro rfl
  rw [hh] at hc
  injection hc with hc
  cases hc⟩) (d.M_bound h)
def Fr3 (w W:World) (p m:Nat) (v:Value):Prop:=∀ k,k < w.heap.size→k ≠ p→k ≠ m→some k ≠ v.ownBlock→W.heap[k]?=w.heap[k]?
structure AdSt (w W:World) (B p m n:Nat) (D:DataW Unit) (v:Value) (L:List Ent) (ns:List ByteArray) (src:Src) (sv:Value):Prop where
 blk:W.heap[p]?=some (.cells #[v,.map (some m),.bool true] 54 (0,0))
 rows:Kd.R kEnt 71 W B (fun _ => True) v L
 mp:pMap W m n D
 mo:MapOf D ns
 M:kSrc.M W B (fun _ => True) src [sv]
 bb:Below B w W
 hB:B≤W.heap.size
 fr:w.heap.size≤W.heap.size∧Fr3 w W p m v
theorem AdSt.below {w W W':World} {B p m n:Nat} {D:DataW Unit} {v:Value} {L:List Ent} {ns:List ByteArray} {src:Src} {sv:Value} (h:AdSt w W B p m n D v L ns src sv) (hb:Below W.heap.size W W'):AdSt w W' B p m n D v L ns src sv :=
 ⟨(hb.block _ (blk_lt h.blk)).trans h.blk,Kd.R_below h.rows hb,pMap_below h.mp hb,h.mo,Kd.M_below h.M hb,h.bb.trans (hb.mono h.hB),Nat.le_trans h.hB hb.size,Nat.le_trans h.fr.1 hb.size,fun k h1 h2 h3 h4 => (hb.block k (Nat.lt_of_lt_of_le h1 h.fr.1)).trans (h.fr.2 k h1 h2 h3 h4)⟩
set_option maxHeartbeats 16000000 in
set_option maxRecDepth 100000 in
theorem link_add.calls {w:World} {B p m n:Nat} {D:DataW Unit} {v:Value} {L:List Ent} {src:Src} {sv:Value} (hP:IsP w B p m n D v L) (hM:kSrc.M w B (fun _ => True) src [sv]) (hS:SmallS src) (hnm:(ownV src).1.size≤9223372036854775807) (hL:L.length≤1048575) (hB:B≤w.heap.size) :
  Calls Tryd.prog 20 #[pp p,sv] w fun e w' => e=.returned (.tuple #[])∧∃ n' D' v',IsP w' B p m n' D' v' (L++[entOf src])∧Below B w w'∧w.heap.size≤w'.heap.size∧Fr3 w w' p m v:=by
 obtain ⟨A,c,rfl⟩:=Kd.R_slice hP.rows
 obtain ⟨T,sw,f,fn,recv,rfl,hm,hf,hn,hb,hcall⟩:=(src_own (kSrc.K_of_M hM)).ex
 have hcf:=fun W => enters_ hf hn hb #[recv] W
 have HK:=Aside0.mk (Go.WideMaps.keyOf_string_mk (P:=Tryd.prog) Tryd.underlying9 hnm)
 have HKL:=Aside0.mk (show WideAt.IsKeyLit (keyS (ownV src).1) from trivial)
 have HP:=Aside0.mk hP
 have HM:=Aside0.mk hM
 have HS:=Aside0.mk hS
 have HL:=Aside0.mk hL
 have HBW:=Aside0.mk hB
 have HC:=Aside0.mk hcall
 have HO:=Aside0.mk (hP.mo (ownV src).1)
 clear hP hM hS hnm hL hB hf hn hb hcall
 go_enter Tryd.func20,Tryd.ntmps20
 go_wp2_with fail
 refine HC.out.mono ?_
 clear HC hm hcf
 rintro _ w1 ⟨rfl,hB1⟩
 have HP1:=Aside0.mk (HP.out.below hB1)
 have HM1:=Aside0.mk (Kd.M_below HM.out hB1)
 have HB1:Aside0 (Below B w w1):=⟨hB1.mono HBW.out⟩
 have HS1:=Aside0.mk (Nat.le_trans HBW.out hB1.size)
 have HF1:Aside0 (w.heap.size≤w1.heap.size∧Fr3 w w1 p m (.slice A L.length c)):=⟨hB1.size,fun k h1 _ _ _ => hB1.block k h1⟩
 clear hB1 HP HM HBW
 have z0:=(blk_cell HP1.out.blk 0).trans rfl
 have z1:=(blk_cell HP1.out.blk 1).trans rfl
 have hO:=HO.out
 cases hi:idxN (L.map (·.name)) (ownV src).1 with
 | some i =>
  rw [hi] at hO
  have hh:Maps.has D (Lit.string (ownV src).1.data.toList)=true:=hO.1
  have HA:Aside0 (AdSt w w1 B p m n D (.slice A L.length c) L (L.map (·.name)++[(ownV src).1]) src (.iface T sw)):=⟨HP1.out.blk,HP1.out.rows,HP1.out.mp,HP1.out.mo.there hi,HM1.out,HB1.out,HS1.out,HF1.out⟩
  have HPB:=Aside0.mk HP1.out.hp
  have HMB:=Aside0.mk HP1.out.hm
  have HN:Aside0 (n≤L.length + 1):=⟨Nat.le_succ_of_le HP1.out.hn⟩
  clear hO HO hi
  go_upto_region 4 with (at_lookup;refine wpList_lookup_own_ok_int _ rfl _ _ 51 rfl 9 3 .i64 kString Tryd.underlying51 Tryd.underlying3 (zInt _) m n D rfl HP1.out.mp _ _ rfl HK.out ?_;intro cv hat hwc)
  clear HP1 HM1 HB1 HS1 HF1 z0 z1 hh hat hwc HK
  have HA4:=Aside0.mk (HA.out.below (below_drew (Below.refl w1.heap.size w1)))
  have q0:w1.drew.cell? ⟨p,0,none⟩=some (.slice A L.length c):=(blk_cell HA4.out.blk 0).trans rfl
  clear HA
  refine start_ (n:=17) (S:=fun w' => w'.cell? ⟨p,0,none⟩=some (.slice A L.length c)) (ds:=[16]) #[false,false,false,false,false,false,false,false,false,false,false,false,false,false,false,false,false] (by kernel_rfl) rfl rfl (q0) (fun hHeld => ?_)
  refine pure_ (i:=0) (N:=some 34) (v:=?_) (a':=?_) #[true,false,false,false,false,false,false,false,false,false,false,false,false,false,false,false,false] rfl rfl (by kernel_rfl) (fun _ _ _ h => h) (Or.inl ⟨by rfl,?_⟩) ?_ ?_
  rotate_left
  ·intro w'
   go_simp
   with_reducible rfl
  rotate_left
  ·simp only [Act.put,List.setIfInBounds_toArray,List.set_cons_zero,List.set_cons_succ,i64_w,i32_w]
   rfl
  refine pure_ (i:=1) (N:=some 35) (v:=?_) (a':=?_) #[true,true,false,false,false,false,false,false,false,false,false,false,false,false,false,false,false] rfl rfl (by kernel_rfl) (fun _ _ _ h => h) (Or.inl ⟨by rfl,?_⟩) ?_ ?_
  rotate_left
  ·intro w'
   go_simp
   with_reducible rfl
  rotate_left
  ·simp only [Act.put,List.setIfInBounds_toArray,List.set_cons_zero,List.set_cons_succ,i64_w,i32_w]
   rfl
  refine pure_ (i:=2) (N:=some 36) (v:=?_) (a':=?_) #[true,true,true,false,false,false,false,false,false,false,false,false,false,false,false,false,false] rfl rfl (by kernel_rfl) (fun _ _ _ h => h) (Or.inl ⟨by rfl,?_⟩) ?_ ?_
  rotate_left
  ·intro w'
   go_simp
   with_reducible rfl
  rotate_left
  ·simp only [Act.put,List.setIfInBounds_toArray,List.set_cons_zero,List.set_cons_succ,i64_w,i32_w]
   rfl
  refine pure_ (i:=3) (N:=some 37) (v:=?_) (a':=?_) #[true,true,true,true,false,false,false,false,false,false,false,false,false,false,false,false,false] rfl rfl (by kernel_rfl) (fun _ _ _ h => h) (Or.inl ⟨by rfl,?_⟩) ?_ ?_
  rotate_left
  ·intro w'
   go_simp
   with_reducible rfl
  rotate_left
  ·simp only [Act.put,List.setIfInBounds_toArray,List.set_cons_zero,List.set_cons_succ,i64_w,i32_w]
   rfl
  refine pure_ (i:=5) (N:=some 39) (v:=?_) (a':=?_) #[true,true,true,true,false,true,false,false,false,false,false,false,false,false,false,false,false] rfl rfl (by kernel_rfl) (fun _ _ _ h => h) (Or.inl ⟨by rfl,?_⟩) ?_ ?_
  rotate_left
  ·intro w'
   go_simp
   with_reducible rfl
  rotate_left
  ·simp only [Act.put,List.setIfInBounds_toArray,List.set_cons_zero,List.set_cons_succ,i64_w,i32_w]
   rfl
  refine pure_ (i:=6) (N:=some 40) (v:=?_) (a':=?_) #[true,true,true,true,false,true,true,false,false,false,false,false,false,false,false,false,false] rfl rfl (by kernel_rfl) (fun _ _ _ h => h) (Or.inl ⟨by rfl,?_⟩) ?_ ?_
  rotate_left
  ·intro w'
   go_simp
   with_reducible rfl
  rotate_left
  ·simp only [Act.put,List.setIfInBounds_toArray,List.set_cons_zero,List.set_cons_succ,i64_w,i32_w]
   rfl
  refine pure_ (i:=7) (N:=some 41) (v:=?_) (a':=?_) #[true,true,true,true,false,true,true,true,false,false,false,false,false,false,false,false,false] rfl rfl (by kernel_rfl) (fun _ _ _ h => h) (Or.inl ⟨by rfl,?_⟩) ?_ ?_
  rotate_left
  ·intro w'
   go_simp
   with_reducible rfl
  rotate_left
  ·simp only [Act.put,List.setIfInBounds_toArray,List.set_cons_zero,List.set_cons_succ,i64_w,i32_w]
   rfl
  refine pure_ (i:=9) (N:=some 43) (v:=?_) (a':=?_) #[true,true,true,true,false,true,true,true,false,true,false,false,false,false,false,false,false] rfl rfl (by kernel_rfl) (fun _ _ _ h => h) (Or.inl ⟨by rfl,?_⟩) ?_ ?_
  rotate_left
  ·intro w'
   go_simp
   with_reducible rfl
  rotate_left
  ·simp only [Act.put,List.setIfInBounds_toArray,List.set_cons_zero,List.set_cons_succ,i64_w,i32_w]
   rfl
  refine take_ (i:=4) (N:=some 38) (v:=?_) (a':=?_) #[true,true,true,true,true,true,true,true,false,true,false,false,false,false,false,false,false] rfl rfl (by kernel_rfl) (fun _ _ _ h => h) (Or.inl ⟨by rfl,?_⟩) hHeld ?_ ?_
  rotate_left
  ·intro w' s0
   go_simp
   with_reducible rfl
  rotate_left
  ·simp only [Act.put,List.setIfInBounds_toArray,List.set_cons_zero,List.set_cons_succ,i64_w,i32_w]
   rfl
  refine one_ (i:=8) (N:=some 42) #[true,true,true,true,true,true,true,true,true,true,false,false,false,false,false,false,false] rfl rfl (by kernel_rfl) (by decide) (fun K hK => ?_)
  refine goesI_ "understudy/link.fields" (.iface T sw) (by rfl) rfl rfl rfl ?_
  refine (src_fields HA4.out.M HS.out HA4.out.hB).mono ?_
  rintro _ w5 ⟨v5,rfl,hR,hb⟩
  refine ⟨_,rfl,?_⟩
  obtain ⟨A5,c5,rfl⟩:=Kd.R_slice hR
  have HA5:=Aside0.mk (HA4.out.below hb)
  have R5:=Aside0.mk hR
  clear hR hb HA4
  have q5:w5.cell? ⟨p,0,none⟩=some (.slice A L.length c):=(blk_cell HA5.out.blk 0).trans rfl
  refine hK.out _ _ (q5) (fun hHeld => ?_)
  clear hK K
  refine norm_ (a':=?_) ?_ ?_
  rotate_left
  ·show Act.put _ (some 42) _=_
   simp only [Act.put,List.setIfInBounds_toArray,List.set_cons_zero,List.set_cons_succ,i64_w,i32_w]
   rfl
  refine one_ (i:=10) (N:=some 44) #[true,true,true,true,true,true,true,true,true,true,true,false,false,false,false,false,false] rfl rfl (by kernel_rfl) (by decide) (fun K hK => ?_)
  refine goesI_ "understudy/link.methods" (.iface T sw) (by rfl) rfl rfl rfl ?_
  refine (src_methods HA5.out.M HS.out HA5.out.hB).mono ?_
  rintro _ w6 ⟨v6,rfl,hR,hb⟩
  refine ⟨_,rfl,?_⟩
  obtain ⟨A6,c6,rfl⟩:=Kd.R_slice hR
  have HA6:=Aside0.mk (HA5.out.below hb)
  have R6:=Aside0.mk hR
  have n_:=Aside0.mk (Kd.R_below R5.out hb);clear R5;have R5:=n_;clear n_
  clear hR hb HA5
  have q6:w6.cell? ⟨p,0,none⟩=some (.slice A L.length c):=(blk_cell HA6.out.blk 0).trans rfl
  refine hK.out _ _ (q6) (fun hHeld => ?_)
  clear hK K
  refine norm_ (a':=?_) ?_ ?_
  rotate_left
  ·show Act.put _ (some 44) _=_
   simp only [Act.put,List.setIfInBounds_toArray,List.set_cons_zero,List.set_cons_succ,i64_w,i32_w]
   rfl
  refine pure_ (i:=11) (N:=some 45) (v:=?_) (a':=?_) #[true,true,true,true,true,true,true,true,true,true,true,true,false,false,false,false,false] rfl rfl (by kernel_rfl) (fun _ _ _ h => h) (Or.inl ⟨by rfl,?_⟩) ?_ ?_
  rotate_left
  ·intro w'
   go_simp
   with_reducible rfl
  rotate_left
  ·simp only [Act.put,List.setIfInBounds_toArray,List.set_cons_zero,List.set_cons_succ,i64_w,i32_w]
   rfl
  refine one_ (i:=12) (N:=some 46) #[true,true,true,true,true,true,true,true,true,true,true,true,true,false,false,false,false] rfl rfl (by kernel_rfl) (by decide) (fun K hK => ?_)
  refine value_ (w1:=?_) (v:=?_) (by rfl) rfl ?_ ?_
  rotate_left 2
  ·go_simp
   constructor
   ·rfl
   ·rfl
  refine hK.out _ _ ((by exact pw_cell_below ((Below.refl _ _).alloc (Nat.le_refl _) _) hHeld)) (fun hHeld => ?_)
  clear hK K
  refine norm_ (a':=?_) ?_ ?_
  rotate_left
  ·show Act.put _ (some 46) _=_
   simp only [Act.put,List.setIfInBounds_toArray,List.set_cons_zero,List.set_cons_succ,i64_w,i32_w]
   rfl
  refine one_ (i:=13) (N:=some 47) #[true,true,true,true,true,true,true,true,true,true,true,true,true,true,false,false,false] rfl rfl (by kernel_rfl) (by decide) (fun K hK => ?_)
  refine Kd.R_append_step kEnt (w0:=w) B (by rfl) (.tmp 38) (.tmp 46) 52 71 (.agg #[.nilIface,.string (⟨#[]⟩:ByteArray),.int .i64 0,.slice none 0 0,.slice none 0 0,.int .i64 0,.int .i64 0]) 104 (by rfl) Tryd.underlying52 infoEnt rfl (by decide) (by decide) (.slice A L.length c) L (entOf src) [.iface T sw,.string (ownV src).1,.int .i64 (-1),.slice A5 (fieldsS src).length c5,.slice A6 (methodsS src).length c6,.int .i64 0,.int .i64 0] (fun _ => True) (fun k => True∧some k ≠ (Value.slice A L.length c).ownBlock) (by rfl) (by rfl) (kEnt_mkM w6 B _ (entOf src) (M_apart HA6.out.M HA6.out.rows (by decide)) (Kd.R_apartR R5.out HA6.out.rows (by decide)) (Kd.R_apartR R6.out HA6.out.rows (by decide))) (fun _ hk => hk) (fun _ _ => trivial) HA6.out.rows HA6.out.bb HA6.out.hB (by have:=HL.out;omega) ?_
  intro v1 w7 hR7 hB7 hg7 _
  obtain ⟨A7,c7,hv1⟩:=Kd.R_slice hR7
  simp only [List.length_append,List.length_singleton] at hv1
  subst hv1
  have K7:=Aside0.mk (blk_grown HA6.out.blk hg7 (Kd.R_ne HA6.out.rows HA6.out.blk (by decide)))
  have M7:Aside0 (pMap w7 m _ _):=⟨HA6.out.mp.kept hg7 (map_ne HA6.out.mp HA6.out.rows)⟩
  have R7:=Aside0.mk hR7
  have B7:=Aside0.mk hB7
  have F7:Aside0 (w.heap.size≤w7.heap.size∧Fr3 w w7 p m (.slice A L.length c)):=⟨Nat.le_trans HA6.out.fr.1 hg7.size,fun k h1 h2 h3 h4 => (hg7.block k (Nat.lt_of_lt_of_le h1 HA6.out.fr.1) h4).trans (HA6.out.fr.2 k h1 h2 h3 h4)⟩
  clear hR7 hB7 hg7
  have q7:w7.cell? ⟨p,0,none⟩=some (.slice A L.length c):=(blk_cell K7.out 0).trans rfl
  have f7:=blk_frozen K7.out 0
  refine hK.out _ _ (q7) (fun hHeld => ?_)
  clear hK K
  refine norm_ (a':=?_) ?_ ?_
  rotate_left
  ·show Act.put _ (some 47) _=_
   simp only [Act.put,List.setIfInBounds_toArray,List.set_cons_zero,List.set_cons_succ,i64_w,i32_w]
   rfl
  refine pure_ (i:=14) (N:=some 48) (v:=?_) (a':=?_) #[true,true,true,true,true,true,true,true,true,true,true,true,true,true,true,false,false] rfl rfl (by kernel_rfl) (fun _ _ _ h => h) (Or.inl ⟨by rfl,?_⟩) ?_ ?_
  rotate_left
  ·intro w'
   go_simp
   with_reducible rfl
  rotate_left
  ·simp only [Act.put,List.setIfInBounds_toArray,List.set_cons_zero,List.set_cons_succ,i64_w,i32_w]
   rfl
  refine pure_ (i:=15) (N:=some 49) (v:=?_) (a':=?_) #[true,true,true,true,true,true,true,true,true,true,true,true,true,true,true,true,false] rfl rfl (by kernel_rfl) (fun _ _ _ h => h) (Or.inl ⟨by rfl,?_⟩) ?_ ?_
  rotate_left
  ·intro w'
   go_simp
   with_reducible rfl
  rotate_left
  ·simp only [Act.put,List.setIfInBounds_toArray,List.set_cons_zero,List.set_cons_succ,i64_w,i32_w]
   rfl
  refine last_ (i:=16) (N:=none) #[true,true,true,true,true,true,true,true,true,true,true,true,true,true,true,true,true] rfl rfl (by kernel_rfl) (by decide) (fun K hK => ?_)
  refine skip_ (w1:=?_) (by rfl) rfl ?_ ?_
  rotate_left
  ·go_simp
   rfl
  refine hK.out _ _ ?_
  clear hK K
  refine done_ (by kernel_rfl) ?_
  clear hHeld q0 q5 q6 q7 f7
  go_wp2
  go_end0
  exact ⟨rfl,_,_,_,⟨blk_set K7.out 0 _,Kd.R_set R7.out K7.out (by decide) 0 _,M7.out.setCell (by intro e;have h1:=K7.out;obtain ⟨es,clock,hh,_⟩:=M7.out;rw [e] at hh;rw [hh] at h1;injection h1 with h1;cases h1) _,by rw [List.map_append];exact HA6.out.mo,HPB.out,HMB.out,by rw [List.length_append,List.length_singleton];exact HN.out⟩,B7.out.setCell (p:=⟨p,0,none⟩) HPB.out _,by rw [show (w7.setCell ⟨p,0,none⟩ (.slice A7 (L.length + 1) c7)).heap.size=w7.heap.size by simp [World.setCell]];exact F7.out.1,fun k h1 h2 h3 h4 => (Below.heap_setCell w7 ⟨p,0,none⟩ _ k h2).trans (F7.out.2 k h1 h2 h3 h4)⟩
 | none =>
  rw [hi] at hO
  have hh:Maps.has D (Lit.string (ownV src).1.data.toList)=false:=hO.1
  have HPB:=Aside0.mk HP1.out.hp
  have HMB:=Aside0.mk HP1.out.hm
  have HN:Aside0 (n + 1≤L.length + 1):=⟨Nat.succ_le_succ HP1.out.hn⟩
  have HII:=Aside0.mk hi
  clear hO HO hi
  go_upto_region 3 with (at_lookup;refine wpList_lookup_own_ok_int _ rfl _ _ 51 rfl 9 3 .i64 kString Tryd.underlying51 Tryd.underlying3 (zInt _) m n D rfl HP1.out.mp _ _ rfl HK.out ?_;intro cv hat hwc)
  clear z0 z1 hh hat hwc
  have HP3:=Aside0.mk (HP1.out.below (below_drew (Below.refl w1.heap.size w1)))
  have HM3:=Aside0.mk (Kd.M_below HM1.out (below_drew (Below.refl w1.heap.size w1)))
  have HB3:Aside0 (Below B w w1.drew):=⟨HB1.out.trans ((below_drew (Below.refl w1.heap.size w1)).mono HS1.out)⟩
  have q0:=(blk_cell HP3.out.blk 0).trans rfl
  have q1:=(blk_cell HP3.out.blk 1).trans rfl
  obtain ⟨w3,hrun,hown,hgr⟩:=World.ownsMap.update HP3.out.mp kString Tryd.underlying51 (by have:=HP3.out.hn;have:=HL.out;unfold maxLen;omega) HK.out (plainElem_int (H:=Unit) Tryd.underlying3 (a:=(L.length:Int)) (by have:=HL.out;exact WalkArith.wf_i64 (by omega)))
  have HO3:=Aside0.mk hown
  have HG3:=Aside0.mk hgr
  have HR3:=Aside0.mk hrun
  clear hown hgr hrun
  refine start_ (n:=11) (S:=fun w' => w'.cell? ⟨p,0,none⟩=some (.slice A L.length c)∧w'.cell? ⟨p,1,none⟩=some (.map (some m))) (ds:=[10]) #[false,false,false,false,false,false,false,false,false,false,false] (by kernel_rfl) rfl rfl ⟨q0,q1⟩ (fun hHeld => ?_)
  refine pure_ (i:=0) (N:=some 24) (v:=?_) (a':=?_) #[true,false,false,false,false,false,false,false,false,false,false] rfl rfl (by kernel_rfl) (fun _ _ _ h => h) (Or.inl ⟨by rfl,?_⟩) ?_ ?_
  rotate_left
  ·intro w'
   go_simp
   with_reducible rfl
  rotate_left
  ·simp only [Act.put,List.setIfInBounds_toArray,List.set_cons_zero,List.set_cons_succ,i64_w,i32_w]
   rfl
  refine pure_ (i:=1) (N:=some 25) (v:=?_) (a':=?_) #[true,true,false,false,false,false,false,false,false,false,false] rfl rfl (by kernel_rfl) (fun _ _ _ h => h) (Or.inl ⟨by rfl,?_⟩) ?_ ?_
  rotate_left
  ·intro w'
   go_simp
   with_reducible rfl
  rotate_left
  ·simp only [Act.put,List.setIfInBounds_toArray,List.set_cons_zero,List.set_cons_succ,i64_w,i32_w]
   rfl
  refine pure_ (i:=2) (N:=some 26) (v:=?_) (a':=?_) #[true,true,true,false,false,false,false,false,false,false,false] rfl rfl (by kernel_rfl) (fun _ _ _ h => h) (Or.inl ⟨by rfl,?_⟩) ?_ ?_
  rotate_left
  ·intro w'
   go_simp
   with_reducible rfl
  rotate_left
  ·simp only [Act.put,List.setIfInBounds_toArray,List.set_cons_zero,List.set_cons_succ,i64_w,i32_w]
   rfl
  refine pure_ (i:=4) (N:=some 28) (v:=?_) (a':=?_) #[true,true,true,false,true,false,false,false,false,false,false] rfl rfl (by kernel_rfl) (fun _ _ _ h => h) (Or.inl ⟨by rfl,?_⟩) ?_ ?_
  rotate_left
  ·intro w'
   go_simp
   with_reducible rfl
  rotate_left
  ·simp only [Act.put,List.setIfInBounds_toArray,List.set_cons_zero,List.set_cons_succ,i64_w,i32_w]
   rfl
  refine pure_ (i:=5) (N:=some 29) (v:=?_) (a':=?_) #[true,true,true,false,true,true,false,false,false,false,false] rfl rfl (by kernel_rfl) (fun _ _ _ h => h) (Or.inl ⟨by rfl,?_⟩) ?_ ?_
  rotate_left
  ·intro w'
   go_simp
   with_reducible rfl
  rotate_left
  ·simp only [Act.put,List.setIfInBounds_toArray,List.set_cons_zero,List.set_cons_succ,i64_w,i32_w]
   rfl
  refine pure_ (i:=6) (N:=some 30) (v:=?_) (a':=?_) #[true,true,true,false,true,true,true,false,false,false,false] rfl rfl (by kernel_rfl) (fun _ _ _ h => h) (Or.inl ⟨by rfl,?_⟩) ?_ ?_
  rotate_left
  ·intro w'
   go_simp
   with_reducible rfl
  rotate_left
  ·simp only [Act.put,List.setIfInBounds_toArray,List.set_cons_zero,List.set_cons_succ,i64_w,i32_w]
   rfl
  refine pure_ (i:=7) (N:=some 31) (v:=?_) (a':=?_) #[true,true,true,false,true,true,true,true,false,false,false] rfl rfl (by kernel_rfl) (fun _ _ _ h => h) (Or.inl ⟨by rfl,?_⟩) ?_ ?_
  rotate_left
  ·intro w'
   go_simp
   with_reducible rfl
  rotate_left
  ·simp only [Act.put,List.setIfInBounds_toArray,List.set_cons_zero,List.set_cons_succ,i64_w,i32_w]
   rfl
  refine take_ (i:=3) (N:=some 27) (v:=?_) (a':=?_) #[true,true,true,true,true,true,true,true,false,false,false] rfl rfl (by kernel_rfl) (fun _ _ _ h => h) (Or.inl ⟨by rfl,?_⟩) hHeld ?_ ?_
  rotate_left
  ·rintro w' ⟨s0,s1⟩
   go_simp
   with_reducible rfl
  rotate_left
  ·simp only [Act.put,List.setIfInBounds_toArray,List.set_cons_zero,List.set_cons_succ,i64_w,i32_w]
   rfl
  refine take_ (i:=8) (N:=some 32) (v:=?_) (a':=?_) #[true,true,true,true,true,true,true,true,true,false,false] rfl rfl (by kernel_rfl) (fun _ _ _ h => h) (Or.inl ⟨by rfl,?_⟩) hHeld ?_ ?_
  rotate_left
  ·rintro w' ⟨s0,s1⟩
   go_simp
   with_reducible rfl
  rotate_left
  ·simp only [Act.put,List.setIfInBounds_toArray,List.set_cons_zero,List.set_cons_succ,i64_w,i32_w]
   rfl
  refine pure_ (i:=9) (N:=some 33) (v:=?_) (a':=?_) #[true,true,true,true,true,true,true,true,true,true,false] rfl rfl (by kernel_rfl) (fun _ _ _ h => h) (Or.inl ⟨by rfl,?_⟩) ?_ ?_
  rotate_left
  ·intro w'
   go_simp
   with_reducible rfl
  rotate_left
  ·simp only [Act.put,List.setIfInBounds_toArray,List.set_cons_zero,List.set_cons_succ,i64_w,i32_w]
   rfl
  refine last_ (i:=10) (N:=none) #[true,true,true,true,true,true,true,true,true,true,true] rfl rfl (by kernel_rfl) (by decide) (fun K hK => ?_)
  refine skip_ (w1:=w3) (by rfl) rfl ?_ ?_
  ·go_simp
   rw [HR3.out]
   rfl
  refine hK.out _ _ ?_
  clear hK K
  refine done_ (by kernel_rfl) ?_
  have HA:Aside0 (AdSt w w3 B p m (n + 1) (D.put (keyS (ownV src).1) (.lit (.int .i64 (L.length:Int)))) (.slice A L.length c) L (L.map (·.name)++[(ownV src).1]) src (.iface T sw)):=⟨blk_grown HP3.out.blk HG3.out (by intro e;have h1:=HP3.out.blk;obtain ⟨es,clock,hq,_⟩:=HP3.out.mp;injection e with e;rw [e] at h1;rw [h1] at hq;injection hq with hq;cases hq),Kd.R_mono (Kd.R_grown (R_off HP3.out.rows HP3.out.mp) HG3.out (fun k hk => fun e => hk.2 (by injection e))) (fun _ h => h.1),HO3.out,by have:=MapOf.put HP3.out.mo HP3.out.mp.isMap HKL.out HII.out;rw [List.length_map] at this;exact this,kSrc.M_mono (fun _ h => h.1) (Kd.M_grown (M_off HM3.out HP3.out.mp) HG3.out (fun k hk => fun e => hk.2 (by injection e))),HB3.out.grown HG3.out HS1.out (fun k hk => by injection hk with hk;rw [← hk];exact HP3.out.hm),Nat.le_trans HS1.out HG3.out.size,Nat.le_trans HF1.out.1 HG3.out.size,fun k h1 h2 h3 h4 => (HG3.out.block k (Nat.lt_of_lt_of_le h1 HF1.out.1) (fun e => h3 (by injection e))).trans (HF1.out.2 k h1 h2 h3 h4)⟩
  clear hHeld q0 q1 HP1 HM1 HB1 HS1 HF1 HP3 HM3 HB3 HO3 HG3 HR3 HK
  go_upto_region 4 with fail
  have HA4:=Aside0.mk (HA.out.below (below_drew (Below.refl w3.heap.size w3)))
  have q0:w3.drew.cell? ⟨p,0,none⟩=some (.slice A L.length c):=(blk_cell HA4.out.blk 0).trans rfl
  clear HA
  refine start_ (n:=17) (S:=fun w' => w'.cell? ⟨p,0,none⟩=some (.slice A L.length c)) (ds:=[16]) #[false,false,false,false,false,false,false,false,false,false,false,false,false,false,false,false,false] (by kernel_rfl) rfl rfl (q0) (fun hHeld => ?_)
  refine pure_ (i:=0) (N:=some 34) (v:=?_) (a':=?_) #[true,false,false,false,false,false,false,false,false,false,false,false,false,false,false,false,false] rfl rfl (by kernel_rfl) (fun _ _ _ h => h) (Or.inl ⟨by rfl,?_⟩) ?_ ?_
  rotate_left
  ·intro w'
   go_simp
   with_reducible rfl
  rotate_left
  ·simp only [Act.put,List.setIfInBounds_toArray,List.set_cons_zero,List.set_cons_succ,i64_w,i32_w]
   rfl
  refine pure_ (i:=1) (N:=some 35) (v:=?_) (a':=?_) #[true,true,false,false,false,false,false,false,false,false,false,false,false,false,false,false,false] rfl rfl (by kernel_rfl) (fun _ _ _ h => h) (Or.inl ⟨by rfl,?_⟩) ?_ ?_
  rotate_left
  ·intro w'
   go_simp
   with_reducible rfl
  rotate_left
  ·simp only [Act.put,List.setIfInBounds_toArray,List.set_cons_zero,List.set_cons_succ,i64_w,i32_w]
   rfl
  refine pure_ (i:=2) (N:=some 36) (v:=?_) (a':=?_) #[true,true,true,false,false,false,false,false,false,false,false,false,false,false,false,false,false] rfl rfl (by kernel_rfl) (fun _ _ _ h => h) (Or.inl ⟨by rfl,?_⟩) ?_ ?_
  rotate_left
  ·intro w'
   go_simp
   with_reducible rfl
  rotate_left
  ·simp only [Act.put,List.setIfInBounds_toArray,List.set_cons_zero,List.set_cons_succ,i64_w,i32_w]
   rfl
  refine pure_ (i:=3) (N:=some 37) (v:=?_) (a':=?_) #[true,true,true,true,false,false,false,false,false,false,false,false,false,false,false,false,false] rfl rfl (by kernel_rfl) (fun _ _ _ h => h) (Or.inl ⟨by rfl,?_⟩) ?_ ?_
  rotate_left
  ·intro w'
   go_simp
   with_reducible rfl
  rotate_left
  ·simp only [Act.put,List.setIfInBounds_toArray,List.set_cons_zero,List.set_cons_succ,i64_w,i32_w]
   rfl
  refine pure_ (i:=5) (N:=some 39) (v:=?_) (a':=?_) #[true,true,true,true,false,true,false,false,false,false,false,false,false,false,false,false,false] rfl rfl (by kernel_rfl) (fun _ _ _ h => h) (Or.inl ⟨by rfl,?_⟩) ?_ ?_
  rotate_left
  ·intro w'
   go_simp
   with_reducible rfl
  rotate_left
  ·simp only [Act.put,List.setIfInBounds_toArray,List.set_cons_zero,List.set_cons_succ,i64_w,i32_w]
   rfl
  refine pure_ (i:=6) (N:=some 40) (v:=?_) (a':=?_) #[true,true,true,true,false,true,true,false,false,false,false,false,false,false,false,false,false] rfl rfl (by kernel_rfl) (fun _ _ _ h => h) (Or.inl ⟨by rfl,?_⟩) ?_ ?_
  rotate_left
  ·intro w'
   go_simp
   with_reducible rfl
  rotate_left
  ·simp only [Act.put,List.setIfInBounds_toArray,List.set_cons_zero,List.set_cons_succ,i64_w,i32_w]
   rfl
  refine pure_ (i:=7) (N:=some 41) (v:=?_) (a':=?_) #[true,true,true,true,false,true,true,true,false,false,false,false,false,false,false,false,false] rfl rfl (by kernel_rfl) (fun _ _ _ h => h) (Or.inl ⟨by rfl,?_⟩) ?_ ?_
  rotate_left
  ·intro w'
   go_simp
   with_reducible rfl
  rotate_left
  ·simp only [Act.put,List.setIfInBounds_toArray,List.set_cons_zero,List.set_cons_succ,i64_w,i32_w]
   rfl
  refine pure_ (i:=9) (N:=some 43) (v:=?_) (a':=?_) #[true,true,true,true,false,true,true,true,false,true,false,false,false,false,false,false,false] rfl rfl (by kernel_rfl) (fun _ _ _ h => h) (Or.inl ⟨by rfl,?_⟩) ?_ ?_
  rotate_left
  ·intro w'
   go_simp
   with_reducible rfl
  rotate_left
  ·simp only [Act.put,List.setIfInBounds_toArray,List.set_cons_zero,List.set_cons_succ,i64_w,i32_w]
   rfl
  refine take_ (i:=4) (N:=some 38) (v:=?_) (a':=?_) #[true,true,true,true,true,true,true,true,false,true,false,false,false,false,false,false,false] rfl rfl (by kernel_rfl) (fun _ _ _ h => h) (Or.inl ⟨by rfl,?_⟩) hHeld ?_ ?_
  rotate_left
  ·intro w' s0
   go_simp
   with_reducible rfl
  rotate_left
  ·simp only [Act.put,List.setIfInBounds_toArray,List.set_cons_zero,List.set_cons_succ,i64_w,i32_w]
   rfl
  refine one_ (i:=8) (N:=some 42) #[true,true,true,true,true,true,true,true,true,true,false,false,false,false,false,false,false] rfl rfl (by kernel_rfl) (by decide) (fun K hK => ?_)
  refine goesI_ "understudy/link.fields" (.iface T sw) (by rfl) rfl rfl rfl ?_
  refine (src_fields HA4.out.M HS.out HA4.out.hB).mono ?_
  rintro _ w5 ⟨v5,rfl,hR,hb⟩
  refine ⟨_,rfl,?_⟩
  obtain ⟨A5,c5,rfl⟩:=Kd.R_slice hR
  have HA5:=Aside0.mk (HA4.out.below hb)
  have R5:=Aside0.mk hR
  clear hR hb HA4
  have q5:w5.cell? ⟨p,0,none⟩=some (.slice A L.length c):=(blk_cell HA5.out.blk 0).trans rfl
  refine hK.out _ _ (q5) (fun hHeld => ?_)
  clear hK K
  refine norm_ (a':=?_) ?_ ?_
  rotate_left
  ·show Act.put _ (some 42) _=_
   simp only [Act.put,List.setIfInBounds_toArray,List.set_cons_zero,List.set_cons_succ,i64_w,i32_w]
   rfl
  refine one_ (i:=10) (N:=some 44) #[true,true,true,true,true,true,true,true,true,true,true,false,false,false,false,false,false] rfl rfl (by kernel_rfl) (by decide) (fun K hK => ?_)
  refine goesI_ "understudy/link.methods" (.iface T sw) (by rfl) rfl rfl rfl ?_
  refine (src_methods HA5.out.M HS.out HA5.out.hB).mono ?_
  rintro _ w6 ⟨v6,rfl,hR,hb⟩
  refine ⟨_,rfl,?_⟩
  obtain ⟨A6,c6,rfl⟩:=Kd.R_slice hR
  have HA6:=Aside0.mk (HA5.out.below hb)
  have R6:=Aside0.mk hR
  have n_:=Aside0.mk (Kd.R_below R5.out hb);clear R5;have R5:=n_;clear n_
  clear hR hb HA5
  have q6:w6.cell? ⟨p,0,none⟩=some (.slice A L.length c):=(blk_cell HA6.out.blk 0).trans rfl
  refine hK.out _ _ (q6) (fun hHeld => ?_)
  clear hK K
  refine norm_ (a':=?_) ?_ ?_
  rotate_left
  ·show Act.put _ (some 44) _=_
   simp only [Act.put,List.setIfInBounds_toArray,List.set_cons_zero,List.set_cons_succ,i64_w,i32_w]
   rfl
  refine pure_ (i:=11) (N:=some 45) (v:=?_) (a':=?_) #[true,true,true,true,true,true,true,true,true,true,true,true,false,false,false,false,false] rfl rfl (by kernel_rfl) (fun _ _ _ h => h) (Or.inl ⟨by rfl,?_⟩) ?_ ?_
  rotate_left
  ·intro w'
   go_simp
   with_reducible rfl
  rotate_left
  ·simp only [Act.put,List.setIfInBounds_toArray,List.set_cons_zero,List.set_cons_succ,i64_w,i32_w]
   rfl
  refine one_ (i:=12) (N:=some 46) #[true,true,true,true,true,true,true,true,true,true,true,true,true,false,false,false,false] rfl rfl (by kernel_rfl) (by decide) (fun K hK => ?_)
  refine value_ (w1:=?_) (v:=?_) (by rfl) rfl ?_ ?_
  rotate_left 2
  ·go_simp
   constructor
   ·rfl
   ·rfl
  refine hK.out _ _ ((by exact pw_cell_below ((Below.refl _ _).alloc (Nat.le_refl _) _) hHeld)) (fun hHeld => ?_)
  clear hK K
  refine norm_ (a':=?_) ?_ ?_
  rotate_left
  ·show Act.put _ (some 46) _=_
   simp only [Act.put,List.setIfInBounds_toArray,List.set_cons_zero,List.set_cons_succ,i64_w,i32_w]
   rfl
  refine one_ (i:=13) (N:=some 47) #[true,true,true,true,true,true,true,true,true,true,true,true,true,true,false,false,false] rfl rfl (by kernel_rfl) (by decide) (fun K hK => ?_)
  refine Kd.R_append_step kEnt (w0:=w) B (by rfl) (.tmp 38) (.tmp 46) 52 71 (.agg #[.nilIface,.string (⟨#[]⟩:ByteArray),.int .i64 0,.slice none 0 0,.slice none 0 0,.int .i64 0,.int .i64 0]) 104 (by rfl) Tryd.underlying52 infoEnt rfl (by decide) (by decide) (.slice A L.length c) L (entOf src) [.iface T sw,.string (ownV src).1,.int .i64 (-1),.slice A5 (fieldsS src).length c5,.slice A6 (methodsS src).length c6,.int .i64 0,.int .i64 0] (fun _ => True) (fun k => True∧some k ≠ (Value.slice A L.length c).ownBlock) (by rfl) (by rfl) (kEnt_mkM w6 B _ (entOf src) (M_apart HA6.out.M HA6.out.rows (by decide)) (Kd.R_apartR R5.out HA6.out.rows (by decide)) (Kd.R_apartR R6.out HA6.out.rows (by decide))) (fun _ hk => hk) (fun _ _ => trivial) HA6.out.rows HA6.out.bb HA6.out.hB (by have:=HL.out;omega) ?_
  intro v1 w7 hR7 hB7 hg7 _
  obtain ⟨A7,c7,hv1⟩:=Kd.R_slice hR7
  simp only [List.length_append,List.length_singleton] at hv1
  subst hv1
  have K7:=Aside0.mk (blk_grown HA6.out.blk hg7 (Kd.R_ne HA6.out.rows HA6.out.blk (by decide)))
  have M7:Aside0 (pMap w7 m _ _):=⟨HA6.out.mp.kept hg7 (map_ne HA6.out.mp HA6.out.rows)⟩
  have R7:=Aside0.mk hR7
  have B7:=Aside0.mk hB7
  have F7:Aside0 (w.heap.size≤w7.heap.size∧Fr3 w w7 p m (.slice A L.length c)):=⟨Nat.le_trans HA6.out.fr.1 hg7.size,fun k h1 h2 h3 h4 => (hg7.block k (Nat.lt_of_lt_of_le h1 HA6.out.fr.1) h4).trans (HA6.out.fr.2 k h1 h2 h3 h4)⟩
  clear hR7 hB7 hg7
  have q7:w7.cell? ⟨p,0,none⟩=some (.slice A L.length c):=(blk_cell K7.out 0).trans rfl
  have f7:=blk_frozen K7.out 0
  refine hK.out _ _ (q7) (fun hHeld => ?_)
  clear hK K
  refine norm_ (a':=?_) ?_ ?_
  rotate_left
  ·show Act.put _ (some 47) _=_
   simp only [Act.put,List.setIfInBounds_toArray,List.set_cons_zero,List.set_cons_succ,i64_w,i32_w]
   rfl
  refine pure_ (i:=14) (N:=some 48) (v:=?_) (a':=?_) #[true,true,true,true,true,true,true,true,true,true,true,true,true,true,true,false,false] rfl rfl (by kernel_rfl) (fun _ _ _ h => h) (Or.inl ⟨by rfl,?_⟩) ?_ ?_
  rotate_left
  ·intro w'
   go_simp
   with_reducible rfl
  rotate_left
  ·simp only [Act.put,List.setIfInBounds_toArray,List.set_cons_zero,List.set_cons_succ,i64_w,i32_w]
   rfl
  refine pure_ (i:=15) (N:=some 49) (v:=?_) (a':=?_) #[true,true,true,true,true,true,true,true,true,true,true,true,true,true,true,true,false] rfl rfl (by kernel_rfl) (fun _ _ _ h => h) (Or.inl ⟨by rfl,?_⟩) ?_ ?_
  rotate_left
  ·intro w'
   go_simp
   with_reducible rfl
  rotate_left
  ·simp only [Act.put,List.setIfInBounds_toArray,List.set_cons_zero,List.set_cons_succ,i64_w,i32_w]
   rfl
  refine last_ (i:=16) (N:=none) #[true,true,true,true,true,true,true,true,true,true,true,true,true,true,true,true,true] rfl rfl (by kernel_rfl) (by decide) (fun K hK => ?_)
  refine skip_ (w1:=?_) (by rfl) rfl ?_ ?_
  rotate_left
  ·go_simp
   rfl
  refine hK.out _ _ ?_
  clear hK K
  refine done_ (by kernel_rfl) ?_
  clear hHeld q0 q5 q6 q7 f7
  go_wp2
  go_end0
  exact ⟨rfl,_,_,_,⟨blk_set K7.out 0 _,Kd.R_set R7.out K7.out (by decide) 0 _,M7.out.setCell (by intro e;have h1:=K7.out;obtain ⟨es,clock,hh,_⟩:=M7.out;rw [e] at hh;rw [hh] at h1;injection h1 with h1;cases h1) _,by rw [List.map_append];exact HA6.out.mo,HPB.out,HMB.out,by rw [List.length_append,List.length_singleton];exact HN.out⟩,B7.out.setCell (p:=⟨p,0,none⟩) HPB.out _,by rw [show (w7.setCell ⟨p,0,none⟩ (.slice A7 (L.length + 1) c7)).heap.size=w7.heap.size by simp [World.setCell]];exact F7.out.1,fun k h1 h2 h3 h4 => (Below.heap_setCell w7 ⟨p,0,none⟩ _ k h2).trans (F7.out.2 k h1 h2 h3 h4)⟩
end Go.Proofs.YtoonhpcjcimecaaDoor.Px
namespace Go.Proofs.YtoonhpcjcimecaaDoor.Px
open Go.RowKit Go.Maps Go.Proofs.YtoonhpcjcimecaaDoorW.PrintWords Go.Proofs.YtoonhpcjcimecaaDoorW.PrintLast Go.Proofs.YtoonhpcjcimecaaDoorW.PrintMore
set_option linter.unusedVariables false
set_option linter.unusedSimpArgs false
def setS (L:List Ent) (i:Nat) (x:Ent) (s:Int):List Ent:=L.set i { x with super:=s }
def sup1 (ns:List ByteArray) (L0:List Ent):Nat→Option (List Ent)
 | 0 => some L0
 | i + 1 => (sup1 ns L0 i).bind fun L => match L0[i]? with
  | none => some L
  | some x => if i=0 then some L else match idxN ns (ownV x.src).2 with
   | none => none
   | some u => if (ownV x.src).2.toList=sSys.toList then none else some (setS L i x (u:Int))
theorem sup1_none {ns:List ByteArray} {L0:List Ent} {i:Nat} (h:sup1 ns L0 i=none):∀ j,i≤j→sup1 ns L0 j=none:=by
 intro j hj
 induction j with
 | zero => obtain rfl:i=0:=by omega
      exact h
 | succ j ih =>
  by_cases e:i=j + 1
  ·rw [← e];exact h
  ·simp only [sup1]
   rw [ih (by omega)]
   rfl
structure UpSt (L0 L:List Ent) (i:Nat):Prop where
 len:L.length=L0.length
 names:L.map (·.name)=L0.map (·.name)
 same:∀ j,i≤j→L[j]?=L0[j]?
 src:∀ (j:Nat) (x:Ent),L[j]?=some x→∃ y s,L0[j]?=some y∧x={ y with super:=s }
theorem map_name_set {L:List Ent} {i:Nat} {x x':Ent} (h:L[i]?=some x) (hn:x'.name=x.name):(L.set i x').map (·.name)=L.map (·.name):=by
 rw [List.map_set]
 refine List.ext_getElem? (fun j => ?_)
 by_cases e:i=j
 ·subst e
  have hil:=(List.getElem?_eq_some_iff.1 h).1
  rw [List.getElem?_set_self (by rw [List.length_map];exact hil),List.getElem?_map,h,hn]
  rfl
 ·rw [List.getElem?_set_ne e]
theorem sup1_st {ns:List ByteArray} {L0:List Ent}:∀ (i:Nat) (L:List Ent),sup1 ns L0 i=some L→UpSt L0 L i:=by
 intro i
 induction i with
 | zero =>
  intro L h
  obtain rfl:=Option.some.inj h
  exact ⟨rfl,rfl,fun _ _ => rfl,fun j x hx => ⟨x,x.super,hx,rfl⟩⟩
 | succ i ih =>
  intro L h
  simp only [sup1] at h
  obtain ⟨L1,h1,h⟩:=Option.bind_eq_some_iff.mp h
  have hs:=ih L1 h1
  cases hx:L0[i]? with
  | none =>
   rw [hx] at h
   obtain rfl:=Option.some.inj h
   exact ⟨hs.len,hs.names,fun j hj => hs.same j (by omega),hs.src⟩
  | some x =>
   rw [hx] at h
   simp only [] at h
   by_cases h0:i=0
   ·rw [if_pos h0] at h
    obtain rfl:=Option.some.inj h
    exact ⟨hs.len,hs.names,fun j hj => hs.same j (by omega),hs.src⟩
   ·rw [if_neg h0] at h
    cases hu:idxN ns (ownV x.src).2 with
    | none => rw [hu] at h;cases h
    | some u =>
     rw [hu] at h
     simp only [] at h
     split at h
     ·cases h
     ·obtain rfl:=Option.some.inj h
      have hxi:L1[i]?=some x:=(hs.same i (Nat.le_refl _)).trans hx
      refine ⟨by unfold setS;rw [List.length_set];exact hs.len,by unfold setS;rw [map_name_set (x':={ x with super:=(u:Int) }) hxi rfl];exact hs.names,fun j hj => ?_,fun j y hy => ?_⟩
      ·unfold setS
       rw [List.getElem?_set_ne (by omega)]
       exact hs.same j (by omega)
      ·unfold setS at hy
       by_cases e:i=j
       ·subst e
        rw [List.getElem?_set_self (List.getElem?_eq_some_iff.1 hxi).1] at hy
        obtain rfl:=Option.some.inj hy
        exact ⟨x,_,hx,rfl⟩
       ·rw [List.getElem?_set_ne e] at hy
        exact hs.src j y hy
def down0 (L:List Ent):Nat→Int→Bool
 | 0,n => decide (¬ n > 0)
 | k + 1,n => if n > 0 then down0 L k (rd_Ent L n).super else true
def allDown (L:List Ent) (i:Nat):Bool:=(List.range' i (L.length - i)).all (fun j => down0 L (L.length + 1) (j:Int))
theorem allDown_step {L:List Ent} {i:Nat} (h:i < L.length):allDown L i=(down0 L (L.length + 1) (i:Int) && allDown L (i + 1)):=by
 unfold allDown
 rw [show L.length - i=(L.length - (i + 1)) + 1 by omega,List.range'_succ,List.all_cons]
theorem allDown_end {L:List Ent} {i:Nat} (h:L.length≤i):allDown L i=true:=by
 unfold allDown
 rw [show L.length - i=0 by omega]
 rfl
def topsV (ns:List ByteArray) (L0:List Ent):Option (List Ent):=(sup1 ns L0 L0.length).bind fun L => if allDown L 0=true then some L else none
def InR (L:List Ent):Prop:=∀ a,0≤a→a < (L.length:Int)→-1≤(rd_Ent L a).super∧(rd_Ent L a).super < (L.length:Int)
theorem IsP.setE {w:World} {B p m n:Nat} {D:DataW Unit} {v:Value} {L:List Ent} (h:IsP w B p m n D v L) {i:Nat} {x x':Ent} (hi:L[i]?=some x) (j:Nat) (hj:j < 7) (u:Value) (hn:x'.name=x.name)
  (hx:∀ (w1:World) (ok1:Nat→Prop) (cs:List Value),kEnt.M w1 B ok1 x cs→kEnt.M w1 B ok1 x' (cs.set j u)) :
  ∃ g c,v=.slice (some ⟨g,0,none⟩) L.length c∧B≤g∧w.frozen? ⟨g,i * 7 + j,none⟩=false∧(∃ o,w.cell? ⟨g,i * 7 + j,none⟩=some o)∧IsP (w.setCell ⟨g,i * 7 + j,none⟩ u) B p m n D v (L.set i x'):=by
 obtain ⟨g,c,hv,hB,⟨cur,hcur⟩,hf,hc,hR⟩:=R_setOne h.rows hi j hj u hx
 exact ⟨g,c,hv,hB,hf,hc,blk_far h.blk (blk_ne h.blk hcur (by decide)) _,hR,h.mp.setCell (by
  intro e
  obtain ⟨es,clock,hh,_⟩:=h.mp
  rw [show m=g from e] at hh
  rw [hh] at hcur
  injection hcur with h1
  cases h1) _,by rw [map_name_set hi hn];exact h.mo,h.hp,h.hm,by rw [List.length_set];exact h.hn⟩
theorem ent_super {w1:World} {B:Nat} {ok1:Nat→Prop} {x:Ent} {cs:List Value} (s:Int) (h:kEnt.M w1 B ok1 x cs):kEnt.M w1 B ok1 { x with super:=s } (cs.set 2 (.int .i64 s)):=by
 obtain ⟨q,v3,v4,rfl,g0,g3,g4⟩:=kEnt_openM h
 exact kEnt_mkM w1 B ok1 { x with super:=s } g0 g3 g4
set_option maxHeartbeats 16000000 in
set_option maxRecDepth 100000 in
theorem link_tops.calls {w:World} {B p m n:Nat} {D:DataW Unit} {v:Value} {L0:List Ent} (hP:IsP w B p m n D v L0) (hO:∀ x ∈ L0,(ownV x.src).2.size≤1048576) (hR:∀ L,sup1 (L0.map (·.name)) L0 L0.length=some L→InR L) (hn:L0.length≤1048576) (hB:B≤w.heap.size) :
  Calls Tryd.prog 39 #[pp p] w fun e w' => e=.returned (.bool (topsV (L0.map (·.name)) L0).isSome)∧(∀ L,topsV (L0.map (·.name)) L0=some L→IsP w' B p m n D v L)∧Below B w w':=by
 obtain ⟨A,c,rfl⟩:=Kd.R_slice hP.rows
 have HP:=Aside0.mk hP
 have HO:=Aside0.mk hO
 have HR:=Aside0.mk hR
 have HN:=Aside0.mk hn
 have HBW:=Aside0.mk hB
 obtain ⟨ns,hns⟩:∃ ns,ns=L0.map (·.name):=⟨_,rfl⟩
 have HNS:=Aside0.mk hns
 rw [← hns] at HR ⊢
 obtain ⟨r,hr⟩:∃ r,r=topsV ns L0:=⟨_,rfl⟩
 rw [← hr]
 have HRR:=Aside0.mk hr
 have z0:=(blk_cell hP.blk 0).trans rfl
 clear hP hO hR hn hB hns hr
 go_enter Tryd.func39,Tryd.ntmps39
 go_wp2_with fail
 clear z0
 go_loopw [15] (fun v15 wr => ∃ (i:Nat) (L:List Ent),v15=.int .i64 (i:Int)∧Aside0 (i≤L0.length)∧Aside0 (sup1 ns L0 i=some L)∧Aside0 (IsP wr B p m n D (.slice A L0.length c) L)∧Aside0 (Below B w wr)) (fun v15 _ => ((L0.length:Int) - intOf v15).toNat)
 case atStart => exact ⟨0,L0,rfl,⟨Nat.zero_le _⟩,⟨rfl⟩,HP,⟨Below.refl _ _⟩⟩
 case round =>
  clear HP
  obtain ⟨i,L,rfl,HI,HU,HP,HB⟩:=hrel
  have HST:=Aside0.mk (sup1_st i L HU.out)
  by_cases hx:(i:Int) < (L0.length:Int)
  case pos =>
   have hpx:decide ((i:Int) < (L0.length:Int))=true:=decide_eq_true hx
   have hpn:i < L0.length:=by omega
   have HX:=Aside0.mk hpn
   obtain ⟨x,hxx⟩:∃ x,L0[i]?=some x:=⟨L0[i],List.getElem?_eq_getElem hpn⟩
   have HXX:=Aside0.mk hxx
   have HXL:Aside0 (L[i]?=some x):=⟨(HST.out.same i (Nat.le_refl _)).trans hxx⟩
   have hpl:(i:Int) < (L.length:Int):=by rw [HST.out.len];exact hx
   have HOX:=Aside0.mk (HO.out x (List.mem_of_getElem? hxx))
   obtain ⟨A',c',hv',hl',hC'⟩:=Kd.R_reads HP.out.rows
   have p1:0≤(i:Int):=by omega
   obtain ⟨ad,s,A3,c3,A4,c4,e1,hE⟩:=at_Ent hC' (i:Int) p1 hpl
   have eA:A=some ad:=by injection hv' with h1 _ _;rw [h1,e1]
   subst eA
   rw [rd_Ent_eq HXL.out,Int.toNat_natCast] at hE
   obtain ⟨T,sw,f,fn,recv,rfl,hm,hf,hnm,hbd,hcall⟩:=(src_own hE.ks).ex
   have hcf:=fun W => enters_ hf hnm hbd #[recv] W
   have HC:=Aside0.mk hcall
   have z0:=(blk_cell HP.out.blk 0).trans rfl
   have x0:=hE.e0
   replace p1:=eq_true p1
   replace hx:=eq_true hx
   clear hxx hpl hv' hl' hC' e1 hE hf hnm hbd hcall
   go_wp2_with fail
   refine HC.out.mono ?_
   clear HC hm hcf x0 z0
   rintro _ w1 ⟨rfl,hB1⟩
   have HB1:Aside0 (Below B w w1):=⟨HB.out.trans (hB1.mono (Nat.le_trans HBW.out HB.out.size))⟩
   have HP1:=Aside0.mk (HP.out.below hB1)
   clear hB1 HB HP
   by_cases h0:i=0
   case pos =>
    subst h0
    have HU2:Aside0 (sup1 ns L0 1=some L):=⟨by simp only [sup1];rw [HXX.out];exact HU.out⟩
    go_wp2
    go_roundw
    case measure =>
     have:=HX.out
     rw [intOf_i64,intOf_i64]
     first|omega|(unfold wrap64;omega)
    case rel => exact ⟨1,L,by first|rfl|exact congrArg (Value.int .i64) (by first|rfl|omega|(unfold wrap64;omega)),⟨HX.out⟩,HU2,HP1,HB1⟩
   have h0b:decide ((i:Int) > 0)=true:=decide_eq_true (by omega)
   have h0n:0 < i:=by omega
   have HKY:=Aside0.mk (Go.WideMaps.keyOf_string_mk (P:=Tryd.prog) Tryd.underlying9 (s:=(ownV x.src).2) (by have:=HOX.out;unfold maxLen;omega))
   have z1:=(blk_cell HP1.out.blk 1).trans rfl
   have hmo:=HP1.out.mo (ownV x.src).2
   rw [HST.out.names,← HNS.out] at hmo
   cases hu:idxN ns (ownV x.src).2 with
   | none =>
    rw [hu] at hmo
    have hh:Maps.has D (Lit.string (ownV x.src).2.data.toList)=false:=hmo.1
    have hT:topsV ns L0=none:=by
     unfold topsV
     rw [sup1_none (i:=i + 1) (by simp only [sup1];rw [HU.out,HXX.out];simp only [Option.bind_some];rw [if_neg h0,hu]) _ HX.out]
     rfl
    obtain rfl:r=none:=HRR.out.trans hT
    clear hmo HU hu hT HRR
    go_wp2_with (at_lookup;refine wpList_lookup_own_ok_int _ rfl _ _ 51 rfl 9 3 .i64 kString Tryd.underlying51 Tryd.underlying3 (zInt _) m n D rfl HP1.out.mp _ _ rfl HKY.out ?_;intro cv hat hwc)
    go_ret
    exact ⟨rfl,fun _ h => by (cases h),HB1.out⟩
   | some u =>
    rw [hu] at hmo
    have hh:Maps.has D (Lit.string (ownV x.src).2.data.toList)=true:=hmo.1
    have HA:=Aside0.mk hmo.2
    have sy:sSys.toList=([83,121,115]:List UInt8):=by rw [Lib.toList_data]
    by_cases hsy:(ownV x.src).2.toList=sSys.toList
    case pos =>
     have hs1:((ownV x.src).2.toList==sSys.toList)=true:=beq_iff_eq.mpr hsy
     have hs2:((ownV x.src).2.toList==([83,121,115]:List UInt8))=true:=by rw [← sy];exact hs1
     have hT:topsV ns L0=none:=by
      unfold topsV
      rw [sup1_none (i:=i + 1) (by simp only [sup1];rw [HU.out,HXX.out];simp only [Option.bind_some];rw [if_neg h0,hu];simp only [];rw [if_pos hsy]) _ HX.out]
      rfl
     obtain rfl:r=none:=HRR.out.trans hT
     clear hmo HU hu HA hsy hT HRR
     go_wp2_with (at_lookup;refine wpList_lookup_own_ok_int _ rfl _ _ 51 rfl 9 3 .i64 kString Tryd.underlying51 Tryd.underlying3 (zInt _) m n D rfl HP1.out.mp _ _ rfl HKY.out ?_;intro cv hat hwc)
     go_ret
     exact ⟨rfl,fun _ h => by (cases h),HB1.out⟩
    have hs1:((ownV x.src).2.toList==sSys.toList)=false:=beq_eq_false_iff_ne.mpr hsy
    have hs2:((ownV x.src).2.toList==([83,121,115]:List UInt8))=false:=by rw [← sy];exact hs1
    have HU2:Aside0 (sup1 ns L0 (i + 1)=some (setS L i x (u:Int))):=⟨by simp only [sup1];rw [HU.out,HXX.out];simp only [Option.bind_some];rw [if_neg h0,hu];simp only [];rw [if_neg hsy]⟩
    obtain ⟨g,cc,hvv,hBg,hfr,⟨ov,hov⟩,hset⟩:=HP1.out.setE HXL.out 2 (by decide) (.int .i64 (u:Int)) (x':={ x with super:=(u:Int) }) rfl (fun w1 ok1 cs h => ent_super _ h)
    have had:ad=⟨g,0,none⟩:=by injection hvv with h1 _ _;injection h1
    have t0:w1.cell? ⟨(ad.add (i * 7)).block,(ad.add (i * 7)).off + 2,none⟩=some ov:=by rw [adr had];exact hov
    have t1:w1.frozen? ⟨(ad.add (i * 7)).block,(ad.add (i * 7)).off + 2,none⟩=false:=by rw [adr had];exact hfr
    have HSET:Aside0 (IsP (w1.setCell ⟨(ad.add (i * 7)).block,(ad.add (i * 7)).off + 2,none⟩ (.int .i64 (u:Int))) B p m n D (.slice (some ad) L0.length c) (setS L i x (u:Int))):=⟨by rw [adr had];exact hset⟩
    have HBS:Aside0 (Below B w (w1.setCell ⟨(ad.add (i * 7)).block,(ad.add (i * 7)).off + 2,none⟩ (.int .i64 (u:Int)))):=⟨by rw [adr had];exact HB1.out.setCell (p:=⟨g,i * 7 + 2,none⟩) hBg _⟩
    have z0:=(blk_cell HP1.out.blk 0).trans rfl
    have hcu:∀ cv:Int,D.atKey (Lit.string (ownV x.src).2.data.toList) (.lit (.int .i64 0))=.lit (.int .i64 cv)→cv=(u:Int):=fun cv hat => atKey_int (hat.symm.trans HA.out)
    have HCU:=Aside0.mk hcu
    clear hmo HU hu HA hsy hvv hBg hfr hov hset had hcu
    go_wp2_with (at_lookup;refine wpList_lookup_own_ok_int _ rfl _ _ 51 rfl 9 3 .i64 kString Tryd.underlying51 Tryd.underlying3 (zInt _) m n D rfl HP1.out.mp _ _ rfl HKY.out ?_;intro cv hat hwc;obtain rfl:=HCU.out cv hat)
    go_roundw
    case measure => rw [intOf_i64,intOf_i64];exact fewerN HX.out HN.out
    case rel => exact ⟨i + 1,setS L i x (u:Int),congrArg (Value.int .i64) (wrapS HX.out HN.out),⟨HX.out⟩,HU2,HSET,HBS⟩
  have hpx:decide ((i:Int) < (L0.length:Int))=false:=decide_eq_false hx
  have hpn:¬ i < L0.length:=by omega
  have hi:i=L0.length:=by have:=HI.out;omega
  subst hi
  have HIN:=Aside0.mk (HR.out L HU.out)
  have hr1:r=if allDown L 0=true then some L else none:=by
   rw [HRR.out]
   unfold topsV
   rw [HU.out]
   rfl
  have HR1:=Aside0.mk hr1
  have HLEN:=Aside0.mk HST.out.len
  obtain ⟨A',c',hv',hl',hC'⟩:=Kd.R_reads HP.out.rows
  have HC:Aside0 (Kd.C kEnt wr A L.length L):=⟨by (injection hv' with h1 _ _;rw [h1];exact hC')⟩
  have z0:=(blk_cell HP.out.blk 0).trans rfl
  have Z0:=Aside0.mk z0
  clear hr1 hx HU HST HI HR HRR hv' hl' hC'
  go_wp2_with fail
  clear hpx hpn
  obtain ⟨W,hW⟩:∃ W,W=wr:=⟨_,rfl⟩
  subst hW
  go_loopw [61] (fun v61 wq => ∃ q:Nat,v61=.int .i64 (q:Int)∧Aside0 (q≤L0.length)∧Aside0 (r=if allDown L q=true then some L else none)∧wq=W) (fun v61 _ => ((L0.length:Int) - intOf v61).toNat)
  case atStart => exact ⟨0,rfl,⟨Nat.zero_le _⟩,HR1,by first|rfl|trivial⟩
  case round =>
   clear HR1
   obtain ⟨q,rfl,HQ,HRQ,rfl⟩:=hrel
   by_cases hx:(q:Int) < (L0.length:Int)
   case neg =>
    have hpx:decide ((q:Int) < (L0.length:Int))=false:=decide_eq_false hx
    have hpn:¬ q < L0.length:=by omega
    have hr:=HRQ.out
    rw [allDown_end (by rw [HLEN.out];omega),if_pos rfl] at hr
    subst hr
    clear hx HRQ
    go_wp2
    go_ret
    exact ⟨rfl,fun L' h => by (obtain rfl:=Option.some.inj h;exact HP.out),HB.out⟩
   have hpx:decide ((q:Int) < (L0.length:Int))=true:=decide_eq_true hx
   have hpn:q < L0.length:=by omega
   have HX:=Aside0.mk hpn
   have hr:=HRQ.out
   rw [allDown_step (show q < L.length by rw [HLEN.out];exact hpn)] at hr
   have HRW:=Aside0.mk hr
   clear hx hr HRQ
   go_wp2_with fail
   clear hpx hpn
   go_loopw [8,9] (fun v8 v9 wq => ∃ (x:Int) (st:Nat),v8=.int .i64 x∧v9=.int .i64 (st:Int)∧Aside0 (x < (L.length:Int))∧Aside0 (st≤L0.length + 1)∧Aside0 (down0 L (L.length + 1) (q:Int)=down0 L (L0.length + 1 - st) x)∧wq=wr) (fun _ v9 _ => ((L0.length:Int) + 1 - intOf v9).toNat)
   case atStart => exact ⟨(q:Int),0,rfl,rfl,⟨by rw [HLEN.out];have:=HX.out;omega⟩,⟨Nat.zero_le _⟩,⟨by rw [HLEN.out];rfl⟩,by first|rfl|trivial⟩
   case round =>
    obtain ⟨x,st,rfl,rfl,HXX,HSS,HDD,rfl⟩:=hrel
    by_cases h0:x > 0
    case neg =>
     have h0b:decide (x > 0)=false:=decide_eq_false h0
     have h0c:¬ 0 < x:=h0
     have e:down0 L (L0.length + 1 - st) x=true:=by
      cases L0.length + 1 - st with
      | zero => exact decide_eq_true h0
      | succ k => exact if_neg h0
     have hr:=HRW.out
     rw [HDD.out,e,Bool.true_and] at hr
     have HRN:=Aside0.mk hr
     clear hr e h0 HRW
     go_wp2
     go_roundw
     case measure => rw [intOf_i64,intOf_i64];exact fewerN HX.out HN.out
     case rel => exact ⟨q + 1,congrArg (Value.int .i64) (wrapS HX.out HN.out),⟨HX.out⟩,HRN,by first|rfl|trivial⟩
    have h0b:decide (x > 0)=true:=decide_eq_true h0
    have p1:0≤x:=by omega
    have q1:=HXX.out
    obtain ⟨ad,s,A3,c3,A4,c4,e1,hE⟩:=at_Ent HC.out x p1 q1
    have HRG:=Aside0.mk (HIN.out x p1 q1)
    have x2:=hE.e2
    subst e1
    by_cases hst:(st:Int) > (L0.length:Int)
    ·have hsb:decide ((st:Int) > (L0.length:Int))=true:=decide_eq_true hst
     have hsn:L0.length < st:=by omega
     have e:down0 L (L0.length + 1 - st) x=false:=by
      rw [show L0.length + 1 - st=0 by have:=HSS.out;omega]
      exact decide_eq_false (fun h => h h0)
     have hr:=HRW.out
     rw [HDD.out,e,Bool.false_and] at hr
     have hr2:r=none:=hr
     subst hr2
     have q2:(x < (L0.length:Int))=True:=eq_true (by rw [← HLEN.out];exact q1)
     replace p1:=eq_true p1
     clear hE HRW hr e hst q1
     go_wp2
     go_ret
     exact ⟨rfl,fun _ h => by (cases h),HB.out⟩
    ·have hsb:decide ((st:Int) > (L0.length:Int))=false:=decide_eq_false hst
     have hsn:¬ L0.length < st:=by omega
     have HSN:=Aside0.mk hsn
     have HD2:Aside0 (down0 L (L.length + 1) (q:Int)=down0 L (L0.length + 1 - (st + 1)) (rd_Ent L x).super):=⟨by
      rw [HDD.out,show L0.length + 1 - st=(L0.length + 1 - (st + 1)) + 1 by omega]
      exact if_pos h0⟩
     have q2:(x < (L0.length:Int))=True:=eq_true (by rw [← HLEN.out];exact q1)
     replace p1:=eq_true p1
     clear hE hst q1
     go_wp2
     go_roundw
     case measure =>
      rw [intOf_i64,intOf_i64]
      have h1:=HSN.out
      have h2:=HN.out
      first|omega|(unfold wrap64;omega)
     case rel =>
      have h1:=HSN.out
      have h2:=HN.out
      exact ⟨_,st + 1,rfl,congrArg (Value.int .i64) (by first|omega|(unfold wrap64;omega)),⟨HRG.out.2⟩,⟨by omega⟩,HD2,by first|rfl|trivial⟩
end Go.Proofs.YtoonhpcjcimecaaDoor.Px
namespace Go.Proofs.YtoonhpcjcimecaaDoor.Px
open Go.RowKit Go.Proofs.YtoonhpcjcimecaaDoorW.PrintWords Go.Proofs.YtoonhpcjcimecaaDoorW.PrintLast Go.Proofs.YtoonhpcjcimecaaDoorW.PrintMore
set_option linter.unusedVariables false
set_option linter.unusedSimpArgs false
abbrev noTy:Ty:=(0,BA [],0,0,0)
abbrev tyS (t:Ty):S78:=⟨t.1,t.2.1,t.2.2.1,t.2.2.2.1,t.2.2.2.2⟩
abbrev Me:Type:=List S78 × Ty × Int
def noMe:Me:=([],noTy,80)
def lastV (xs:List S78) (r:List UInt8):Me :=
 if r=[] then noMe else if r=[41,86] then (xs,(8,BA [],0,0,0),0) else if (FieldV (r.drop 1)).2=0 then (xs,(FieldV (r.drop 1)).1,0) else ([],noTy,(FieldV (r.drop 1)).2)
def methL:Nat→List S78→List UInt8→Me
 | 0,_,_ => noMe
 | n + 1,xs,r => if r=[] ∨ r.head?=some 41 then lastV xs r else match kFieldV r with
  | none => noMe
  | some (t,u) => if xs.length=16 then noMe else methL n (xs++[tyS t]) u
def kMethV (l:List UInt8):Me:=if l.head?=some 40 then methL (l.length + 1) [] (l.drop 1) else noMe
def mAns (q:Me):List S78 × Int × ByteArray × Int × Int × Int × Int:=(q.1,q.2.1.1,q.2.1.2.1,q.2.1.2.2.1,q.2.1.2.2.2.1,q.2.1.2.2.2.2,q.2.2)
theorem kind_meth_last.ev (l:List UInt8) (hl:l.length≤4294967280) (a:Nat) (ha:a≤l.length) (xs:List S78) :
  Ev (fun k => kind_Method.j1 k xs false (BA l) (a:Int)) (mAns (lastV xs (l.drop a))):=by
 refine Ev.step (f:=fun k => if l.drop a=[] then some (mAns noMe) else if l.drop a=[41,86] then some (mAns (xs,(8,BA [],0,0,0),0)) else (kind_Field.f k (BA ((l.drop a).drop 1))).bind fun q => if q.2.2.2.2.2=0 then some (xs,q.1,q.2.1,q.2.2.1,q.2.2.2.1,q.2.2.2.2.1,0) else some ([],0,BA [],0,0,0,q.2.2.2.2.2)) (fun k => ?_) ?_
 ·simp only [kind_Method.j1]
  rw [if_neg (by simp),kind_left.eq l a ha,Option.bind_some]
  simp only [BA_list]
  by_cases h1:l.drop a=[]
  ·rw [if_pos h1,if_pos h1];rfl
  ·rw [if_neg h1,if_neg h1]
   by_cases h2:l.drop a=[41,86]
   ·rw [if_pos h2,if_pos h2];rfl
   ·rw [if_neg h2,if_neg h2]
    rw [kind_left.eq l a ha,Option.bind_some]
    dsimp only
    rw [if_pos,BA_drop]
    rw [BA_size]
    cases e:l.drop a with
    | nil => exact absurd e h1
    | cons c t => rw [List.length_cons];omega
 ·unfold lastV
  by_cases h1:l.drop a=[]
  ·simp only [if_pos h1];exact Ev.now _
  ·simp only [if_neg h1]
   by_cases h2:l.drop a=[41,86]
   ·simp only [if_pos h2];exact Ev.now _
   ·simp only [if_neg h2]
    refine Ev.bind (kind_Field.ev _ (by rw [List.length_drop,List.length_drop];omega)) ?_
    simp only [fAns]
    by_cases h3:(FieldV ((l.drop a).drop 1)).2=0
    ·rw [if_pos h3]
     refine Ev.congr (f:=fun _ => some (xs,(FieldV ((l.drop a).drop 1)).1.1,(FieldV ((l.drop a).drop 1)).1.2.1,(FieldV ((l.drop a).drop 1)).1.2.2.1,(FieldV ((l.drop a).drop 1)).1.2.2.2.1,(FieldV ((l.drop a).drop 1)).1.2.2.2.2,0)) (fun k => if_pos h3) (Ev.now _)
    ·rw [if_neg h3]
     refine Ev.congr (f:=fun _ => some ([],0,BA [],0,0,0,(FieldV ((l.drop a).drop 1)).2)) (fun k => if_neg h3) (Ev.now _)
theorem kind_meth_l0.ev (l:List UInt8) (hl:l.length≤4294967280):∀ n a xs,l.length - a < n→a≤l.length→xs.length≤16 →
  Ev (fun k => kind_Method.l0 k xs (BA l) (a:Int)) (mAns (methL n xs (l.drop a))):=by
 intro n
 induction n with
 | zero => intro a xs h;omega
 | succ n ih =>
  intro a xs h1 ha hx
  simp only [methL]
  cases e:l.drop a with
  | nil =>
   rw [if_pos (.inl rfl)]
   have h:=kind_meth_last.ev l hl a ha xs
   rw [e] at h
   refine Ev.step (fun k => ?_) h
   simp only [kind_Method.l0]
   rw [kind_left.eq l a ha,Option.bind_some,e]
   simp only [BA_list]
   rfl
  | cons c t =>
   have hlen:l.length - a=t.length + 1:=by have:=congrArg List.length e;rw [List.length_drop] at this;simpa using this
   have hstep:∀ k,kind_Method.l0 (k + 1) xs (BA l) (a:Int)=kind_Method.j1 k xs (decide ((c.toNat:Int) ≠ 41)) (BA l) (a:Int):=by
    intro k
    simp only [kind_Method.l0]
    rw [kind_left.eq l a ha,Option.bind_some,e]
    simp only [BA_list]
    rw [if_neg (by simp),kind_left.eq l a ha,Option.bind_some,e]
    dsimp only
    rw [if_pos (by rw [BA_size,List.length_cons];omega),bt_BA0]
    congr 1
    by_cases h:((c.toNat:Int)=41) <;> simp [h]
   by_cases hc:c=41
   ·rw [if_pos (.inr (by rw [hc];rfl))]
    have h:=kind_meth_last.ev l hl a ha xs
    rw [e] at h
    refine Ev.step (fun k => ?_) h
    rw [hstep,hc]
    rfl
   ·have hc':¬ (c.toNat:Int)=41:=fun h => hc ((u8_int c 41 (by decide)).1 h)
    rw [if_neg (by simp [hc])]
    refine Ev.step (f:=fun k => kind_Method.j1 k xs true (BA l) (a:Int)) (fun k => ?_) ?_
    ·rw [hstep,decide_eq_true hc']
    have hf:=kind_field.ev l hl a ha
    refine Ev.step (f:=fun k => (kind_scan_field.f k (BA l) (a:Int)).bind fun bt240 => (if bt240.2.2.2.2.2.1=true then (if (xs.length:Int)=16 then (some (([]:List (S78)),0,(⟨#[]⟩:ByteArray),0,0,0,80)) else (if xs.length < 2932031007402 then (kind_Method.l0 k (xs++[(⟨bt240.1,bt240.2.1,bt240.2.2.1,bt240.2.2.2.1,bt240.2.2.2.2.1⟩:S78)]) bt240.2.2.2.2.2.2.1 bt240.2.2.2.2.2.2.2) else (none))) else (some (([]:List (S78)),0,(⟨#[]⟩:ByteArray),0,0,0,80)))) (fun k => ?_) ?_
    ·simp only [kind_Method.j1,if_true]
    rw [e] at hf
    refine Ev.bind hf ?_
    cases ef:kFieldV (c :: t) with
    | none => simp only [kAns,Bool.false_eq_true,if_false];exact Ev.now _
    | some q =>
     obtain ⟨T,u⟩:=q
     obtain ⟨h2,h3⟩:=kFieldV_len _ _ _ ef
     simp only [kAns,if_true]
     by_cases hx16:xs.length=16
     ·simp only [hx16,if_pos (show ((16:Nat):Int)=16 from rfl),if_true];exact Ev.now _
     ·simp only [if_neg hx16,if_neg (show ¬ (xs.length:Int)=16 by omega),if_pos (show xs.length < 2932031007402 by omega)]
      rw [List.length_cons] at h2
      have h5:=ih (l.length - u.length) (xs++[tyS T]) (by omega) (by omega) (by rw [List.length_append,List.length_singleton];omega)
      have h6:l.drop (l.length - u.length)=u:=by
       rw [← e,List.length_drop,List.drop_drop] at h3
       rw [show l.length - u.length=a + (l.length - a - u.length) by omega]
       exact h3
      rw [h6] at h5
      exact h5
theorem kind_Method.ev (l:List UInt8) (hl:l.length≤4294967280):Ev (fun k => kind_Method.f k (BA l)) (mAns (kMethV l)):=by
 unfold kind_Method.f
 rw [show ((⟨#[40]⟩:ByteArray))=BA [40] from rfl]
 simp only [hasPrefix1.eq,Option.bind_some]
 unfold kMethV
 cases l with
 | nil => simp only [List.head?_nil];exact Ev.now _
 | cons c t =>
  by_cases hc:c=40
  ·simp only [List.head?_cons,hc,beq_self_eq_true,if_true]
   rw [← hc]
   exact kind_meth_l0.ev (c :: t) hl _ 1 [] (by omega) (by rw [List.length_cons];omega) (by simp)
  ·have h1:((some c:Option UInt8)==some 40)=false:=by simpa using hc
   have h2:¬ (some c:Option UInt8)=some 40:=by simpa using hc
   rw [List.head?_cons,if_neg h2]
   simp only [h1,Bool.false_eq_true,if_false]
   exact Ev.now _
end Go.Proofs.YtoonhpcjcimecaaDoor.Px
