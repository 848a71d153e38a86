/- Test: the data as Lean structures, codes of types, typed values, immutable values. Conditions: none. -/
import Derived.WalkKit
import Derived.KernelRfl
namespace Go.Hh
open Go
structure Val where
 kind : Int
 n : Int
 s : ByteArray
structure KeyV where
 dev : Int
 cluster : ByteArray
 attr : ByteArray
structure EventV where
 dev : Int
 cluster : ByteArray
 name : ByteArray
structure Req where
 kind : Int
 nonce : Int
 key : KeyV
 name : ByteArray
 value : Val
 text : ByteArray
structure AskedV where
 token : ByteArray
 request : Req
structure ActV where
 kind : Int
 n : Int
 m : Int
 key : KeyV
 value : Val
 event : EventV
 asked : AskedV
structure Effect where
 kind : Int
 attr : ByteArray
 n : Int
structure Attr where
 name : ByteArray
 kind : Int
 min : Int
 max : Int
 enum : List ByteArray
 writable : Bool
 safety : Bool
structure Command where
 name : ByteArray
 param : Attr
 effects : List Effect
structure Cluster where
 name : ByteArray
 attrs : List Attr
 commands : List Command
 events : List ByteArray
structure Dev where
 id : Int
 eui : Int
 vendor : Int
 sleepy : Bool
 poll : Int
 room : ByteArray
 clusters : List ByteArray
structure Home where
 clusters : List Cluster
 devices : List Dev
structure Change where
 at_ : Int
 offset : Int
structure Zone where
 offset : Int
 changes : List Change
structure ExprV where
 kind : Int
 n : Int
 m : Int
 name : ByteArray
 value : Val
 key : KeyV
 kids : List ExprV
structure ItemV where
 key : KeyV
 value : Val
 version : Int
structure LockV where
 name : ByteArray
 rank : Int
 when : ExprV
 latch : Bool
 force : List ItemV
 forbid : List ItemV
structure Config where
 home : Home
 modes : List ByteArray
 locks : List LockV
 zone : Zone
 key : Int
structure SpanV where
 from_ : Int
 to_ : Int
structure Member where
 name : ByteArray
 role : Int
 spans : List SpanV
 rooms : List ByteArray
 home : Bool
structure Window where
 top : Int
 bits : Int
structure Guest where
 member : ByteArray
 window : Window
structure Cause where
 kind : Int
 name : ByteArray
 priority : Int
structure WriteV where
 key : KeyV
 value : Val
 cause : Cause
 order : Int
structure Session where
 member : ByteArray
 id : Int
 issued : Int
 expires : Int
structure Case where
 c : Config
 members : List Member
 windows : List Guest
 revoked : List Int
 a : AskedV
 now : Int
 week : Int
structure Rd where
 rest : ByteArray
 err : Int
 made : Bool
structure Rd2 where
 s : ByteArray
 at_ : Int
 bad : Int
 made : Bool
end Go.Hh
namespace Go.Av
open Go Go.Hh
inductive TC where
 | str
 | i64
 | bool
 | u8
 | Val
 | KeyV
 | EventV
 | Req
 | AskedV
 | ActV
 | Effect
 | Attr
 | Command
 | Cluster
 | Dev
 | Home
 | Change
 | Zone
 | ExprV
 | ItemV
 | LockV
 | Config
 | SpanV
 | Member
 | Window
 | Guest
 | Cause
 | WriteV
 | Session
 | Case
 | Rd
 | Rd2
 deriving DecidableEq
def allTC : List TC := [.str, .i64, .bool, .u8, .Val, .KeyV, .EventV, .Req, .AskedV, .ActV, .Effect, .Attr, .Command, .Cluster, .Dev, .Home, .Change, .Zone, .ExprV, .ItemV, .LockV, .Config, .SpanV, .Member, .Window, .Guest, .Cause, .WriteV, .Session, .Case, .Rd, .Rd2]
@[reducible] def tbl : TC → Type
 | .str => ByteArray
 | .i64 => Int
 | .bool => Bool
 | .u8 => Int
 | .Val => Val
 | .KeyV => KeyV
 | .EventV => EventV
 | .Req => Req
 | .AskedV => AskedV
 | .ActV => ActV
 | .Effect => Effect
 | .Attr => Attr
 | .Command => Command
 | .Cluster => Cluster
 | .Dev => Dev
 | .Home => Home
 | .Change => Change
 | .Zone => Zone
 | .ExprV => ExprV
 | .ItemV => ItemV
 | .LockV => LockV
 | .Config => Config
 | .SpanV => SpanV
 | .Member => Member
 | .Window => Window
 | .Guest => Guest
 | .Cause => Cause
 | .WriteV => WriteV
 | .Session => Session
 | .Case => Case
 | .Rd => Rd
 | .Rd2 => Rd2
def dT : (i : TC) → tbl i
 | .str => ⟨#[]⟩
 | .i64 => 0
 | .bool => false
 | .u8 => 0
 | .Val => ⟨0, 0, ⟨#[]⟩⟩
 | .KeyV => ⟨0, ⟨#[]⟩, ⟨#[]⟩⟩
 | .EventV => ⟨0, ⟨#[]⟩, ⟨#[]⟩⟩
 | .Req => ⟨0, 0, ⟨0, ⟨#[]⟩, ⟨#[]⟩⟩, ⟨#[]⟩, ⟨0, 0, ⟨#[]⟩⟩, ⟨#[]⟩⟩
 | .AskedV => ⟨⟨#[]⟩, ⟨0, 0, ⟨0, ⟨#[]⟩, ⟨#[]⟩⟩, ⟨#[]⟩, ⟨0, 0, ⟨#[]⟩⟩, ⟨#[]⟩⟩⟩
 | .ActV => ⟨0, 0, 0, ⟨0, ⟨#[]⟩, ⟨#[]⟩⟩, ⟨0, 0, ⟨#[]⟩⟩, ⟨0, ⟨#[]⟩, ⟨#[]⟩⟩, ⟨⟨#[]⟩, ⟨0, 0, ⟨0, ⟨#[]⟩, ⟨#[]⟩⟩, ⟨#[]⟩, ⟨0, 0, ⟨#[]⟩⟩, ⟨#[]⟩⟩⟩⟩
 | .Effect => ⟨0, ⟨#[]⟩, 0⟩
 | .Attr => ⟨⟨#[]⟩, 0, 0, 0, [], false, false⟩
 | .Command => ⟨⟨#[]⟩, ⟨⟨#[]⟩, 0, 0, 0, [], false, false⟩, []⟩
 | .Cluster => ⟨⟨#[]⟩, [], [], []⟩
 | .Dev => ⟨0, 0, 0, false, 0, ⟨#[]⟩, []⟩
 | .Home => ⟨[], []⟩
 | .Change => ⟨0, 0⟩
 | .Zone => ⟨0, []⟩
 | .ExprV => ⟨0, 0, 0, ⟨#[]⟩, ⟨0, 0, ⟨#[]⟩⟩, ⟨0, ⟨#[]⟩, ⟨#[]⟩⟩, []⟩
 | .ItemV => ⟨⟨0, ⟨#[]⟩, ⟨#[]⟩⟩, ⟨0, 0, ⟨#[]⟩⟩, 0⟩
 | .LockV => ⟨⟨#[]⟩, 0, ⟨0, 0, 0, ⟨#[]⟩, ⟨0, 0, ⟨#[]⟩⟩, ⟨0, ⟨#[]⟩, ⟨#[]⟩⟩, []⟩, false, [], []⟩
 | .Config => ⟨⟨[], []⟩, [], [], ⟨0, []⟩, 0⟩
 | .SpanV => ⟨0, 0⟩
 | .Member => ⟨⟨#[]⟩, 0, [], [], false⟩
 | .Window => ⟨0, 0⟩
 | .Guest => ⟨⟨#[]⟩, ⟨0, 0⟩⟩
 | .Cause => ⟨0, ⟨#[]⟩, 0⟩
 | .WriteV => ⟨⟨0, ⟨#[]⟩, ⟨#[]⟩⟩, ⟨0, 0, ⟨#[]⟩⟩, ⟨0, ⟨#[]⟩, 0⟩, 0⟩
 | .Session => ⟨⟨#[]⟩, 0, 0, 0⟩
 | .Case => ⟨⟨⟨[], []⟩, [], [], ⟨0, []⟩, 0⟩, [], [], [], ⟨⟨#[]⟩, ⟨0, 0, ⟨0, ⟨#[]⟩, ⟨#[]⟩⟩, ⟨#[]⟩, ⟨0, 0, ⟨#[]⟩⟩, ⟨#[]⟩⟩⟩, 0, 0⟩
 | .Rd => ⟨⟨#[]⟩, 0, false⟩
 | .Rd2 => ⟨⟨#[]⟩, 0, 0, false⟩
inductive Rt where
 | int (k : IntKind)
 | bool
 | str
 | li (c : TC)
 | st (c : TC)
 | pr (x y : Rt)
 | un
 | mp (k v : Rt)
 deriving DecidableEq
@[reducible] def Rt.den : Rt → Type
 | .int _ => Int
 | .bool => Bool
 | .str => ByteArray
 | .li c => List (tbl c)
 | .st c => tbl c
 | .pr x y => x.den × y.den
 | .un => Unit
 | .mp k v => List (k.den × v.den)
def Rt.dflt : (r : Rt) → r.den
 | .int _ => (0 : Int)
 | .bool => false
 | .str => (⟨#[]⟩ : ByteArray)
 | .li c => ([] : List (tbl c))
 | .st c => dT c
 | .pr x y => (x.dflt, y.dflt)
 | .un => ()
 | .mp k v => ([] : List (k.den × v.den))
structure Dyn where
 r : Rt
 v : r.den
def Dyn.d : Dyn := ⟨.un, ()⟩
def Dyn.as (r : Rt) (d : Dyn) : r.den :=
 match decEq d.r r with
 | .isTrue h => h ▸ d.v
 | .isFalse _ => r.dflt
inductive RV where
 | v (x : Value)
 | ptr (cs : List RV)
 | sl (n : Nat) (es : List (List RV))
 | mp (agg : Bool) (ks : List Value) (vs : List (List RV))
 | li (i : TC) (l : List (tbl i))
def rv0 : (r : Rt) → r.den → RV
 | .int k, n => .v (.int k n)
 | .bool, b => .v (.bool b)
 | .str, x => .v (.string x)
 | .li c, l => .li c l
 | _, _ => .v undef
def keyV : (r : Rt) → r.den → Value
 | .int k, n => .int k n
 | .bool, b => .bool b
 | .str, x => .string x
 | _, _ => undef
def Rt.agg : Rt → Bool
 | .st _ => true
 | _ => false
end Go.Av
namespace Go.Hh
open Go Go.Av
def Val.cd (x : Val) : List Dyn := [⟨.int .i64, x.kind⟩, ⟨.int .i64, x.n⟩, ⟨.str, x.s⟩]
def KeyV.cd (x : KeyV) : List Dyn := [⟨.int .i64, x.dev⟩, ⟨.str, x.cluster⟩, ⟨.str, x.attr⟩]
def EventV.cd (x : EventV) : List Dyn := [⟨.int .i64, x.dev⟩, ⟨.str, x.cluster⟩, ⟨.str, x.name⟩]
def Req.cd (x : Req) : List Dyn := ⟨.int .i64, x.kind⟩ :: ⟨.int .i64, x.nonce⟩ :: (x.key.cd ++ ⟨.str, x.name⟩ :: (x.value.cd ++ [⟨.str, x.text⟩]))
def AskedV.cd (x : AskedV) : List Dyn := ⟨.str, x.token⟩ :: x.request.cd
def ActV.cd (x : ActV) : List Dyn := ⟨.int .i64, x.kind⟩ :: ⟨.int .i64, x.n⟩ :: ⟨.int .i64, x.m⟩ :: (x.key.cd ++ (x.value.cd ++ (x.event.cd ++ x.asked.cd)))
def Effect.cd (x : Effect) : List Dyn := [⟨.int .i64, x.kind⟩, ⟨.str, x.attr⟩, ⟨.int .i64, x.n⟩]
def Attr.cd (x : Attr) : List Dyn := [⟨.str, x.name⟩, ⟨.int .i64, x.kind⟩, ⟨.int .i64, x.min⟩, ⟨.int .i64, x.max⟩, ⟨.li .str, x.enum⟩, ⟨.bool, x.writable⟩, ⟨.bool, x.safety⟩]
def Command.cd (x : Command) : List Dyn := ⟨.str, x.name⟩ :: (x.param.cd ++ [⟨.li .Effect, x.effects⟩])
def Cluster.cd (x : Cluster) : List Dyn := [⟨.str, x.name⟩, ⟨.li .Attr, x.attrs⟩, ⟨.li .Command, x.commands⟩, ⟨.li .str, x.events⟩]
def Dev.cd (x : Dev) : List Dyn := [⟨.int .i64, x.id⟩, ⟨.int .u64, x.eui⟩, ⟨.int .i64, x.vendor⟩, ⟨.bool, x.sleepy⟩, ⟨.int .i64, x.poll⟩, ⟨.str, x.room⟩, ⟨.li .str, x.clusters⟩]
def Home.cd (x : Home) : List Dyn := [⟨.li .Cluster, x.clusters⟩, ⟨.li .Dev, x.devices⟩]
def Change.cd (x : Change) : List Dyn := [⟨.int .i64, x.at_⟩, ⟨.int .i64, x.offset⟩]
def Zone.cd (x : Zone) : List Dyn := [⟨.int .i64, x.offset⟩, ⟨.li .Change, x.changes⟩]
def ExprV.cd (x : ExprV) : List Dyn := ⟨.int .i64, x.kind⟩ :: ⟨.int .i64, x.n⟩ :: ⟨.int .i64, x.m⟩ :: ⟨.str, x.name⟩ :: (x.value.cd ++ (x.key.cd ++ [⟨.li .ExprV, x.kids⟩]))
def ItemV.cd (x : ItemV) : List Dyn := (x.key.cd ++ (x.value.cd ++ [⟨.int .i64, x.version⟩]))
def LockV.cd (x : LockV) : List Dyn := ⟨.str, x.name⟩ :: ⟨.int .i64, x.rank⟩ :: (x.when.cd ++ [⟨.bool, x.latch⟩, ⟨.li .ItemV, x.force⟩, ⟨.li .ItemV, x.forbid⟩])
def Config.cd (x : Config) : List Dyn := (x.home.cd ++ ⟨.li .str, x.modes⟩ :: ⟨.li .LockV, x.locks⟩ :: (x.zone.cd ++ [⟨.int .u64, x.key⟩]))
def SpanV.cd (x : SpanV) : List Dyn := [⟨.int .i64, x.from_⟩, ⟨.int .i64, x.to_⟩]
def Member.cd (x : Member) : List Dyn := [⟨.str, x.name⟩, ⟨.int .i64, x.role⟩, ⟨.li .SpanV, x.spans⟩, ⟨.li .str, x.rooms⟩, ⟨.bool, x.home⟩]
def Window.cd (x : Window) : List Dyn := [⟨.int .i64, x.top⟩, ⟨.int .u64, x.bits⟩]
def Guest.cd (x : Guest) : List Dyn := ⟨.str, x.member⟩ :: x.window.cd
def Cause.cd (x : Cause) : List Dyn := [⟨.int .i64, x.kind⟩, ⟨.str, x.name⟩, ⟨.int .i64, x.priority⟩]
def WriteV.cd (x : WriteV) : List Dyn := (x.key.cd ++ (x.value.cd ++ (x.cause.cd ++ [⟨.int .i64, x.order⟩])))
def Session.cd (x : Session) : List Dyn := [⟨.str, x.member⟩, ⟨.int .i64, x.id⟩, ⟨.int .i64, x.issued⟩, ⟨.int .i64, x.expires⟩]
def Case.cd (x : Case) : List Dyn := (x.c.cd ++ ⟨.li .Member, x.members⟩ :: ⟨.li .Guest, x.windows⟩ :: ⟨.li .i64, x.revoked⟩ :: (x.a.cd ++ [⟨.int .i64, x.now⟩, ⟨.int .i64, x.week⟩]))
def Rd.cd (x : Rd) : List Dyn := [⟨.str, x.rest⟩, ⟨.int .i64, x.err⟩, ⟨.bool, x.made⟩]
def Rd2.cd (x : Rd2) : List Dyn := [⟨.str, x.s⟩, ⟨.int .i64, x.at_⟩, ⟨.int .i64, x.bad⟩, ⟨.bool, x.made⟩]
end Go.Hh
namespace Go.Av
open Go Go.Hh
def cD : (i : TC) → tbl i → List Dyn
 | .str, x => [⟨.str, x⟩]
 | .i64, x => [⟨.int .i64, x⟩]
 | .bool, x => [⟨.bool, x⟩]
 | .u8, x => [⟨.int .u8, x⟩]
 | .Val, x => x.cd
 | .KeyV, x => x.cd
 | .EventV, x => x.cd
 | .Req, x => x.cd
 | .AskedV, x => x.cd
 | .ActV, x => x.cd
 | .Effect, x => x.cd
 | .Attr, x => x.cd
 | .Command, x => x.cd
 | .Cluster, x => x.cd
 | .Dev, x => x.cd
 | .Home, x => x.cd
 | .Change, x => x.cd
 | .Zone, x => x.cd
 | .ExprV, x => x.cd
 | .ItemV, x => x.cd
 | .LockV, x => x.cd
 | .Config, x => x.cd
 | .SpanV, x => x.cd
 | .Member, x => x.cd
 | .Window, x => x.cd
 | .Guest, x => x.cd
 | .Cause, x => x.cd
 | .WriteV, x => x.cd
 | .Session, x => x.cd
 | .Case, x => x.cd
 | .Rd, x => x.cd
 | .Rd2, x => x.cd
def valC : (r : Rt) → r.den → List RV
 | .st c, x => (cD c x).map fun d => rv0 d.r d.v
 | r, x => [rv0 r x]
def rvT : (r : Rt) → r.den → RV
 | .mp k v, l => .mp v.agg (l.map fun p => keyV k p.1) (l.map fun p => valC v p.2)
 | r, x => rv0 r x
def Dyn.rv (d : Dyn) : RV := rvT d.r d.v
def fT : TC → List Rt
 | .str => [.str]
 | .i64 => [.int .i64]
 | .bool => [.bool]
 | .u8 => [.int .u8]
 | .Val => [.int .i64, .int .i64, .str]
 | .KeyV => [.int .i64, .str, .str]
 | .EventV => [.int .i64, .str, .str]
 | .Req => [.int .i64, .int .i64, .int .i64, .str, .str, .str, .int .i64, .int .i64, .str, .str]
 | .AskedV => [.str, .int .i64, .int .i64, .int .i64, .str, .str, .str, .int .i64, .int .i64, .str, .str]
 | .ActV => [.int .i64, .int .i64, .int .i64, .int .i64, .str, .str, .int .i64, .int .i64, .str, .int .i64, .str, .str, .str, .int .i64, .int .i64, .int .i64, .str, .str, .str, .int .i64, .int .i64, .str, .str]
 | .Effect => [.int .i64, .str, .int .i64]
 | .Attr => [.str, .int .i64, .int .i64, .int .i64, .li .str, .bool, .bool]
 | .Command => [.str, .str, .int .i64, .int .i64, .int .i64, .li .str, .bool, .bool, .li .Effect]
 | .Cluster => [.str, .li .Attr, .li .Command, .li .str]
 | .Dev => [.int .i64, .int .u64, .int .i64, .bool, .int .i64, .str, .li .str]
 | .Home => [.li .Cluster, .li .Dev]
 | .Change => [.int .i64, .int .i64]
 | .Zone => [.int .i64, .li .Change]
 | .ExprV => [.int .i64, .int .i64, .int .i64, .str, .int .i64, .int .i64, .str, .int .i64, .str, .str, .li .ExprV]
 | .ItemV => [.int .i64, .str, .str, .int .i64, .int .i64, .str, .int .i64]
 | .LockV => [.str, .int .i64, .int .i64, .int .i64, .int .i64, .str, .int .i64, .int .i64, .str, .int .i64, .str, .str, .li .ExprV, .bool, .li .ItemV, .li .ItemV]
 | .Config => [.li .Cluster, .li .Dev, .li .str, .li .LockV, .int .i64, .li .Change, .int .u64]
 | .SpanV => [.int .i64, .int .i64]
 | .Member => [.str, .int .i64, .li .SpanV, .li .str, .bool]
 | .Window => [.int .i64, .int .u64]
 | .Guest => [.str, .int .i64, .int .u64]
 | .Cause => [.int .i64, .str, .int .i64]
 | .WriteV => [.int .i64, .str, .str, .int .i64, .int .i64, .str, .int .i64, .str, .int .i64, .int .i64]
 | .Session => [.str, .int .i64, .int .i64, .int .i64]
 | .Case => [.li .Cluster, .li .Dev, .li .str, .li .LockV, .int .i64, .li .Change, .int .u64, .li .Member, .li .Guest, .li .i64, .str, .int .i64, .int .i64, .int .i64, .str, .str, .str, .int .i64, .int .i64, .str, .str, .int .i64, .int .i64]
 | .Rd => [.str, .int .i64, .bool]
 | .Rd2 => [.str, .int .i64, .int .i64, .bool]
def mT : (i : TC) → List Dyn → tbl i
 | .str, l => (l.getD 0 Dyn.d).as (.str)
 | .i64, l => (l.getD 0 Dyn.d).as (.int .i64)
 | .bool, l => (l.getD 0 Dyn.d).as (.bool)
 | .u8, l => (l.getD 0 Dyn.d).as (.int .u8)
 | .Val, l => ⟨(l.getD 0 Dyn.d).as (.int .i64), (l.getD 1 Dyn.d).as (.int .i64), (l.getD 2 Dyn.d).as (.str)⟩
 | .KeyV, l => ⟨(l.getD 0 Dyn.d).as (.int .i64), (l.getD 1 Dyn.d).as (.str), (l.getD 2 Dyn.d).as (.str)⟩
 | .EventV, l => ⟨(l.getD 0 Dyn.d).as (.int .i64), (l.getD 1 Dyn.d).as (.str), (l.getD 2 Dyn.d).as (.str)⟩
 | .Req, l => ⟨(l.getD 0 Dyn.d).as (.int .i64), (l.getD 1 Dyn.d).as (.int .i64), ⟨(l.getD 2 Dyn.d).as (.int .i64), (l.getD 3 Dyn.d).as (.str), (l.getD 4 Dyn.d).as (.str)⟩, (l.getD 5 Dyn.d).as (.str), ⟨(l.getD 6 Dyn.d).as (.int .i64), (l.getD 7 Dyn.d).as (.int .i64), (l.getD 8 Dyn.d).as (.str)⟩, (l.getD 9 Dyn.d).as (.str)⟩
 | .AskedV, l => ⟨(l.getD 0 Dyn.d).as (.str), ⟨(l.getD 1 Dyn.d).as (.int .i64), (l.getD 2 Dyn.d).as (.int .i64), ⟨(l.getD 3 Dyn.d).as (.int .i64), (l.getD 4 Dyn.d).as (.str), (l.getD 5 Dyn.d).as (.str)⟩, (l.getD 6 Dyn.d).as (.str), ⟨(l.getD 7 Dyn.d).as (.int .i64), (l.getD 8 Dyn.d).as (.int .i64), (l.getD 9 Dyn.d).as (.str)⟩, (l.getD 10 Dyn.d).as (.str)⟩⟩
 | .ActV, l => ⟨(l.getD 0 Dyn.d).as (.int .i64), (l.getD 1 Dyn.d).as (.int .i64), (l.getD 2 Dyn.d).as (.int .i64), ⟨(l.getD 3 Dyn.d).as (.int .i64), (l.getD 4 Dyn.d).as (.str), (l.getD 5 Dyn.d).as (.str)⟩, ⟨(l.getD 6 Dyn.d).as (.int .i64), (l.getD 7 Dyn.d).as (.int .i64), (l.getD 8 Dyn.d).as (.str)⟩, ⟨(l.getD 9 Dyn.d).as (.int .i64), (l.getD 10 Dyn.d).as (.str), (l.getD 11 Dyn.d).as (.str)⟩, ⟨(l.getD 12 Dyn.d).as (.str), ⟨(l.getD 13 Dyn.d).as (.int .i64), (l.getD 14 Dyn.d).as (.int .i64), ⟨(l.getD 15 Dyn.d).as (.int .i64), (l.getD 16 Dyn.d).as (.str), (l.getD 17 Dyn.d).as (.str)⟩, (l.getD 18 Dyn.d).as (.str), ⟨(l.getD 19 Dyn.d).as (.int .i64), (l.getD 20 Dyn.d).as (.int .i64), (l.getD 21 Dyn.d).as (.str)⟩, (l.getD 22 Dyn.d).as (.str)⟩⟩⟩
 | .Effect, l => ⟨(l.getD 0 Dyn.d).as (.int .i64), (l.getD 1 Dyn.d).as (.str), (l.getD 2 Dyn.d).as (.int .i64)⟩
 | .Attr, l => ⟨(l.getD 0 Dyn.d).as (.str), (l.getD 1 Dyn.d).as (.int .i64), (l.getD 2 Dyn.d).as (.int .i64), (l.getD 3 Dyn.d).as (.int .i64), (l.getD 4 Dyn.d).as (.li .str), (l.getD 5 Dyn.d).as (.bool), (l.getD 6 Dyn.d).as (.bool)⟩
 | .Command, l => ⟨(l.getD 0 Dyn.d).as (.str), ⟨(l.getD 1 Dyn.d).as (.str), (l.getD 2 Dyn.d).as (.int .i64), (l.getD 3 Dyn.d).as (.int .i64), (l.getD 4 Dyn.d).as (.int .i64), (l.getD 5 Dyn.d).as (.li .str), (l.getD 6 Dyn.d).as (.bool), (l.getD 7 Dyn.d).as (.bool)⟩, (l.getD 8 Dyn.d).as (.li .Effect)⟩
 | .Cluster, l => ⟨(l.getD 0 Dyn.d).as (.str), (l.getD 1 Dyn.d).as (.li .Attr), (l.getD 2 Dyn.d).as (.li .Command), (l.getD 3 Dyn.d).as (.li .str)⟩
 | .Dev, l => ⟨(l.getD 0 Dyn.d).as (.int .i64), (l.getD 1 Dyn.d).as (.int .u64), (l.getD 2 Dyn.d).as (.int .i64), (l.getD 3 Dyn.d).as (.bool), (l.getD 4 Dyn.d).as (.int .i64), (l.getD 5 Dyn.d).as (.str), (l.getD 6 Dyn.d).as (.li .str)⟩
 | .Home, l => ⟨(l.getD 0 Dyn.d).as (.li .Cluster), (l.getD 1 Dyn.d).as (.li .Dev)⟩
 | .Change, l => ⟨(l.getD 0 Dyn.d).as (.int .i64), (l.getD 1 Dyn.d).as (.int .i64)⟩
 | .Zone, l => ⟨(l.getD 0 Dyn.d).as (.int .i64), (l.getD 1 Dyn.d).as (.li .Change)⟩
 | .ExprV, l => ⟨(l.getD 0 Dyn.d).as (.int .i64), (l.getD 1 Dyn.d).as (.int .i64), (l.getD 2 Dyn.d).as (.int .i64), (l.getD 3 Dyn.d).as (.str), ⟨(l.getD 4 Dyn.d).as (.int .i64), (l.getD 5 Dyn.d).as (.int .i64), (l.getD 6 Dyn.d).as (.str)⟩, ⟨(l.getD 7 Dyn.d).as (.int .i64), (l.getD 8 Dyn.d).as (.str), (l.getD 9 Dyn.d).as (.str)⟩, (l.getD 10 Dyn.d).as (.li .ExprV)⟩
 | .ItemV, l => ⟨⟨(l.getD 0 Dyn.d).as (.int .i64), (l.getD 1 Dyn.d).as (.str), (l.getD 2 Dyn.d).as (.str)⟩, ⟨(l.getD 3 Dyn.d).as (.int .i64), (l.getD 4 Dyn.d).as (.int .i64), (l.getD 5 Dyn.d).as (.str)⟩, (l.getD 6 Dyn.d).as (.int .i64)⟩
 | .LockV, l => ⟨(l.getD 0 Dyn.d).as (.str), (l.getD 1 Dyn.d).as (.int .i64), ⟨(l.getD 2 Dyn.d).as (.int .i64), (l.getD 3 Dyn.d).as (.int .i64), (l.getD 4 Dyn.d).as (.int .i64), (l.getD 5 Dyn.d).as (.str), ⟨(l.getD 6 Dyn.d).as (.int .i64), (l.getD 7 Dyn.d).as (.int .i64), (l.getD 8 Dyn.d).as (.str)⟩, ⟨(l.getD 9 Dyn.d).as (.int .i64), (l.getD 10 Dyn.d).as (.str), (l.getD 11 Dyn.d).as (.str)⟩, (l.getD 12 Dyn.d).as (.li .ExprV)⟩, (l.getD 13 Dyn.d).as (.bool), (l.getD 14 Dyn.d).as (.li .ItemV), (l.getD 15 Dyn.d).as (.li .ItemV)⟩
 | .Config, l => ⟨⟨(l.getD 0 Dyn.d).as (.li .Cluster), (l.getD 1 Dyn.d).as (.li .Dev)⟩, (l.getD 2 Dyn.d).as (.li .str), (l.getD 3 Dyn.d).as (.li .LockV), ⟨(l.getD 4 Dyn.d).as (.int .i64), (l.getD 5 Dyn.d).as (.li .Change)⟩, (l.getD 6 Dyn.d).as (.int .u64)⟩
 | .SpanV, l => ⟨(l.getD 0 Dyn.d).as (.int .i64), (l.getD 1 Dyn.d).as (.int .i64)⟩
 | .Member, l => ⟨(l.getD 0 Dyn.d).as (.str), (l.getD 1 Dyn.d).as (.int .i64), (l.getD 2 Dyn.d).as (.li .SpanV), (l.getD 3 Dyn.d).as (.li .str), (l.getD 4 Dyn.d).as (.bool)⟩
 | .Window, l => ⟨(l.getD 0 Dyn.d).as (.int .i64), (l.getD 1 Dyn.d).as (.int .u64)⟩
 | .Guest, l => ⟨(l.getD 0 Dyn.d).as (.str), ⟨(l.getD 1 Dyn.d).as (.int .i64), (l.getD 2 Dyn.d).as (.int .u64)⟩⟩
 | .Cause, l => ⟨(l.getD 0 Dyn.d).as (.int .i64), (l.getD 1 Dyn.d).as (.str), (l.getD 2 Dyn.d).as (.int .i64)⟩
 | .WriteV, l => ⟨⟨(l.getD 0 Dyn.d).as (.int .i64), (l.getD 1 Dyn.d).as (.str), (l.getD 2 Dyn.d).as (.str)⟩, ⟨(l.getD 3 Dyn.d).as (.int .i64), (l.getD 4 Dyn.d).as (.int .i64), (l.getD 5 Dyn.d).as (.str)⟩, ⟨(l.getD 6 Dyn.d).as (.int .i64), (l.getD 7 Dyn.d).as (.str), (l.getD 8 Dyn.d).as (.int .i64)⟩, (l.getD 9 Dyn.d).as (.int .i64)⟩
 | .Session, l => ⟨(l.getD 0 Dyn.d).as (.str), (l.getD 1 Dyn.d).as (.int .i64), (l.getD 2 Dyn.d).as (.int .i64), (l.getD 3 Dyn.d).as (.int .i64)⟩
 | .Case, l => ⟨⟨⟨(l.getD 0 Dyn.d).as (.li .Cluster), (l.getD 1 Dyn.d).as (.li .Dev)⟩, (l.getD 2 Dyn.d).as (.li .str), (l.getD 3 Dyn.d).as (.li .LockV), ⟨(l.getD 4 Dyn.d).as (.int .i64), (l.getD 5 Dyn.d).as (.li .Change)⟩, (l.getD 6 Dyn.d).as (.int .u64)⟩, (l.getD 7 Dyn.d).as (.li .Member), (l.getD 8 Dyn.d).as (.li .Guest), (l.getD 9 Dyn.d).as (.li .i64), ⟨(l.getD 10 Dyn.d).as (.str), ⟨(l.getD 11 Dyn.d).as (.int .i64), (l.getD 12 Dyn.d).as (.int .i64), ⟨(l.getD 13 Dyn.d).as (.int .i64), (l.getD 14 Dyn.d).as (.str), (l.getD 15 Dyn.d).as (.str)⟩, (l.getD 16 Dyn.d).as (.str), ⟨(l.getD 17 Dyn.d).as (.int .i64), (l.getD 18 Dyn.d).as (.int .i64), (l.getD 19 Dyn.d).as (.str)⟩, (l.getD 20 Dyn.d).as (.str)⟩⟩, (l.getD 21 Dyn.d).as (.int .i64), (l.getD 22 Dyn.d).as (.int .i64)⟩
 | .Rd, l => ⟨(l.getD 0 Dyn.d).as (.str), (l.getD 1 Dyn.d).as (.int .i64), (l.getD 2 Dyn.d).as (.bool)⟩
 | .Rd2, l => ⟨(l.getD 0 Dyn.d).as (.str), (l.getD 1 Dyn.d).as (.int .i64), (l.getD 2 Dyn.d).as (.int .i64), (l.getD 3 Dyn.d).as (.bool)⟩
def cT (i : TC) (x : tbl i) : List RV := (cD i x).map Dyn.rv
def nT : TC → Nat
 | .str => 1
 | .i64 => 1
 | .bool => 1
 | .u8 => 1
 | .Val => 3
 | .KeyV => 3
 | .EventV => 3
 | .Req => 10
 | .AskedV => 11
 | .ActV => 23
 | .Effect => 3
 | .Attr => 7
 | .Command => 9
 | .Cluster => 4
 | .Dev => 7
 | .Home => 2
 | .Change => 2
 | .Zone => 2
 | .ExprV => 11
 | .ItemV => 7
 | .LockV => 16
 | .Config => 7
 | .SpanV => 2
 | .Member => 5
 | .Window => 2
 | .Guest => 3
 | .Cause => 3
 | .WriteV => 10
 | .Session => 4
 | .Case => 23
 | .Rd => 3
 | .Rd2 => 4
theorem cD_ty (i : TC) (x : tbl i) : (cD i x).map Dyn.r = fT i := by cases i <;> rfl
theorem cT_len (i : TC) (x : tbl i) : (cT i x).length = nT i := by cases i <;> rfl
theorem as_self (d : Dyn) : (⟨d.r, d.as d.r⟩ : Dyn) = d := by
 unfold Dyn.as
 split
 ·rfl
 ·rename_i h _; exact absurd rfl h
theorem as_eq {d : Dyn} {r : Rt} (h : d.r = r) : (⟨r, d.as r⟩ : Dyn) = d := by subst h; exact as_self d
theorem map0 {α β : Type} {f : α → β} {l : List α} (h : l.map f = []) : l = [] := by cases l <;> simp_all
theorem map1 {α β : Type} {f : α → β} {l : List α} {b : β} {bs : List β} (h : l.map f = b :: bs) : ∃ a l', l = a :: l' ∧ f a = b ∧ l'.map f = bs := by
 cases l with
 | nil => cases h
 | cons a l' => simp only [List.map_cons, List.cons.injEq] at h; exact ⟨a, l', rfl, h.1, h.2⟩
theorem cD_mT (i : TC) (l : List Dyn) (h : l.map Dyn.r = fT i) : cD i (mT i l) = l := by
 cases i <;> simp only [fT] at h <;> (repeat (obtain ⟨_, _, rfl, hr, h⟩ := map1 h; rw [← as_eq hr]; clear hr)) <;> (cases map0 h) <;> rfl
end Go.Av
