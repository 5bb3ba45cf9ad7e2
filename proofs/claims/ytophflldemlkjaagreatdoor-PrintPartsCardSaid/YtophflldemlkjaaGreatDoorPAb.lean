import Derived.Test.YtophflldemlkjaaGreatDoorChecked
import Derived.Below
import Derived.Deep.RegionHeld
import Derived.Deep.LoopGhost
namespace Go.Proofs.YtophflldemlkjaaGreatDoor
abbrev By:=List UInt8
abbrev LB:=List (List UInt8)
abbrev OA:=Option Addr
theorem _root_.Go.RowKit.Hid.o {p:Prop}(h:Go.RowKit.Hid p):p:=h
theorem _root_.Go.Shut.o {p:Prop}(h:Go.Shut p):p:=h
theorem _root_.Go.Aside.o {p:Prop}(h:Go.Aside p):p:=h
